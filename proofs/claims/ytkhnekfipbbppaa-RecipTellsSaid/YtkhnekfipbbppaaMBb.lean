/-
  An abstract machine for this program, contracts of its functions: part MBb (no statement by itself).
-/
import Derived.Test.YtkhnekfipbbppaaMBa
set_option linter.unusedVariables false
set_option linter.unusedSimpArgs false

/-
  bits: Mul64, Len64, LeadingZeros64.
-/
namespace Go.Proofs
open Go Go.Abs Go.Nums
attribute [local irreducible] thenA blockA awp aw Stp EndF aOps
set_option linter.unusedSimpArgs false

theorem c_mul64 (x y : Nat) (hx : x < B) (hy : y < B) : AFun Try.prog 90 [uv x, uv y] (.tup [uv (x * y / 18446744073709551616), uv (x * y % 18446744073709551616)]) := by
  have hx : x < 18446744073709551616 := hx
  have hy : y < 18446744073709551616 := hy
  refine afun (mu := muF) Try.func90 rfl (by decide) rfl (by decide) (Nat.le_of_ble_eq_true rfl) (by simp [nm0, AVal.at, AVal.at1, Cell.at]) (by simp [nm0, AVal.at, AVal.at1, Cell.at]) fun S hS => ?_
  repeat refine gO ?_
  (first | refine stp_mul 4294967295 4294967295 (by exact rfl) (by exact rfl) (by first | exact True.intro | omega | (simp only [and_true, List.length_map, List.length_replicate, List.length_set, List.length_append, List.length_cons, List.length_nil, List.length_take, List.length_drop] at *; omega)) (by first | exact True.intro | omega | (simp only [and_true, List.length_map, List.length_replicate, List.length_set, List.length_append, List.length_cons, List.length_nil, List.length_take, List.length_drop] at *; omega)) (by decide) (fun p00 hp00 hp000 hp001 => ?_) | refine aw_cons (stp_mul 4294967295 4294967295 (by exact rfl) (by exact rfl) (by first | exact True.intro | omega | (simp only [and_true, List.length_map, List.length_replicate, List.length_set, List.length_append, List.length_cons, List.length_nil, List.length_take, List.length_drop] at *; omega)) (by first | exact True.intro | omega | (simp only [and_true, List.length_map, List.length_replicate, List.length_set, List.length_append, List.length_cons, List.length_nil, List.length_take, List.length_drop] at *; omega)) (by decide) (fun p00 hp00 hp000 hp001 => ?_)) | refine aOps_cons (stp_mul 4294967295 4294967295 (by exact rfl) (by exact rfl) (by first | exact True.intro | omega | (simp only [and_true, List.length_map, List.length_replicate, List.length_set, List.length_append, List.length_cons, List.length_nil, List.length_take, List.length_drop] at *; omega)) (by first | exact True.intro | omega | (simp only [and_true, List.length_map, List.length_replicate, List.length_set, List.length_append, List.length_cons, List.length_nil, List.length_take, List.length_drop] at *; omega)) (by decide) (fun p00 hp00 hp000 hp001 => ?_)))
  repeat refine gO ?_
  (first | refine stp_mul 4294967295 4294967295 (by exact rfl) (by exact rfl) (by first | exact True.intro | omega | (simp only [and_true, List.length_map, List.length_replicate, List.length_set, List.length_append, List.length_cons, List.length_nil, List.length_take, List.length_drop] at *; omega)) (by first | exact True.intro | omega | (simp only [and_true, List.length_map, List.length_replicate, List.length_set, List.length_append, List.length_cons, List.length_nil, List.length_take, List.length_drop] at *; omega)) (by decide) (fun p10 hp10 hp100 hp101 => ?_) | refine aw_cons (stp_mul 4294967295 4294967295 (by exact rfl) (by exact rfl) (by first | exact True.intro | omega | (simp only [and_true, List.length_map, List.length_replicate, List.length_set, List.length_append, List.length_cons, List.length_nil, List.length_take, List.length_drop] at *; omega)) (by first | exact True.intro | omega | (simp only [and_true, List.length_map, List.length_replicate, List.length_set, List.length_append, List.length_cons, List.length_nil, List.length_take, List.length_drop] at *; omega)) (by decide) (fun p10 hp10 hp100 hp101 => ?_)) | refine aOps_cons (stp_mul 4294967295 4294967295 (by exact rfl) (by exact rfl) (by first | exact True.intro | omega | (simp only [and_true, List.length_map, List.length_replicate, List.length_set, List.length_append, List.length_cons, List.length_nil, List.length_take, List.length_drop] at *; omega)) (by first | exact True.intro | omega | (simp only [and_true, List.length_map, List.length_replicate, List.length_set, List.length_append, List.length_cons, List.length_nil, List.length_take, List.length_drop] at *; omega)) (by decide) (fun p10 hp10 hp100 hp101 => ?_)))
  repeat refine gO ?_
  (first | refine stp_mul 4294967295 4294967295 (by exact rfl) (by exact rfl) (by first | exact True.intro | omega | (simp only [and_true, List.length_map, List.length_replicate, List.length_set, List.length_append, List.length_cons, List.length_nil, List.length_take, List.length_drop] at *; omega)) (by first | exact True.intro | omega | (simp only [and_true, List.length_map, List.length_replicate, List.length_set, List.length_append, List.length_cons, List.length_nil, List.length_take, List.length_drop] at *; omega)) (by decide) (fun p01 hp01 hp010 hp011 => ?_) | refine aw_cons (stp_mul 4294967295 4294967295 (by exact rfl) (by exact rfl) (by first | exact True.intro | omega | (simp only [and_true, List.length_map, List.length_replicate, List.length_set, List.length_append, List.length_cons, List.length_nil, List.length_take, List.length_drop] at *; omega)) (by first | exact True.intro | omega | (simp only [and_true, List.length_map, List.length_replicate, List.length_set, List.length_append, List.length_cons, List.length_nil, List.length_take, List.length_drop] at *; omega)) (by decide) (fun p01 hp01 hp010 hp011 => ?_)) | refine aOps_cons (stp_mul 4294967295 4294967295 (by exact rfl) (by exact rfl) (by first | exact True.intro | omega | (simp only [and_true, List.length_map, List.length_replicate, List.length_set, List.length_append, List.length_cons, List.length_nil, List.length_take, List.length_drop] at *; omega)) (by first | exact True.intro | omega | (simp only [and_true, List.length_map, List.length_replicate, List.length_set, List.length_append, List.length_cons, List.length_nil, List.length_take, List.length_drop] at *; omega)) (by decide) (fun p01 hp01 hp010 hp011 => ?_)))
  repeat refine gO ?_
  (first | refine stp_mul 4294967295 4294967295 (by exact rfl) (by exact rfl) (by first | exact True.intro | omega | (simp only [and_true, List.length_map, List.length_replicate, List.length_set, List.length_append, List.length_cons, List.length_nil, List.length_take, List.length_drop] at *; omega)) (by first | exact True.intro | omega | (simp only [and_true, List.length_map, List.length_replicate, List.length_set, List.length_append, List.length_cons, List.length_nil, List.length_take, List.length_drop] at *; omega)) (by decide) (fun p11 hp11 hp110 hp111 => ?_) | refine aw_cons (stp_mul 4294967295 4294967295 (by exact rfl) (by exact rfl) (by first | exact True.intro | omega | (simp only [and_true, List.length_map, List.length_replicate, List.length_set, List.length_append, List.length_cons, List.length_nil, List.length_take, List.length_drop] at *; omega)) (by first | exact True.intro | omega | (simp only [and_true, List.length_map, List.length_replicate, List.length_set, List.length_append, List.length_cons, List.length_nil, List.length_take, List.length_drop] at *; omega)) (by decide) (fun p11 hp11 hp110 hp111 => ?_)) | refine aOps_cons (stp_mul 4294967295 4294967295 (by exact rfl) (by exact rfl) (by first | exact True.intro | omega | (simp only [and_true, List.length_map, List.length_replicate, List.length_set, List.length_append, List.length_cons, List.length_nil, List.length_take, List.length_drop] at *; omega)) (by first | exact True.intro | omega | (simp only [and_true, List.length_map, List.length_replicate, List.length_set, List.length_append, List.length_cons, List.length_nil, List.length_take, List.length_drop] at *; omega)) (by decide) (fun p11 hp11 hp110 hp111 => ?_)))
  repeat refine gO ?_
  (first | refine stp_mulW (x) (y) (by exact rfl) (by exact rfl) (by first | exact True.intro | omega | (simp only [and_true, List.length_map, List.length_replicate, List.length_set, List.length_append, List.length_cons, List.length_nil, List.length_take, List.length_drop] at *; omega)) (by first | exact True.intro | omega | (simp only [and_true, List.length_map, List.length_replicate, List.length_set, List.length_append, List.length_cons, List.length_nil, List.length_take, List.length_drop] at *; omega)) ?_ | refine aw_cons (stp_mulW (x) (y) (by exact rfl) (by exact rfl) (by first | exact True.intro | omega | (simp only [and_true, List.length_map, List.length_replicate, List.length_set, List.length_append, List.length_cons, List.length_nil, List.length_take, List.length_drop] at *; omega)) (by first | exact True.intro | omega | (simp only [and_true, List.length_map, List.length_replicate, List.length_set, List.length_append, List.length_cons, List.length_nil, List.length_take, List.length_drop] at *; omega)) ?_) | refine aOps_cons (stp_mulW (x) (y) (by exact rfl) (by exact rfl) (by first | exact True.intro | omega | (simp only [and_true, List.length_map, List.length_replicate, List.length_set, List.length_append, List.length_cons, List.length_nil, List.length_take, List.length_drop] at *; omega)) (by first | exact True.intro | omega | (simp only [and_true, List.length_map, List.length_replicate, List.length_set, List.length_append, List.length_cons, List.length_nil, List.length_take, List.length_drop] at *; omega)) ?_))
  repeat refine gO ?_
  refine endF ttOk (.inr rfl) hS (by exact rfl) ?_ (fl' := [(4, uv (x * y / 18446744073709551616)), (5, uv (x * y % 18446744073709551616))]) (by exact rfl) (by exact rfl) (by exact rfl)
  refine ⟨⟨_, rfl, kN ?_⟩, ⟨_, rfl, kN ?_⟩, trivial⟩
  · have e : ((x * y : Nat) : Int) = p11 * 18446744073709551616 + (p10 + p01) * 4294967296 + p00 := by
      have ex : (x : Int) = (x : Int) / 4294967296 * 4294967296 + (x : Int) % 4294967296 := by omega
      have ey : (y : Int) = (y : Int) / 4294967296 * 4294967296 + (y : Int) % 4294967296 := by omega
      rw [hp11, hp10, hp01, hp00, Int.natCast_mul]
      generalize (x : Int) / 4294967296 = a at *
      generalize (x : Int) % 4294967296 = b at *
      generalize (y : Int) / 4294967296 = c at *
      generalize (y : Int) % 4294967296 = d at *
      rw [ex, ey]
      grind
    rw [Int.natCast_ediv, e]
    omega
  · rfl

/-- How many bits up to the highest one. -/
def blen (n : Nat) : Nat := if n = 0 then 0 else Nat.log2 n + 1
theorem blen_le (n k : Nat) : blen n ≤ k ↔ n < 2 ^ k := by
  unfold blen
  split
  · subst_vars; simp [Nat.two_pow_pos]
  · rename_i h
    rw [← Nat.log2_lt h]; omega
theorem blen_shift (n k : Nat) (h : 2 ^ k ≤ n) : blen n = blen (n / 2 ^ k) + k := by
  have hp : 0 < 2 ^ k := Nat.two_pow_pos k
  have h1 : ∀ q, blen n ≤ q + k ↔ blen (n / 2 ^ k) ≤ q := fun q => by
    rw [blen_le, blen_le, Nat.div_lt_iff_lt_mul hp, Nat.pow_add]
  have h2 : ¬ blen n ≤ k := fun q => by have := (blen_le n k).1 q; omega
  have h3 := (h1 (blen n - k)).1 (by omega)
  have h4 := (h1 (blen (n / 2 ^ k))).2 (Nat.le_refl _)
  omega

theorem tab_at (s : ByteArray) (h : ∀ i, i < 256 → (s[i]?).map UInt8.toNat = some (blen i)) (i : Nat) (hi : i < 256) : ∃ b, s[i]? = some b ∧ b.toNat = blen i := by
  have := h i hi
  cases e : s[i]? with
  | none => rw [e] at this; cases this
  | some b => rw [e] at this; exact ⟨b, rfl, Option.some.inj this⟩

theorem c_len64 (x : Nat) (hx : x < B) : AFun Try.prog 104 [uv x] (iv (blen x)) := by
  have hx : x < 18446744073709551616 := hx
  refine afun (mu := muF) Try.func104 rfl (by decide) rfl (by decide) (Nat.le_of_ble_eq_true rfl) (by simp [nm0, AVal.at, AVal.at1, Cell.at]) (by simp [nm0, AVal.at, AVal.at1, Cell.at]) fun S hS => ?_
  refine awp_seq ?_
  repeat refine gOR ?_
  refine awp_seq ?_
  refine awp_mid (fun st => ∃ y n : Nat, Weak st ⟨lk' [(0, uv y), (2, iv n)], ov [] (pushS S)⟩ ∧ y < 4294967296 ∧ blen x = blen y + n ∧ n ≤ 32) ?_ ?_
  · repeat refine gO ?_
    ((first | refine zw1 ?_ | refine zw2 ?_ | refine zw3 ?_); refine s_cmp (fun h1 => ?_) (fun h1 => ?_))
    · repeat refine gO ?_
      refine ⟨x / 2 ^ 32, 32, frz hS rfl trivial ⟨⟨_, rfl, kN (by omega)⟩, ⟨_, rfl, kN rfl⟩, trivial⟩, by omega, blen_shift x 32 (by omega), by omega⟩
    · repeat refine gO ?_
      exact ⟨x, 0, frz hS rfl trivial ⟨⟨_, rfl, kN rfl⟩, ⟨_, rfl, kN rfl⟩, trivial⟩, by omega, rfl, by omega⟩
  rintro st ⟨y, n, hw, hy, he, hn⟩
  refine awp_weak _ hw ?_
  refine awp_seq ?_
  refine awp_mid (fun st => ∃ y n : Nat, Weak st ⟨lk' [(0, uv y), (2, iv n)], ov [] (pushS S)⟩ ∧ y < 65536 ∧ blen x = blen y + n ∧ n ≤ 48) ?_ ?_
  · repeat refine gO ?_
    ((first | refine zw1 ?_ | refine zw2 ?_ | refine zw3 ?_); refine s_cmp (fun h1 => ?_) (fun h1 => ?_))
    · repeat refine gO ?_
      refine ⟨y / 2 ^ 16, n + 16, frz hS rfl trivial ⟨⟨_, rfl, kN (by omega)⟩, ⟨_, rfl, kN (by omega)⟩, trivial⟩, by omega, ?_, by omega⟩
      rw [he, blen_shift y 16 (by omega)]; omega
    · repeat refine gO ?_
      exact ⟨y, n, frz hS rfl trivial ⟨⟨_, rfl, kN rfl⟩, ⟨_, rfl, kN rfl⟩, trivial⟩, by omega, he, by omega⟩
  clear hw hy he hn y n
  rintro st ⟨y, n, hw, hy, he, hn⟩
  refine awp_weak _ hw ?_
  refine awp_seq ?_
  refine awp_mid (fun st => ∃ y n : Nat, Weak st ⟨lk' [(0, uv y), (2, iv n)], ov [] (pushS S)⟩ ∧ y < 256 ∧ blen x = blen y + n ∧ n ≤ 56) ?_ ?_
  · repeat refine gO ?_
    ((first | refine zw1 ?_ | refine zw2 ?_ | refine zw3 ?_); refine s_cmp (fun h1 => ?_) (fun h1 => ?_))
    · repeat refine gO ?_
      refine ⟨y / 2 ^ 8, n + 8, frz hS rfl trivial ⟨⟨_, rfl, kN (by omega)⟩, ⟨_, rfl, kN (by omega)⟩, trivial⟩, by omega, ?_, by omega⟩
      rw [he, blen_shift y 8 (by omega)]; omega
    · repeat refine gO ?_
      exact ⟨y, n, frz hS rfl trivial ⟨⟨_, rfl, kN rfl⟩, ⟨_, rfl, kN rfl⟩, trivial⟩, by omega, he, by omega⟩
  clear hw hy he hn y n
  rintro st ⟨y, n, hw, hy, he, hn⟩
  refine awp_weak _ hw ?_
  repeat refine gO ?_
  refine aw_cons (stp_sind' ttOk (blen y) (by exact rfl) (by exact rfl) (by exact rfl) (by omega) ?_ ?_)
  · rw [show ((y : Int)).toNat = y by omega]
    exact tab_at _ (by decide +kernel) y hy
  · have hb : blen y ≤ 8 := (blen_le y 8).2 hy
    repeat refine gO ?_
    refine endF ttOk (.inr rfl) hS (by exact rfl) ?_ (fl' := [(2, iv (blen x))]) (by exact rfl) (by exact rfl) (by exact rfl)
    refine ⟨⟨_, rfl, kN (by omega)⟩, trivial⟩

theorem c_lz64 (x : Nat) (hx : x < B) : AFun Try.prog 98 [uv x] (iv (64 - blen x)) := by
  refine afun (mu := muF) Try.func98 rfl (by decide) rfl (by decide) (Nat.le_of_ble_eq_true rfl) (by simp [nm0, AVal.at, AVal.at1, Cell.at]) (by simp [nm0, AVal.at, AVal.at1, Cell.at]) fun S hS => ?_
  have hb : blen x ≤ 64 := (blen_le x 64).2 hx
  repeat refine gO ?_
  ((first | refine zw1 ?_ | refine zw2 ?_ | refine zw3 ?_); refine s_call (c_len64 x hx) ?_)
  repeat refine gO ?_
  refine endF ttOk (.inr rfl) hS (by exact rfl) ?_ (fl' := [(2, iv (64 - blen x))]) (by exact rfl) (by exact rfl) (by exact rfl)
  refine ⟨⟨_, rfl, kN (by omega)⟩, trivial⟩
end Go.Proofs

/-
  bits: Div64.
-/
namespace Go.Proofs
open Go Go.Abs Go.Nums
attribute [local irreducible] thenA blockA awp aw Stp EndF aOps
set_option linter.unusedSimpArgs false

theorem c_div64 (hi lo y : Nat) (hhi : hi < y) (hlo : lo < 18446744073709551616) (hy : y < 18446744073709551616) : AFun Try.prog 103 [uv hi, uv lo, uv y] (.tup [uv ((hi * 18446744073709551616 + lo) / y), uv ((hi * 18446744073709551616 + lo) % y)]) := by
  refine afun (mu := muF) Try.func103 rfl (by decide) rfl (by decide) (Nat.le_of_ble_eq_true rfl) (by simp [nm0, AVal.at, AVal.at1, Cell.at]) (by simp [nm0, AVal.at, AVal.at1, Cell.at]) fun S hS => ?_
  repeat refine gO ?_
  ((first | refine zw1 ?_ | refine zw2 ?_ | refine zw3 ?_); refine s_cmp (fun h1 => ?_) (fun h1 => ?_))
  · exact absurd h1 (by omega)
  repeat refine gO ?_
  ((first | refine zw1 ?_ | refine zw2 ?_ | refine zw3 ?_); refine s_cmp (fun h2 => ?_) (fun h2 => ?_))
  · exact absurd h2 (by omega)
  repeat refine gO ?_
  ((first | refine zw1 ?_ | refine zw2 ?_ | refine zw3 ?_); refine s_cmp (fun h3 => ?_) (fun h3 => ?_))
  · have h0 : hi = 0 := by omega
    subst h0
    repeat refine gO ?_
    refine endF ttOk (.inr rfl) hS (by exact rfl) ?_ (fl' := [(6, uv ((0 * 18446744073709551616 + lo) / y)), (7, uv ((0 * 18446744073709551616 + lo) % y))]) (by exact rfl) (by exact rfl) (by exact rfl)
    refine ⟨⟨_, rfl, kN ?_⟩, ⟨_, rfl, kN ?_⟩, trivial⟩ <;> simp
  repeat refine gO ?_
  ((first | refine zw1 ?_ | refine zw2 ?_ | refine zw3 ?_); refine s_call (c_lz64 y hy) ?_)
  have hb : blen y ≤ 64 := (blen_le y 64).2 hy
  have hpos : 0 < y := by omega
  obtain ⟨s, hs⟩ : ∃ s, s = 64 - blen y := ⟨_, rfl⟩
  rw [← hs]
  have hs64 : s ≤ 64 := by omega
  have hbl : y < 2 ^ blen y := (blen_le y (blen y)).1 (Nat.le_refl _)
  have hbg : 2 ^ (blen y - 1) ≤ y := by
    have q : ¬ blen y ≤ blen y - 1 := by
      have : ¬ blen y ≤ 0 := fun q => by have := (blen_le y 0).1 q; omega
      omega
    rw [blen_le] at q; omega
  have hb1 : 1 ≤ blen y := by
    rcases Nat.eq_zero_or_pos (blen y) with q | q
    · rw [q] at hbl; omega
    · exact q
  have hp64 : 2 ^ blen y * 2 ^ s = 18446744073709551616 := by rw [← Nat.pow_add, show blen y + s = 64 by omega]
  have hp63 : 2 ^ (blen y - 1) * 2 ^ s = 9223372036854775808 := by rw [← Nat.pow_add, show blen y - 1 + s = 63 by omega]
  have hsp : 0 < 2 ^ s := Nat.two_pow_pos s
  have hY : y * 2 ^ s < 18446744073709551616 := by rw [← hp64]; exact Nat.mul_lt_mul_of_pos_right hbl hsp
  have hY2 : 9223372036854775808 ≤ y * 2 ^ s := by rw [← hp63]; exact Nat.mul_le_mul_right _ hbg
  have hh : (hi + 1) * 2 ^ s ≤ y * 2 ^ s := Nat.mul_le_mul_right _ hhi
  rw [Nat.succ_mul] at hh
  repeat refine gO ?_
  (first | refine stp_shlN (y) (s) (by exact rfl) (by exact rfl) (by first | exact True.intro | omega | (simp only [and_true, List.length_map, List.length_replicate, List.length_set, List.length_append, List.length_cons, List.length_nil, List.length_take, List.length_drop] at *; omega)) (by first | exact True.intro | omega | (simp only [and_true, List.length_map, List.length_replicate, List.length_set, List.length_append, List.length_cons, List.length_nil, List.length_take, List.length_drop] at *; omega)) ?_ | refine aw_cons (stp_shlN (y) (s) (by exact rfl) (by exact rfl) (by first | exact True.intro | omega | (simp only [and_true, List.length_map, List.length_replicate, List.length_set, List.length_append, List.length_cons, List.length_nil, List.length_take, List.length_drop] at *; omega)) (by first | exact True.intro | omega | (simp only [and_true, List.length_map, List.length_replicate, List.length_set, List.length_append, List.length_cons, List.length_nil, List.length_take, List.length_drop] at *; omega)) ?_) | refine aOps_cons (stp_shlN (y) (s) (by exact rfl) (by exact rfl) (by first | exact True.intro | omega | (simp only [and_true, List.length_map, List.length_replicate, List.length_set, List.length_append, List.length_cons, List.length_nil, List.length_take, List.length_drop] at *; omega)) (by first | exact True.intro | omega | (simp only [and_true, List.length_map, List.length_replicate, List.length_set, List.length_append, List.length_cons, List.length_nil, List.length_take, List.length_drop] at *; omega)) ?_))
  rw [Nat.mod_eq_of_lt hY]
  obtain ⟨Y, hYe⟩ : ∃ Y, Y = y * 2 ^ s := ⟨_, rfl⟩
  obtain ⟨H, hHe⟩ : ∃ H, H = hi * 2 ^ s := ⟨_, rfl⟩
  rw [← hYe, ← hHe] at hh
  rw [← hYe] at hY hY2
  rw [← hYe]
  repeat refine gO ?_
  refine aw_cons (stp_shlN hi s (by exact rfl) (by exact rfl) ?_ ?_ ?_)
  · omega
  · omega
  rw [← hHe, Nat.mod_eq_of_lt (show H < 18446744073709551616 by omega)]
  repeat refine gO ?_
  refine aw_cons (stp_shrN lo (64 - s) (by exact rfl) (by exact rfl) ?_ ?_ ?_ ?_)
  · omega
  · omega
  · omega
  repeat refine gO ?_
  have hl1 : lo / 2 ^ (64 - s) < 2 ^ s := by
    rw [Nat.div_lt_iff_lt_mul (Nat.two_pow_pos _), ← Nat.pow_add, show s + (64 - s) = 64 by omega]; exact hlo
  (first | refine stp_orN (H) (lo / 2 ^ (64 - s)) (by exact rfl) (by exact rfl) (by first | exact True.intro | omega | (simp only [and_true, List.length_map, List.length_replicate, List.length_set, List.length_append, List.length_cons, List.length_nil, List.length_take, List.length_drop] at *; omega)) (by first | exact True.intro | omega | (simp only [and_true, List.length_map, List.length_replicate, List.length_set, List.length_append, List.length_cons, List.length_nil, List.length_take, List.length_drop] at *; omega)) (by first | exact True.intro | omega | (simp only [and_true, List.length_map, List.length_replicate, List.length_set, List.length_append, List.length_cons, List.length_nil, List.length_take, List.length_drop] at *; omega)) (by first | exact True.intro | omega | (simp only [and_true, List.length_map, List.length_replicate, List.length_set, List.length_append, List.length_cons, List.length_nil, List.length_take, List.length_drop] at *; omega)) ?_ | refine aw_cons (stp_orN (H) (lo / 2 ^ (64 - s)) (by exact rfl) (by exact rfl) (by first | exact True.intro | omega | (simp only [and_true, List.length_map, List.length_replicate, List.length_set, List.length_append, List.length_cons, List.length_nil, List.length_take, List.length_drop] at *; omega)) (by first | exact True.intro | omega | (simp only [and_true, List.length_map, List.length_replicate, List.length_set, List.length_append, List.length_cons, List.length_nil, List.length_take, List.length_drop] at *; omega)) (by first | exact True.intro | omega | (simp only [and_true, List.length_map, List.length_replicate, List.length_set, List.length_append, List.length_cons, List.length_nil, List.length_take, List.length_drop] at *; omega)) (by first | exact True.intro | omega | (simp only [and_true, List.length_map, List.length_replicate, List.length_set, List.length_append, List.length_cons, List.length_nil, List.length_take, List.length_drop] at *; omega)) ?_) | refine aOps_cons (stp_orN (H) (lo / 2 ^ (64 - s)) (by exact rfl) (by exact rfl) (by first | exact True.intro | omega | (simp only [and_true, List.length_map, List.length_replicate, List.length_set, List.length_append, List.length_cons, List.length_nil, List.length_take, List.length_drop] at *; omega)) (by first | exact True.intro | omega | (simp only [and_true, List.length_map, List.length_replicate, List.length_set, List.length_append, List.length_cons, List.length_nil, List.length_take, List.length_drop] at *; omega)) (by first | exact True.intro | omega | (simp only [and_true, List.length_map, List.length_replicate, List.length_set, List.length_append, List.length_cons, List.length_nil, List.length_take, List.length_drop] at *; omega)) (by first | exact True.intro | omega | (simp only [and_true, List.length_map, List.length_replicate, List.length_set, List.length_append, List.length_cons, List.length_nil, List.length_take, List.length_drop] at *; omega)) ?_))
  rw [show H ||| lo / 2 ^ (64 - s) = H + lo / 2 ^ (64 - s) by rw [hHe, Nat.mul_comm, Nat.two_pow_add_eq_or_of_lt hl1]]
  obtain ⟨u, hu⟩ : ∃ u, u = H + lo / 2 ^ (64 - s) := ⟨_, rfl⟩
  rw [← hu]
  repeat refine gO ?_
  refine aw_cons (stp_shlN (lo) (s) (by exact rfl) (by exact rfl) (by first | exact True.intro | omega | (simp only [and_true, List.length_map, List.length_replicate, List.length_set, List.length_append, List.length_cons, List.length_nil, List.length_take, List.length_drop] at *; omega)) (by first | exact True.intro | omega | (simp only [and_true, List.length_map, List.length_replicate, List.length_set, List.length_append, List.length_cons, List.length_nil, List.length_take, List.length_drop] at *; omega)) ?_)
  obtain ⟨w, hw⟩ : ∃ w, w = lo * 2 ^ s % 18446744073709551616 := ⟨_, rfl⟩
  have hw64 : w < 18446744073709551616 := by omega
  rw [← hw]
  obtain ⟨a, hae⟩ : ∃ a, a = Y / 4294967296 := ⟨_, rfl⟩
  obtain ⟨c, hce⟩ : ∃ c, c = Y % 4294967296 := ⟨_, rfl⟩
  obtain ⟨v1, hv1⟩ : ∃ v1, v1 = w / 4294967296 := ⟨_, rfl⟩
  obtain ⟨v0, hv0⟩ : ∃ v0, v0 = w % 4294967296 := ⟨_, rfl⟩
  have hYac : Y = a * 4294967296 + c := by omega
  have ha31 : 2147483648 ≤ a := by omega
  have ha32 : a < 4294967296 := by omega
  have ha0 : 0 < a := by omega
  have hc32 : c < 4294967296 := by omega
  have hv1' : v1 < 4294967296 := by omega
  have hv0' : v0 < 4294967296 := by omega
  have hY0 : 0 < Y := by omega
  have hlo2 : (hi * 18446744073709551616 + lo) * 2 ^ s = u * 18446744073709551616 + w := by
    have q1 : lo * 2 ^ s / 18446744073709551616 = lo / 2 ^ (64 - s) := by
      rw [show (18446744073709551616 : Nat) = 2 ^ (64 - s) * 2 ^ s by rw [← Nat.pow_add, show 64 - s + s = 64 by omega], Nat.mul_div_mul_right _ _ hsp]
    have q2 := Nat.div_add_mod (lo * 2 ^ s) 18446744073709551616
    rw [q1, ← hw] at q2
    rw [Nat.add_mul, hu, ← q2, Nat.mul_right_comm, ← hHe]
    omega
  have huY : u < Y := by
    have q1 : (hi * 18446744073709551616 + lo) * 2 ^ s < y * 18446744073709551616 * 2 ^ s := Nat.mul_lt_mul_of_pos_right (by omega) hsp
    rw [hlo2, Nat.mul_right_comm, ← hYe] at q1
    omega
  have hma := Nat.div_mul_le_self u a
  repeat refine gO ?_
  rw [← hae]
  (first | refine stp_mulN (u / a) (a) (by exact rfl) (by exact rfl) (by first | exact True.intro | omega | (simp only [and_true, List.length_map, List.length_replicate, List.length_set, List.length_append, List.length_cons, List.length_nil, List.length_take, List.length_drop] at *; omega)) (by first | exact True.intro | omega | (simp only [and_true, List.length_map, List.length_replicate, List.length_set, List.length_append, List.length_cons, List.length_nil, List.length_take, List.length_drop] at *; omega)) (by omega) ?_ | refine aw_cons (stp_mulN (u / a) (a) (by exact rfl) (by exact rfl) (by first | exact True.intro | omega | (simp only [and_true, List.length_map, List.length_replicate, List.length_set, List.length_append, List.length_cons, List.length_nil, List.length_take, List.length_drop] at *; omega)) (by first | exact True.intro | omega | (simp only [and_true, List.length_map, List.length_replicate, List.length_set, List.length_append, List.length_cons, List.length_nil, List.length_take, List.length_drop] at *; omega)) (by omega) ?_) | refine aOps_cons (stp_mulN (u / a) (a) (by exact rfl) (by exact rfl) (by first | exact True.intro | omega | (simp only [and_true, List.length_map, List.length_replicate, List.length_set, List.length_append, List.length_cons, List.length_nil, List.length_take, List.length_drop] at *; omega)) (by first | exact True.intro | omega | (simp only [and_true, List.length_map, List.length_replicate, List.length_set, List.length_append, List.length_cons, List.length_nil, List.length_take, List.length_drop] at *; omega)) (by omega) ?_))
  repeat refine gO ?_
  refine awp_midB (fun st => Weak st ⟨lk' [(2, uv Y), (8, uv s), (9, uv a), (10, uv c), (11, uv u), (13, uv v1), (14, uv v0), (15, uv ((u * 4294967296 + v1) / Y))], ov [] (pushS S)⟩) ?_ ?_
  · refine awp_rep2 (fun q r : Nat => ⟨lk' [(2, uv Y), (8, uv s), (9, uv a), (10, uv c), (11, uv u), (13, uv v1), (14, uv v0), (15, uv q), (16, uv r)], ov [] (pushS S)⟩)
      (fun q r => q * a + r = u ∧ r < 4294967296 ∧ (u * 4294967296 + v1) / Y ≤ q ∧ q ≤ 4294967298) (fun q _ => q) (u / a) (u % a) ⟨Nat.div_add_mod' _ _, Nat.lt_trans (Nat.mod_lt _ ha0) ha32, kn_start hYac ha0 hv1', kn_small hYac ha31 hc32 huY⟩ ?_ ?_
    · have hdm := Nat.div_add_mod' u a
      exact frz hS rfl trivial ⟨⟨_, rfl, kN rfl⟩, ⟨_, rfl, kN rfl⟩, ⟨_, rfl, kN (by omega)⟩, ⟨_, rfl, kN (by omega)⟩, ⟨_, rfl, kN rfl⟩, ⟨_, rfl, kN (by omega)⟩, ⟨_, rfl, kN (by omega)⟩, ⟨_, rfl, kN rfl⟩, ⟨_, rfl, kN (by omega)⟩, trivial⟩
    · rintro q r ⟨e1, e2, e3, e4⟩
      have less : ¬ (q < 4294967296 ∧ q * c ≤ 4294967296 * r + v1) → (u * 4294967296 + v1) / Y < q := fun g => by
        by_cases g1 : q < 4294967296
        · refine kn_less hY0 ?_
          rw [← Nat.not_le, kn_le hYac e1]
          exact fun g2 => g ⟨g1, g2⟩
        · have := kn_lt huY hv1'
          omega
      have hqa : 0 < q → a ≤ q * a := fun g => Nat.le_mul_of_pos_left a g
      repeat refine gO ?_
      ((first | refine zw1 ?_ | refine zw2 ?_ | refine zw3 ?_); refine s_cmp (fun g1 => ?_) (fun g1 => ?_))
      · have hl := less (by omega)
        have hq0 : 0 < q := Nat.lt_of_le_of_lt (Nat.zero_le _) hl
        have hqa' := hqa hq0
        · repeat refine gO ?_
          ((first | refine zw1 ?_ | refine zw2 ?_ | refine zw3 ?_); refine s_cmp (fun g3 => ?_) (fun g3 => ?_))
          · repeat refine gO ?_
            have hq : q - 1 = (u * 4294967296 + v1) / Y := by
              refine kn_eq hY0 ((kn_le hYac (r := r + a) (by rw [Nat.sub_mul, Nat.one_mul]; omega)).2 ?_) (by omega)
              have q1 : (q - 1) * c ≤ 4294967297 * 4294967295 := Nat.mul_le_mul (by omega) (by omega)
              omega
            exact frz hS rfl trivial ⟨⟨_, rfl, kN rfl⟩, ⟨_, rfl, kN rfl⟩, ⟨_, rfl, kN rfl⟩, ⟨_, rfl, kN rfl⟩, ⟨_, rfl, kN rfl⟩, ⟨_, rfl, kN rfl⟩, ⟨_, rfl, kN rfl⟩, ⟨_, rfl, kN (by rw [← hq]; omega)⟩, trivial⟩
          · repeat refine gO ?_
            refine ⟨q - 1, r + a, frz hS rfl trivial ⟨⟨_, rfl, kN rfl⟩, ⟨_, rfl, kN rfl⟩, ⟨_, rfl, kN rfl⟩, ⟨_, rfl, kN rfl⟩, ⟨_, rfl, kN rfl⟩, ⟨_, rfl, kN rfl⟩, ⟨_, rfl, kN rfl⟩, ⟨_, rfl, kN (by omega)⟩, ⟨_, rfl, kN (by omega)⟩, trivial⟩, ⟨by rw [Nat.sub_mul, Nat.one_mul]; omega, by omega, by omega, by omega⟩, by omega⟩
      · repeat refine gO ?_
        have hqc : q * c ≤ 4294967295 * 4294967295 := Nat.mul_le_mul (by omega) (by omega)
        (first | refine stp_mulN (q) (c) (by exact rfl) (by exact rfl) (by first | exact True.intro | omega | (simp only [and_true, List.length_map, List.length_replicate, List.length_set, List.length_append, List.length_cons, List.length_nil, List.length_take, List.length_drop] at *; omega)) (by first | exact True.intro | omega | (simp only [and_true, List.length_map, List.length_replicate, List.length_set, List.length_append, List.length_cons, List.length_nil, List.length_take, List.length_drop] at *; omega)) (by omega) ?_ | refine aw_cons (stp_mulN (q) (c) (by exact rfl) (by exact rfl) (by first | exact True.intro | omega | (simp only [and_true, List.length_map, List.length_replicate, List.length_set, List.length_append, List.length_cons, List.length_nil, List.length_take, List.length_drop] at *; omega)) (by first | exact True.intro | omega | (simp only [and_true, List.length_map, List.length_replicate, List.length_set, List.length_append, List.length_cons, List.length_nil, List.length_take, List.length_drop] at *; omega)) (by omega) ?_) | refine aOps_cons (stp_mulN (q) (c) (by exact rfl) (by exact rfl) (by first | exact True.intro | omega | (simp only [and_true, List.length_map, List.length_replicate, List.length_set, List.length_append, List.length_cons, List.length_nil, List.length_take, List.length_drop] at *; omega)) (by first | exact True.intro | omega | (simp only [and_true, List.length_map, List.length_replicate, List.length_set, List.length_append, List.length_cons, List.length_nil, List.length_take, List.length_drop] at *; omega)) (by omega) ?_))
        repeat refine gO ?_
        ((first | refine zw1 ?_ | refine zw2 ?_ | refine zw3 ?_); refine s_cmp (fun g2 => ?_) (fun g2 => ?_))
        · have hl := less (by omega)
          have hq0 : 0 < q := Nat.lt_of_le_of_lt (Nat.zero_le _) hl
          have hqa' := hqa hq0
          repeat refine gO ?_
          ((first | refine zw1 ?_ | refine zw2 ?_ | refine zw3 ?_); refine s_cmp (fun g3 => ?_) (fun g3 => ?_))
          · repeat refine gO ?_
            have hq : q - 1 = (u * 4294967296 + v1) / Y := by
              refine kn_eq hY0 ((kn_le hYac (r := r + a) (by rw [Nat.sub_mul, Nat.one_mul]; omega)).2 ?_) (by omega)
              have q1 : (q - 1) * c ≤ 4294967297 * 4294967295 := Nat.mul_le_mul (by omega) (by omega)
              omega
            exact frz hS rfl trivial ⟨⟨_, rfl, kN rfl⟩, ⟨_, rfl, kN rfl⟩, ⟨_, rfl, kN rfl⟩, ⟨_, rfl, kN rfl⟩, ⟨_, rfl, kN rfl⟩, ⟨_, rfl, kN rfl⟩, ⟨_, rfl, kN rfl⟩, ⟨_, rfl, kN (by rw [← hq]; omega)⟩, trivial⟩
          · repeat refine gO ?_
            refine ⟨q - 1, r + a, frz hS rfl trivial ⟨⟨_, rfl, kN rfl⟩, ⟨_, rfl, kN rfl⟩, ⟨_, rfl, kN rfl⟩, ⟨_, rfl, kN rfl⟩, ⟨_, rfl, kN rfl⟩, ⟨_, rfl, kN rfl⟩, ⟨_, rfl, kN rfl⟩, ⟨_, rfl, kN (by omega)⟩, ⟨_, rfl, kN (by omega)⟩, trivial⟩, ⟨by rw [Nat.sub_mul, Nat.one_mul]; omega, by omega, by omega, by omega⟩, by omega⟩
        · repeat refine gO ?_
          have hq : q = (u * 4294967296 + v1) / Y := kn_eq hY0 ((kn_le hYac e1).2 (by omega)) e3
          exact frz hS rfl trivial ⟨⟨_, rfl, kN rfl⟩, ⟨_, rfl, kN rfl⟩, ⟨_, rfl, kN rfl⟩, ⟨_, rfl, kN rfl⟩, ⟨_, rfl, kN rfl⟩, ⟨_, rfl, kN rfl⟩, ⟨_, rfl, kN rfl⟩, ⟨_, rfl, kN (by rw [← hq])⟩, trivial⟩
  · intro st hw'
    refine awp_weak _ hw' ?_
    obtain ⟨q1, hq1⟩ : ∃ q1, q1 = (u * 4294967296 + v1) / Y := ⟨_, rfl⟩
    obtain ⟨R1, hR1e⟩ : ∃ R1, R1 = (u * 4294967296 + v1) % Y := ⟨_, rfl⟩
    have hq132 : q1 < 4294967296 := by rw [hq1]; exact kn_lt huY hv1'
    have hR1 : R1 < Y := by rw [hR1e]; exact Nat.mod_lt _ hY0
    have hN1 : q1 * Y + R1 = u * 4294967296 + v1 := by rw [hq1, hR1e]; exact Nat.div_add_mod' _ _
    rw [← hq1]
    repeat refine gO ?_
    (first | refine stp_mulW (u) (4294967296) (by exact rfl) (by exact rfl) (by first | exact True.intro | omega | (simp only [and_true, List.length_map, List.length_replicate, List.length_set, List.length_append, List.length_cons, List.length_nil, List.length_take, List.length_drop] at *; omega)) (by first | exact True.intro | omega | (simp only [and_true, List.length_map, List.length_replicate, List.length_set, List.length_append, List.length_cons, List.length_nil, List.length_take, List.length_drop] at *; omega)) ?_ | refine aw_cons (stp_mulW (u) (4294967296) (by exact rfl) (by exact rfl) (by first | exact True.intro | omega | (simp only [and_true, List.length_map, List.length_replicate, List.length_set, List.length_append, List.length_cons, List.length_nil, List.length_take, List.length_drop] at *; omega)) (by first | exact True.intro | omega | (simp only [and_true, List.length_map, List.length_replicate, List.length_set, List.length_append, List.length_cons, List.length_nil, List.length_take, List.length_drop] at *; omega)) ?_) | refine aOps_cons (stp_mulW (u) (4294967296) (by exact rfl) (by exact rfl) (by first | exact True.intro | omega | (simp only [and_true, List.length_map, List.length_replicate, List.length_set, List.length_append, List.length_cons, List.length_nil, List.length_take, List.length_drop] at *; omega)) (by first | exact True.intro | omega | (simp only [and_true, List.length_map, List.length_replicate, List.length_set, List.length_append, List.length_cons, List.length_nil, List.length_take, List.length_drop] at *; omega)) ?_))
    repeat refine gO ?_
    (first | refine stp_mulW (q1) (Y) (by exact rfl) (by exact rfl) (by first | exact True.intro | omega | (simp only [and_true, List.length_map, List.length_replicate, List.length_set, List.length_append, List.length_cons, List.length_nil, List.length_take, List.length_drop] at *; omega)) (by first | exact True.intro | omega | (simp only [and_true, List.length_map, List.length_replicate, List.length_set, List.length_append, List.length_cons, List.length_nil, List.length_take, List.length_drop] at *; omega)) ?_ | refine aw_cons (stp_mulW (q1) (Y) (by exact rfl) (by exact rfl) (by first | exact True.intro | omega | (simp only [and_true, List.length_map, List.length_replicate, List.length_set, List.length_append, List.length_cons, List.length_nil, List.length_take, List.length_drop] at *; omega)) (by first | exact True.intro | omega | (simp only [and_true, List.length_map, List.length_replicate, List.length_set, List.length_append, List.length_cons, List.length_nil, List.length_take, List.length_drop] at *; omega)) ?_) | refine aOps_cons (stp_mulW (q1) (Y) (by exact rfl) (by exact rfl) (by first | exact True.intro | omega | (simp only [and_true, List.length_map, List.length_replicate, List.length_set, List.length_append, List.length_cons, List.length_nil, List.length_take, List.length_drop] at *; omega)) (by first | exact True.intro | omega | (simp only [and_true, List.length_map, List.length_replicate, List.length_set, List.length_append, List.length_cons, List.length_nil, List.length_take, List.length_drop] at *; omega)) ?_))
    repeat refine gO ?_
    (first | refine stp_subW (by exact rfl) (by exact rfl) ?_ | refine aw_cons (stp_subW (by exact rfl) (by exact rfl) ?_) | refine aOps_cons (stp_subW (by exact rfl) (by exact rfl) ?_))
    repeat refine gO ?_
    refine aw_weak ⟨lk' [(2, uv Y), (8, uv s), (9, uv a), (10, uv c), (14, uv v0), (15, uv q1), (17, uv R1), (94, uv R1), (95, uv a)], ov [] (pushS S)⟩ ?_ ?_
    · exact frz hS rfl trivial ⟨⟨_, rfl, kN rfl⟩, ⟨_, rfl, kN rfl⟩, ⟨_, rfl, kN rfl⟩, ⟨_, rfl, kN rfl⟩, ⟨_, rfl, kN rfl⟩, ⟨_, rfl, kN rfl⟩, ⟨_, rfl, kN (by omega)⟩, ⟨_, rfl, kN (by omega)⟩, ⟨_, rfl, kN rfl⟩, trivial⟩
    have hma2 := Nat.div_mul_le_self R1 a
    repeat refine gO ?_
    refine awp_midB (fun st => Weak st ⟨lk' [(2, uv Y), (8, uv s), (9, uv a), (10, uv c), (14, uv v0), (15, uv q1), (17, uv R1), (18, uv ((R1 * 4294967296 + v0) / Y))], ov [] (pushS S)⟩) ?_ ?_
    · refine awp_rep2 (fun q r : Nat => ⟨lk' [(2, uv Y), (8, uv s), (9, uv a), (10, uv c), (14, uv v0), (15, uv q1), (17, uv R1), (18, uv q), (16, uv r)], ov [] (pushS S)⟩)
        (fun q r => q * a + r = R1 ∧ r < 4294967296 ∧ (R1 * 4294967296 + v0) / Y ≤ q ∧ q ≤ 4294967298) (fun q _ => q) (R1 / a) (R1 % a) ⟨Nat.div_add_mod' _ _, Nat.lt_trans (Nat.mod_lt _ ha0) ha32, kn_start hYac ha0 hv0', kn_small hYac ha31 hc32 hR1⟩ ?_ ?_
      · have hdm := Nat.div_add_mod' R1 a
        exact frz hS rfl trivial ⟨⟨_, rfl, kN rfl⟩, ⟨_, rfl, kN rfl⟩, ⟨_, rfl, kN rfl⟩, ⟨_, rfl, kN rfl⟩, ⟨_, rfl, kN rfl⟩, ⟨_, rfl, kN rfl⟩, ⟨_, rfl, kN rfl⟩, ⟨_, rfl, kN rfl⟩, ⟨_, rfl, kN (by omega)⟩, trivial⟩
      · rintro q r ⟨e1, e2, e3, e4⟩
        have less : ¬ (q < 4294967296 ∧ q * c ≤ 4294967296 * r + v0) → (R1 * 4294967296 + v0) / Y < q := fun g => by
          by_cases g1 : q < 4294967296
          · refine kn_less hY0 ?_
            rw [← Nat.not_le, kn_le hYac e1]
            exact fun g2 => g ⟨g1, g2⟩
          · have := kn_lt hR1 hv0'
            omega
        have hqa : 0 < q → a ≤ q * a := fun g => Nat.le_mul_of_pos_left a g
        repeat refine gO ?_
        ((first | refine zw1 ?_ | refine zw2 ?_ | refine zw3 ?_); refine s_cmp (fun g1 => ?_) (fun g1 => ?_))
        · have hl := less (by omega)
          have hq0 : 0 < q := Nat.lt_of_le_of_lt (Nat.zero_le _) hl
          have hqa' := hqa hq0
          · repeat refine gO ?_
            ((first | refine zw1 ?_ | refine zw2 ?_ | refine zw3 ?_); refine s_cmp (fun g3 => ?_) (fun g3 => ?_))
            · repeat refine gO ?_
              have hq : q - 1 = (R1 * 4294967296 + v0) / Y := by
                refine kn_eq hY0 ((kn_le hYac (r := r + a) (by rw [Nat.sub_mul, Nat.one_mul]; omega)).2 ?_) (by omega)
                have q1 : (q - 1) * c ≤ 4294967297 * 4294967295 := Nat.mul_le_mul (by omega) (by omega)
                omega
              exact frz hS rfl trivial ⟨⟨_, rfl, kN rfl⟩, ⟨_, rfl, kN rfl⟩, ⟨_, rfl, kN rfl⟩, ⟨_, rfl, kN rfl⟩, ⟨_, rfl, kN rfl⟩, ⟨_, rfl, kN rfl⟩, ⟨_, rfl, kN rfl⟩, ⟨_, rfl, kN (by rw [← hq]; omega)⟩, trivial⟩
            · repeat refine gO ?_
              refine ⟨q - 1, r + a, frz hS rfl trivial ⟨⟨_, rfl, kN rfl⟩, ⟨_, rfl, kN rfl⟩, ⟨_, rfl, kN rfl⟩, ⟨_, rfl, kN rfl⟩, ⟨_, rfl, kN rfl⟩, ⟨_, rfl, kN rfl⟩, ⟨_, rfl, kN rfl⟩, ⟨_, rfl, kN (by omega)⟩, ⟨_, rfl, kN (by omega)⟩, trivial⟩, ⟨by rw [Nat.sub_mul, Nat.one_mul]; omega, by omega, by omega, by omega⟩, by omega⟩
        · repeat refine gO ?_
          have hqc : q * c ≤ 4294967295 * 4294967295 := Nat.mul_le_mul (by omega) (by omega)
          (first | refine stp_mulN (q) (c) (by exact rfl) (by exact rfl) (by first | exact True.intro | omega | (simp only [and_true, List.length_map, List.length_replicate, List.length_set, List.length_append, List.length_cons, List.length_nil, List.length_take, List.length_drop] at *; omega)) (by first | exact True.intro | omega | (simp only [and_true, List.length_map, List.length_replicate, List.length_set, List.length_append, List.length_cons, List.length_nil, List.length_take, List.length_drop] at *; omega)) (by omega) ?_ | refine aw_cons (stp_mulN (q) (c) (by exact rfl) (by exact rfl) (by first | exact True.intro | omega | (simp only [and_true, List.length_map, List.length_replicate, List.length_set, List.length_append, List.length_cons, List.length_nil, List.length_take, List.length_drop] at *; omega)) (by first | exact True.intro | omega | (simp only [and_true, List.length_map, List.length_replicate, List.length_set, List.length_append, List.length_cons, List.length_nil, List.length_take, List.length_drop] at *; omega)) (by omega) ?_) | refine aOps_cons (stp_mulN (q) (c) (by exact rfl) (by exact rfl) (by first | exact True.intro | omega | (simp only [and_true, List.length_map, List.length_replicate, List.length_set, List.length_append, List.length_cons, List.length_nil, List.length_take, List.length_drop] at *; omega)) (by first | exact True.intro | omega | (simp only [and_true, List.length_map, List.length_replicate, List.length_set, List.length_append, List.length_cons, List.length_nil, List.length_take, List.length_drop] at *; omega)) (by omega) ?_))
          repeat refine gO ?_
          ((first | refine zw1 ?_ | refine zw2 ?_ | refine zw3 ?_); refine s_cmp (fun g2 => ?_) (fun g2 => ?_))
          · have hl := less (by omega)
            have hq0 : 0 < q := Nat.lt_of_le_of_lt (Nat.zero_le _) hl
            have hqa' := hqa hq0
            repeat refine gO ?_
            ((first | refine zw1 ?_ | refine zw2 ?_ | refine zw3 ?_); refine s_cmp (fun g3 => ?_) (fun g3 => ?_))
            · repeat refine gO ?_
              have hq : q - 1 = (R1 * 4294967296 + v0) / Y := by
                refine kn_eq hY0 ((kn_le hYac (r := r + a) (by rw [Nat.sub_mul, Nat.one_mul]; omega)).2 ?_) (by omega)
                have q1 : (q - 1) * c ≤ 4294967297 * 4294967295 := Nat.mul_le_mul (by omega) (by omega)
                omega
              exact frz hS rfl trivial ⟨⟨_, rfl, kN rfl⟩, ⟨_, rfl, kN rfl⟩, ⟨_, rfl, kN rfl⟩, ⟨_, rfl, kN rfl⟩, ⟨_, rfl, kN rfl⟩, ⟨_, rfl, kN rfl⟩, ⟨_, rfl, kN rfl⟩, ⟨_, rfl, kN (by rw [← hq]; omega)⟩, trivial⟩
            · repeat refine gO ?_
              refine ⟨q - 1, r + a, frz hS rfl trivial ⟨⟨_, rfl, kN rfl⟩, ⟨_, rfl, kN rfl⟩, ⟨_, rfl, kN rfl⟩, ⟨_, rfl, kN rfl⟩, ⟨_, rfl, kN rfl⟩, ⟨_, rfl, kN rfl⟩, ⟨_, rfl, kN rfl⟩, ⟨_, rfl, kN (by omega)⟩, ⟨_, rfl, kN (by omega)⟩, trivial⟩, ⟨by rw [Nat.sub_mul, Nat.one_mul]; omega, by omega, by omega, by omega⟩, by omega⟩
          · repeat refine gO ?_
            have hq : q = (R1 * 4294967296 + v0) / Y := kn_eq hY0 ((kn_le hYac e1).2 (by omega)) e3
            exact frz hS rfl trivial ⟨⟨_, rfl, kN rfl⟩, ⟨_, rfl, kN rfl⟩, ⟨_, rfl, kN rfl⟩, ⟨_, rfl, kN rfl⟩, ⟨_, rfl, kN rfl⟩, ⟨_, rfl, kN rfl⟩, ⟨_, rfl, kN rfl⟩, ⟨_, rfl, kN (by rw [← hq])⟩, trivial⟩
    · intro st hw'
      refine awp_weak _ hw' ?_
      obtain ⟨q0, hq0⟩ : ∃ q0, q0 = (R1 * 4294967296 + v0) / Y := ⟨_, rfl⟩
      obtain ⟨R2, hR2e⟩ : ∃ R2, R2 = (R1 * 4294967296 + v0) % Y := ⟨_, rfl⟩
      have hq032 : q0 < 4294967296 := by rw [hq0]; exact kn_lt hR1 hv0'
      have hR2 : R2 < Y := by rw [hR2e]; exact Nat.mod_lt _ hY0
      have hN2 : q0 * Y + R2 = R1 * 4294967296 + v0 := by rw [hq0, hR2e]; exact Nat.div_add_mod' _ _
      rw [← hq0]
      repeat refine gO ?_
      (first | refine stp_mulW (R1) (4294967296) (by exact rfl) (by exact rfl) (by first | exact True.intro | omega | (simp only [and_true, List.length_map, List.length_replicate, List.length_set, List.length_append, List.length_cons, List.length_nil, List.length_take, List.length_drop] at *; omega)) (by first | exact True.intro | omega | (simp only [and_true, List.length_map, List.length_replicate, List.length_set, List.length_append, List.length_cons, List.length_nil, List.length_take, List.length_drop] at *; omega)) ?_ | refine aw_cons (stp_mulW (R1) (4294967296) (by exact rfl) (by exact rfl) (by first | exact True.intro | omega | (simp only [and_true, List.length_map, List.length_replicate, List.length_set, List.length_append, List.length_cons, List.length_nil, List.length_take, List.length_drop] at *; omega)) (by first | exact True.intro | omega | (simp only [and_true, List.length_map, List.length_replicate, List.length_set, List.length_append, List.length_cons, List.length_nil, List.length_take, List.length_drop] at *; omega)) ?_) | refine aOps_cons (stp_mulW (R1) (4294967296) (by exact rfl) (by exact rfl) (by first | exact True.intro | omega | (simp only [and_true, List.length_map, List.length_replicate, List.length_set, List.length_append, List.length_cons, List.length_nil, List.length_take, List.length_drop] at *; omega)) (by first | exact True.intro | omega | (simp only [and_true, List.length_map, List.length_replicate, List.length_set, List.length_append, List.length_cons, List.length_nil, List.length_take, List.length_drop] at *; omega)) ?_))
      repeat refine gO ?_
      (first | refine stp_mulW (q0) (Y) (by exact rfl) (by exact rfl) (by first | exact True.intro | omega | (simp only [and_true, List.length_map, List.length_replicate, List.length_set, List.length_append, List.length_cons, List.length_nil, List.length_take, List.length_drop] at *; omega)) (by first | exact True.intro | omega | (simp only [and_true, List.length_map, List.length_replicate, List.length_set, List.length_append, List.length_cons, List.length_nil, List.length_take, List.length_drop] at *; omega)) ?_ | refine aw_cons (stp_mulW (q0) (Y) (by exact rfl) (by exact rfl) (by first | exact True.intro | omega | (simp only [and_true, List.length_map, List.length_replicate, List.length_set, List.length_append, List.length_cons, List.length_nil, List.length_take, List.length_drop] at *; omega)) (by first | exact True.intro | omega | (simp only [and_true, List.length_map, List.length_replicate, List.length_set, List.length_append, List.length_cons, List.length_nil, List.length_take, List.length_drop] at *; omega)) ?_) | refine aOps_cons (stp_mulW (q0) (Y) (by exact rfl) (by exact rfl) (by first | exact True.intro | omega | (simp only [and_true, List.length_map, List.length_replicate, List.length_set, List.length_append, List.length_cons, List.length_nil, List.length_take, List.length_drop] at *; omega)) (by first | exact True.intro | omega | (simp only [and_true, List.length_map, List.length_replicate, List.length_set, List.length_append, List.length_cons, List.length_nil, List.length_take, List.length_drop] at *; omega)) ?_))
      repeat refine gO ?_
      (first | refine stp_subW (by exact rfl) (by exact rfl) ?_ | refine aw_cons (stp_subW (by exact rfl) (by exact rfl) ?_) | refine aOps_cons (stp_subW (by exact rfl) (by exact rfl) ?_))
      repeat refine gO ?_
      (first | refine stp_shrN (R2) (s) (by exact rfl) (by exact rfl) (by first | exact True.intro | omega | (simp only [and_true, List.length_map, List.length_replicate, List.length_set, List.length_append, List.length_cons, List.length_nil, List.length_take, List.length_drop] at *; omega)) (by first | exact True.intro | omega | (simp only [and_true, List.length_map, List.length_replicate, List.length_set, List.length_append, List.length_cons, List.length_nil, List.length_take, List.length_drop] at *; omega)) (by first | exact True.intro | omega | (simp only [and_true, List.length_map, List.length_replicate, List.length_set, List.length_append, List.length_cons, List.length_nil, List.length_take, List.length_drop] at *; omega)) ?_ | refine aw_cons (stp_shrN (R2) (s) (by exact rfl) (by exact rfl) (by first | exact True.intro | omega | (simp only [and_true, List.length_map, List.length_replicate, List.length_set, List.length_append, List.length_cons, List.length_nil, List.length_take, List.length_drop] at *; omega)) (by first | exact True.intro | omega | (simp only [and_true, List.length_map, List.length_replicate, List.length_set, List.length_append, List.length_cons, List.length_nil, List.length_take, List.length_drop] at *; omega)) (by first | exact True.intro | omega | (simp only [and_true, List.length_map, List.length_replicate, List.length_set, List.length_append, List.length_cons, List.length_nil, List.length_take, List.length_drop] at *; omega)) ?_) | refine aOps_cons (stp_shrN (R2) (s) (by exact rfl) (by exact rfl) (by first | exact True.intro | omega | (simp only [and_true, List.length_map, List.length_replicate, List.length_set, List.length_append, List.length_cons, List.length_nil, List.length_take, List.length_drop] at *; omega)) (by first | exact True.intro | omega | (simp only [and_true, List.length_map, List.length_replicate, List.length_set, List.length_append, List.length_cons, List.length_nil, List.length_take, List.length_drop] at *; omega)) (by first | exact True.intro | omega | (simp only [and_true, List.length_map, List.length_replicate, List.length_set, List.length_append, List.length_cons, List.length_nil, List.length_take, List.length_drop] at *; omega)) ?_))
      repeat refine gO ?_
      have key : (hi * 18446744073709551616 + lo) * 2 ^ s = R2 + y * 2 ^ s * (q1 * 4294967296 + q0) := by
        rw [hlo2, ← hYe, Nat.mul_add, ← Nat.mul_assoc, Nat.mul_comm Y q1, Nat.mul_comm Y q0]
        omega
      have k1 := congrArg (· / (y * 2 ^ s)) key
      have k2 := congrArg (· % (y * 2 ^ s)) key
      simp only [Nat.mul_div_mul_right _ _ hsp, Nat.mul_mod_mul_right] at k1 k2
      rw [← hYe] at k1 k2
      rw [Nat.add_mul_div_left R2 _ hY0, Nat.div_eq_of_lt hR2, Nat.zero_add] at k1
      rw [Nat.add_mul_mod_self_left, Nat.mod_eq_of_lt hR2] at k2
      refine endF ttOk (.inr rfl) hS (by exact rfl) ?_ (fl' := [(6, uv ((hi * 18446744073709551616 + lo) / y)), (7, uv ((hi * 18446744073709551616 + lo) % y))]) (by exact rfl) (by exact rfl) (by exact rfl)
      refine ⟨⟨_, rfl, kN ?_⟩, ⟨_, rfl, kN ?_⟩, trivial⟩
      · rw [k1]; omega
      · rw [← k2, Nat.mul_div_cancel _ hsp]
end Go.Proofs

/-
  big: less.
-/
namespace Go.Proofs
open Go Go.Abs Go.Nums
attribute [local irreducible] thenA blockA awp aw Stp EndF aOps
set_option linter.unusedSimpArgs false

theorem c_less (p q : Nat) (hp : (digs B p).length < 2 ^ 40) (hqp : q ≤ p) : AFun Try.prog 73 [us (digs B p), us (digs B q)] (us (digs B (p - q))) := by
  refine afun (mu := muF) Try.func73 rfl (by decide) rfl (by decide) (Nat.le_of_ble_eq_true rfl) (by simp [nm0, AVal.at, AVal.at1, Cell.at]) (by simp [nm0, AVal.at, AVal.at1, Cell.at]) fun S hS => ?_
  have hle := len_mono hB hqp
  have hlp := U_len (digs B p)
  have hlq := U_len (digs B q)
  repeat refine gO ?_
  have e0 : ((U (digs B p)).length : Int).toNat = (digs B p).length := by omega
  refine awp_rep3 (fun (i : Nat) (o : List Nat) (c : Nat) => ⟨lk' [(0, us (digs B p)), (1, us (digs B q)), (5, .c (.win (.loc 12) 0 (digs B p).length (digs B p).length)), (6, uv c), (13, us (digs B p)), (14, iv (digs B p).length), (15, iv i)],
      ov [(.loc 12, .ints 26 .u64 (U o))] (pushS S)⟩)
    (fun i o c => i ≤ (digs B p).length ∧ o.length = (digs B p).length ∧ rng B o ∧ c ≤ 1 ∧ val B (o.take i) + val B ((digs B q).take i) = val B ((digs B p).take i) + B ^ i * c) (fun i _ _ => (digs B p).length - i)
    0 (List.replicate (digs B p).length 0) 0 ⟨Nat.zero_le _, by simp, rng_rep (by decide) _, by simp, by simp [val]⟩
    (frz hS rfl ⟨.inl ⟨_, ov_of lks, kO (by rw [e0]; exact U_rep _ 0)⟩, trivial⟩
      ⟨⟨_, rfl, kU rfl⟩, ⟨_, rfl, kU rfl⟩, ⟨_, rfl, kWin (by simp [ov, lkS]) rfl e0 e0⟩, ⟨_, rfl, kN rfl⟩, ⟨_, rfl, kU rfl⟩, ⟨_, rfl, kN (by omega)⟩, ⟨_, rfl, kN rfl⟩, trivial⟩) ?_
  rintro i o c ⟨h1, h2, h3, h4, h5⟩
  have hlo := U_len o
  repeat refine gO ?_
  ((first | refine zw1 ?_ | refine zw2 ?_ | refine zw3 ?_); refine s_cmp (fun h6 => ?_) (fun h6 => ?_))
  · repeat refine gOR ?_
    iterate 4 (refine awp_seq ?_; repeat refine gOR ?_)
    refine awp_seq ?_
    have ei : (i : Int).toNat = i := by omega
    refine awp_mid (fun st => Weak st ⟨lk' [(0, us (digs B p)), (1, us (digs B q)), (5, .c (.win (.loc 12) 0 (digs B p).length (digs B p).length)), (6, uv c), (7, iv i), (8, uv ((digs B p).getD i 0)), (9, uv ((digs B q).getD i 0)), (13, us (digs B p)), (14, iv (digs B p).length), (15, iv i)],
      ov [(.loc 12, .ints 26 .u64 (U o))] (pushS S)⟩) ?_ ?_
    · repeat refine gO ?_
      ((first | refine zw1 ?_ | refine zw2 ?_ | refine zw3 ?_); refine s_cmp (fun h7 => ?_) (fun h7 => ?_))
      · repeat refine gO ?_
        exact frz hS rfl ⟨.inl ⟨_, ov_of lks, kO rfl⟩, trivial⟩
          ⟨⟨_, rfl, kU rfl⟩, ⟨_, rfl, kU rfl⟩, ⟨_, rfl, kWin (by simp [ov, lkS]) rfl rfl rfl⟩, ⟨_, rfl, kN rfl⟩, ⟨_, rfl, kN rfl⟩, ⟨_, rfl, kN (by rw [U_get]; rfl)⟩, ⟨_, rfl, kN (by rw [U_get]; rfl)⟩, ⟨_, rfl, kU rfl⟩, ⟨_, rfl, kN rfl⟩, ⟨_, rfl, kN rfl⟩, trivial⟩
      · repeat refine gO ?_
        exact frz hS rfl ⟨.inl ⟨_, ov_of lks, kO rfl⟩, trivial⟩
          ⟨⟨_, rfl, kU rfl⟩, ⟨_, rfl, kU rfl⟩, ⟨_, rfl, kWin (by simp [ov, lkS]) rfl rfl rfl⟩, ⟨_, rfl, kN rfl⟩, ⟨_, rfl, kN rfl⟩, ⟨_, rfl, kN (by rw [U_get]; rfl)⟩, ⟨_, rfl, kN (by rw [List.getD_eq_getElem?_getD, List.getElem?_eq_none (by omega)]; rfl)⟩, ⟨_, rfl, kU rfl⟩, ⟨_, rfl, kN rfl⟩, ⟨_, rfl, kN rfl⟩, trivial⟩
    · intro st2 hw2
      refine awp_weak _ hw2 ?_
      repeat refine gO ?_
      ((first | refine zw1 ?_ | refine zw2 ?_ | refine zw3 ?_); refine s_call (c_sub64 _ _ c h4) ?_)
      repeat refine gO ?_
      have hx := getD_lt (b := B) (by decide) (rng_digs hB p) i
      have hy := getD_lt (b := B) (by decide) (rng_digs hB q) i
      refine ⟨i + 1, o.set i (((digs B p).getD i 0 + B - (digs B q).getD i 0 - c) % B), if (digs B p).getD i 0 < (digs B q).getD i 0 + c then 1 else 0,
        frz hS rfl ⟨.inl ⟨_, ov_of lks, kO (by rw [ei, Nat.zero_add]; exact U_set _ _ _)⟩, trivial⟩
          ⟨⟨_, rfl, kU rfl⟩, ⟨_, rfl, kU rfl⟩, ⟨_, rfl, kWin (by simp [ov, lkS]) rfl rfl rfl⟩, ⟨_, rfl, kN rfl⟩, ⟨_, rfl, kU rfl⟩, ⟨_, rfl, kN rfl⟩, ⟨_, rfl, kN rfl⟩, trivial⟩,
        ⟨by omega, by simpa using h2, rng_set h3 (Nat.mod_lt _ (by decide)), by split <;> omega, ?_⟩, by omega⟩
      rw [val_set_take (by omega), val_take_succ, val_take_succ]
      refine sub_step B (B ^ i) _ _ _ _ _ _ _ _ h5 ?_
      rw [show B = 18446744073709551616 from rfl] at *
      split <;> omega
  · repeat refine gO ?_
    have hi : i = (digs B p).length := by omega
    subst hi
    refine aw_weak ⟨lk' [(39, us o)], ov [] (pushS S)⟩ ?_ ?_
    · refine frz hS rfl trivial ⟨⟨_, rfl, kW (ov_of lks) rfl (by omega) ?_⟩, trivial⟩
      rw [List.drop_zero, U_take, take_all (by omega)]
    ((first | refine zw1 ?_ | refine zw2 ?_ | refine zw3 ?_); refine s_call (c_trim o h3 (by omega)) ?_)
    repeat refine gO ?_
    refine endF ttOk (.inr rfl) hS (by exact rfl) ?_ (fl' := [(4, us (digs B (p - q)))]) (by exact rfl) (by exact rfl) (by exact rfl)
    refine ⟨⟨_, rfl, kU ?_⟩, trivial⟩
    rw [take_all hle, take_all (Nat.le_refl _), take_all (by omega), val_digs hB, val_digs hB] at h5
    have h7 := val_lt h3
    rw [h2] at h7
    have hc : c = 0 := by
      rcases Nat.lt_or_ge 0 c with g | g
      · have : c = 1 := by omega
        rw [this, Nat.mul_one] at h5; omega
      · omega
    rw [hc] at h5
    congr 1
    omega
end Go.Proofs

/-
  big: times.
-/
namespace Go.Proofs
open Go Go.Abs Go.Nums
attribute [local irreducible] thenA blockA awp aw Stp EndF aOps
set_option linter.unusedSimpArgs false

theorem c_times (p q : Nat) (hp : (digs B p).length < 2 ^ 39) (hq : (digs B q).length < 2 ^ 39) : AFun Try.prog 69 [us (digs B p), us (digs B q)] (us (digs B (p * q))) := by
  refine afun (mu := muF) Try.func69 rfl (by decide) rfl (by decide) (Nat.le_of_ble_eq_true rfl) (by simp [nm0, AVal.at, AVal.at1, Cell.at]) (by simp [nm0, AVal.at, AVal.at1, Cell.at]) fun S hS => ?_
  have hlp := U_len (digs B p)
  have hlq := U_len (digs B q)
  repeat refine gO ?_
  ((first | refine zw1 ?_ | refine zw2 ?_ | refine zw3 ?_); refine s_cmp (fun g1 => ?_) (fun g1 => ?_))
  · repeat refine gO ?_
    have h0 : p = 0 := (digs_nil hB).1 (List.eq_nil_of_length_eq_zero (by omega))
    subst h0
    refine endF ttOk (.inr rfl) hS (by exact rfl) ?_ (fl' := [(4, us (digs B (0 * q)))]) (by exact rfl) (by exact rfl) (by exact rfl)
    refine ⟨⟨_, rfl, ?_⟩, trivial⟩
    rw [Nat.zero_mul, digs_zero]; exact kJ
  repeat refine gO ?_
  ((first | refine zw1 ?_ | refine zw2 ?_ | refine zw3 ?_); refine s_cmp (fun g2 => ?_) (fun g2 => ?_))
  · repeat refine gO ?_
    have h0 : q = 0 := (digs_nil hB).1 (List.eq_nil_of_length_eq_zero (by omega))
    subst h0
    refine endF ttOk (.inr rfl) hS (by exact rfl) ?_ (fl' := [(4, us (digs B (p * 0)))]) (by exact rfl) (by exact rfl) (by exact rfl)
    refine ⟨⟨_, rfl, ?_⟩, trivial⟩
    rw [Nat.mul_zero, digs_zero]; exact kJ
  repeat refine gO ?_
  obtain ⟨n, hn⟩ : ∃ n, n = (digs B p).length := ⟨_, rfl⟩
  obtain ⟨m, hm⟩ : ∃ m, m = (digs B q).length := ⟨_, rfl⟩
  obtain ⟨N, hN⟩ : ∃ N, N = n + m := ⟨_, rfl⟩
  have e0 : (((U (digs B p)).length : Int) + ((U (digs B q)).length : Int)).toNat = N := by omega
  refine awp_rep2 (fun (i : Nat) (o : List Nat) => ⟨lk' [(0, us (digs B p)), (1, us (digs B q)), (5, .c (.win (.loc 28) 0 N N)), (29, us (digs B p)), (30, iv n), (31, iv i)], ov [(.loc 28, .ints 26 .u64 (U o))] (pushS S)⟩)
    (fun i o => i ≤ n ∧ o.length = N ∧ rng B o ∧ (∀ j, i + m ≤ j → o.getD j 0 = 0) ∧ val B o = val B ((digs B p).take i) * q) (fun i _ => n - i)
    0 (List.replicate N 0) ⟨Nat.zero_le _, by simp, rng_rep (by decide) _, fun j _ => getD_rep0 N j, by
      rw [List.take_zero, val_nil, Nat.zero_mul]
      exact val_rep0 B N⟩
    (frz hS rfl ⟨.inl ⟨_, ov_of lks, kO (by rw [e0]; exact U_rep _ 0)⟩, trivial⟩
      ⟨⟨_, rfl, kU rfl⟩, ⟨_, rfl, kU rfl⟩, ⟨_, rfl, kWin (by simp [ov, lkS]) rfl e0 e0⟩, ⟨_, rfl, kU rfl⟩, ⟨_, rfl, kN (by omega)⟩, ⟨_, rfl, kN rfl⟩, trivial⟩) ?_
  rintro i o ⟨h1, h2, h3, h4, h5⟩
  repeat refine gO ?_
  ((first | refine zw1 ?_ | refine zw2 ?_ | refine zw3 ?_); refine s_cmp (fun h6 => ?_) (fun h6 => ?_))
  · repeat refine gO ?_
    have ei : (i : Int).toNat = i := by omega
    have hx := getD_lt (b := B) (by decide) (rng_digs hB p) i
    obtain ⟨x, hxe⟩ : ∃ x, x = (digs B p).getD i 0 := ⟨_, rfl⟩
    rw [← hxe] at hx
    refine awp_midB (fun st => ∃ (o' : List Nat) (c : Nat), Weak st ⟨lk' [(0, us (digs B p)), (1, us (digs B q)), (5, .c (.win (.loc 28) 0 N N)), (6, iv i), (7, uv x), (8, uv c), (29, us (digs B p)), (30, iv n), (31, iv i)], ov [(.loc 28, .ints 26 .u64 (U o'))] (pushS S)⟩ ∧
      o'.length = N ∧ rng B o' ∧ c < B ∧ (∀ j, i + m ≤ j → o'.getD j 0 = 0) ∧ val B o' + B ^ (i + m) * c = val B ((digs B p).take i) * q + B ^ i * x * q) ?_ ?_
    · refine awp_rep3 (fun (k : Nat) (o : List Nat) (c : Nat) => ⟨lk' [(0, us (digs B p)), (1, us (digs B q)), (5, .c (.win (.loc 28) 0 N N)), (6, iv i), (7, uv x), (8, uv c), (29, us (digs B p)), (30, iv n), (31, iv i), (36, us (digs B q)), (37, iv m), (38, iv k)], ov [(.loc 28, .ints 26 .u64 (U o))] (pushS S)⟩)
        (fun k o c => k ≤ m ∧ o.length = N ∧ rng B o ∧ c < B ∧ (∀ j, i + m ≤ j → o.getD j 0 = 0) ∧ val B o + B ^ (i + k) * c = val B ((digs B p).take i) * q + B ^ i * x * val B ((digs B q).take k)) (fun k _ _ => m - k)
        0 o 0 ⟨Nat.zero_le _, h2, h3, by decide, h4, by rw [h5, List.take_zero, val_nil]; simp⟩ ?_ ?_
      · exact frz hS rfl ⟨.inl ⟨_, ov_of lks, kO rfl⟩, trivial⟩
          ⟨⟨_, rfl, kU rfl⟩, ⟨_, rfl, kU rfl⟩, ⟨_, rfl, kWin (by simp [ov, lkS]) rfl rfl rfl⟩, ⟨_, rfl, kN rfl⟩, ⟨_, rfl, kN (by rw [hxe, ei, U_get])⟩, ⟨_, rfl, kN rfl⟩, ⟨_, rfl, kU rfl⟩, ⟨_, rfl, kN rfl⟩, ⟨_, rfl, kN rfl⟩, ⟨_, rfl, kU rfl⟩, ⟨_, rfl, kN (by omega)⟩, ⟨_, rfl, kN rfl⟩, trivial⟩
      · rintro k o c ⟨k1, k2, k3, k4, k5, k6⟩
        have hlo := U_len o
        repeat refine gO ?_
        ((first | refine zw1 ?_ | refine zw2 ?_ | refine zw3 ?_); refine s_cmp (fun k7 => ?_) (fun k7 => ?_))
        · repeat refine gO ?_
          have ek : (k : Int).toNat = k := by omega
          have eik : ((i : Int) + (k : Int)).toNat = i + k := by omega
          have hy := getD_lt (b := B) (by decide) (rng_digs hB q) k
          have ho := getD_lt (b := B) (by decide) k3 (i + k)
          rw [ek, U_get]
          obtain ⟨y, hye⟩ : ∃ y, y = (digs B q).getD k 0 := ⟨_, rfl⟩
          rw [← hye] at hy ⊢
          have hxy : x * y ≤ 18446744073709551615 * 18446744073709551615 := Nat.mul_le_mul (Nat.le_of_lt_succ hx) (Nat.le_of_lt_succ hy)
          ((first | refine zw1 ?_ | refine zw2 ?_ | refine zw3 ?_); refine s_call (c_mul64 x y hx hy) ?_)
          repeat refine gO ?_
          rw [eik, Nat.zero_add, U_get]
          obtain ⟨oj, hoj⟩ : ∃ oj, oj = o.getD (i + k) 0 := ⟨_, rfl⟩
          rw [← hoj] at ho ⊢
          have hx' : x < 18446744073709551616 := hx
          have hy' : y < 18446744073709551616 := hy
          have ho' : oj < 18446744073709551616 := ho
          have k4' : c < 18446744073709551616 := k4
          ((first | refine zw1 ?_ | refine zw2 ?_ | refine zw3 ?_); refine s_call (c_add64 _ _ 0 (by decide)) ?_)
          repeat refine gO ?_
          ((first | refine zw1 ?_ | refine zw2 ?_ | refine zw3 ?_); refine s_call (c_add64 _ _ 0 (by decide)) ?_)
          repeat refine gO ?_
          obtain ⟨t, ht⟩ : ∃ t, t = x * y + oj + c := ⟨_, rfl⟩
          have hs : ((x * y % 18446744073709551616 + oj + 0) % 18446744073709551616 + c + 0) % 18446744073709551616 = t % 18446744073709551616 := by omega
          have hc' : t / 18446744073709551616 < 18446744073709551616 := by omega
          refine ⟨k + 1, o.set (i + k) (t % 18446744073709551616), t / 18446744073709551616,
            frz hS rfl ⟨.inl ⟨_, ov_of lks, kO (by rw [eik, Nat.zero_add, hs]; exact U_set _ _ _)⟩, trivial⟩
              ⟨⟨_, rfl, kU rfl⟩, ⟨_, rfl, kU rfl⟩, ⟨_, rfl, kWin (by simp [ov, lkS]) rfl rfl rfl⟩, ⟨_, rfl, kN rfl⟩, ⟨_, rfl, kN rfl⟩, ⟨_, rfl, kN (by omega)⟩, ⟨_, rfl, kU rfl⟩, ⟨_, rfl, kN rfl⟩, ⟨_, rfl, kN rfl⟩, ⟨_, rfl, kU rfl⟩, ⟨_, rfl, kN rfl⟩, ⟨_, rfl, kN rfl⟩, trivial⟩,
            ⟨by omega, by simpa using k2, rng_set k3 (Nat.mod_lt _ (by decide)), hc', fun j hj => ?_, ?_⟩, by omega⟩
          · rw [getD_set (by omega), if_neg (by omega)]; exact k5 j hj
          · rw [val_take_succ, ← hye]
            have := val_set B (l := o) (j := i + k) (s := t % 18446744073709551616) (by omega)
            rw [← hoj] at this
            exact mul_step B i k (B ^ (i + k)) _ _ oj _ c _ x y _ _ rfl this k6 (by rw [← ht]; exact Nat.mod_add_div t 18446744073709551616)
        · repeat refine gO ?_
          have hk : k = m := by omega
          subst hk
          refine ⟨o, c, frz hS rfl ⟨.inl ⟨_, ov_of lks, kO rfl⟩, trivial⟩
            ⟨⟨_, rfl, kU rfl⟩, ⟨_, rfl, kU rfl⟩, ⟨_, rfl, kWin (by simp [ov, lkS]) rfl rfl rfl⟩, ⟨_, rfl, kN rfl⟩, ⟨_, rfl, kN rfl⟩, ⟨_, rfl, kN rfl⟩, ⟨_, rfl, kU rfl⟩, ⟨_, rfl, kN rfl⟩, ⟨_, rfl, kN rfl⟩, trivial⟩, k2, k3, k4, k5, ?_⟩
          rw [k6, take_all (l := digs B q) (by omega), val_digs hB]
    · rintro st ⟨o', c, hw, j1, j2, j3, j4, j5⟩
      refine awp_weak _ hw ?_
      have hlo := U_len o'
      repeat refine gO ?_
      have eim : ((i : Int) + ((U (digs B q)).length : Int)).toNat = i + m := by omega
      refine ⟨i + 1, o'.set (i + m) c, frz hS rfl ⟨.inl ⟨_, ov_of lks, kO (by rw [eim, Nat.zero_add]; exact U_set _ _ _)⟩, trivial⟩
        ⟨⟨_, rfl, kU rfl⟩, ⟨_, rfl, kU rfl⟩, ⟨_, rfl, kWin (by simp [ov, lkS]) rfl rfl rfl⟩, ⟨_, rfl, kU rfl⟩, ⟨_, rfl, kN rfl⟩, ⟨_, rfl, kN rfl⟩, trivial⟩,
        ⟨by omega, by simpa using j1, rng_set j2 j3, fun j hj => ?_, ?_⟩, by omega⟩
      · rw [getD_set (by omega), if_neg (by omega)]; exact j4 j (by omega)
      · have := val_set B (l := o') (j := i + m) (s := c) (by omega)
        rw [j4 (i + m) (Nat.le_refl _), Nat.mul_zero, Nat.add_zero, j5] at this
        rw [this, val_take_succ, ← hxe, Nat.add_mul]
  · repeat refine gO ?_
    have hi : i = n := by omega
    subst hi
    refine aw_weak ⟨lk' [(87, us o)], ov [] (pushS S)⟩ ?_ ?_
    · refine frz hS rfl trivial ⟨⟨_, rfl, kW (ov_of lks) rfl (by rw [U_len]; omega) ?_⟩, trivial⟩
      rw [List.drop_zero, U_take, take_all (by omega)]
    ((first | refine zw1 ?_ | refine zw2 ?_ | refine zw3 ?_); refine s_call (c_trim o h3 (by omega)) ?_)
    repeat refine gO ?_
    refine endF ttOk (.inr rfl) hS (by exact rfl) ?_ (fl' := [(4, us (digs B (p * q)))]) (by exact rfl) (by exact rfl) (by exact rfl)
    refine ⟨⟨_, rfl, kU ?_⟩, trivial⟩
    rw [h5, take_all (by omega), val_digs hB]
end Go.Proofs
