/-
  An abstract machine for this program, contracts of its functions: part MEb (no statement by itself).
-/
import Derived.Test.YtkhnekfipbbppaaMEa
set_option linter.unusedVariables false
set_option linter.unusedSimpArgs false

/-
  The reference's natural numbers: product, NatMul.
-/
namespace Go.Proofs
open Go Go.Abs Go.Nums
attribute [local irreducible] thenA blockA awp aw Stp EndF EndP EndN EndG aOps
set_option linter.unusedSimpArgs false
set_option maxHeartbeats 4000000

theorem c_product (a b : Nat) (ha : (digs H a).length < 2 ^ 39) (hb : (digs H b).length < 2 ^ 39) : AFun Try.prog 78 [us (digs H a), us (digs H b)] (us (digs H (a * b))) := by
  refine afun (mu := muF) Try.func78 rfl (by decide) rfl (by decide) (Nat.le_of_ble_eq_true rfl) (by simp [nm0, AVal.at, AVal.at1, Cell.at]) (by simp [nm0, AVal.at, AVal.at1, Cell.at]) fun S hS => ?_
  obtain ⟨n, hn⟩ : ∃ n, n = (digs H a).length := ⟨_, rfl⟩
  obtain ⟨m, hm⟩ : ∃ m, m = (digs H b).length := ⟨_, rfl⟩
  repeat refine gN ?_
  refine awp_rep2 (fun (i : Nat) (o : List Nat) => ⟨lk' [(0, us (digs H a)), (1, us (digs H b)), (5, .c (.win (.loc 15) 0 (n + m) (n + m))), (6, iv i)], ov [(.loc 15, .ints 26 .u64 (U o))] (pushS S)⟩)
    (fun i o => i ≤ n ∧ o.length = n + m ∧ rng H o ∧ (∀ j, i + m ≤ j → o.getD j 0 = 0) ∧ val H o = val H ((digs H a).take i) * b) (fun i _ => n - i)
    0 (List.replicate (n + m) 0) ⟨Nat.zero_le _, by simp, rng_rep (by decide) _, fun j _ => getD_rep0 _ j, by rw [List.take_zero, val_nil, Nat.zero_mul]; exact val_rep0 H _⟩ ?_ ?_
  · have e0 : (((digs H a).length + (digs H b).length : Nat) : Int).toNat = n + m := by omega
    rw [e0]
    (refine frz hS (by exact rfl) ?_ ?_; all_goals (repeat' (first | refine fF ?_ ?_ | refine fS ?_ ?_ | exact True.intro)); all_goals (try (first | exact kv | (refine kW (ov_of lks) rfl ?_ ?_))))
    exact kO (U_rep _ 0)
  rintro i o ⟨h1, h2, h3, h4, h5⟩
  repeat refine gN ?_
  ((first | refine zw1 ?_ | refine zw2 ?_ | refine zw3 ?_); refine s_cmp (fun g1 => ?_) (fun g1 => ?_))
  · repeat refine gN ?_
    have hxl := getH_lt a i
    have hta := val_take_succ H (digs H a) i
    obtain ⟨x, hx⟩ : ∃ x, x = (digs H a).getD i 0 := ⟨_, rfl⟩
    rw [← hx] at hxl hta
    refine awp_midB (fun st => ∃ (o' : List Nat) (c : Nat), Weak st ⟨lk' [(0, us (digs H a)), (1, us (digs H b)), (5, .c (.win (.loc 15) 0 (n + m) (n + m))), (6, iv i), (7, uv c)], ov [(.loc 15, .ints 26 .u64 (U o'))] (pushS S)⟩ ∧
      o'.length = n + m ∧ rng H o' ∧ c < 4294967296 ∧ (∀ j, i + m ≤ j → o'.getD j 0 = 0) ∧ val H o' + H ^ (i + m) * c = val H ((digs H a).take i) * b + H ^ i * x * b) ?_ ?_
    · refine awp_rep3 (fun (k : Nat) (o : List Nat) (c : Nat) => ⟨lk' [(0, us (digs H a)), (1, us (digs H b)), (5, .c (.win (.loc 15) 0 (n + m) (n + m))), (6, iv i), (7, uv c), (8, iv k)], ov [(.loc 15, .ints 26 .u64 (U o))] (pushS S)⟩)
        (fun k o c => k ≤ m ∧ o.length = n + m ∧ rng H o ∧ c < 4294967296 ∧ (∀ j, i + m ≤ j → o.getD j 0 = 0) ∧ val H o + H ^ (i + k) * c = val H ((digs H a).take i) * b + H ^ i * x * val H ((digs H b).take k)) (fun k _ _ => m - k)
        0 o 0 ⟨Nat.zero_le _, h2, h3, by decide, h4, by rw [h5, List.take_zero, val_nil]; simp⟩ ?_ ?_
      · (refine frz hS (by exact rfl) ?_ ?_; all_goals (repeat' (first | refine fF ?_ ?_ | refine fS ?_ ?_ | exact True.intro)); all_goals (try (first | exact kv | (refine kW (ov_of lks) rfl ?_ ?_))))
      rintro k o c ⟨k1, k2, k3, k4, k5, k6⟩
      repeat refine gN ?_
      ((first | refine zw1 ?_ | refine zw2 ?_ | refine zw3 ?_); refine s_cmp (fun g2 => ?_) (fun g2 => ?_))
      · have hyl := getH_lt b k
        have htb := val_take_succ H (digs H b) k
        have hol : o.getD (i + k) 0 < 4294967296 := getD_lt (by decide) k3 _
        obtain ⟨y, hy⟩ : ∃ y, y = (digs H b).getD k 0 := ⟨_, rfl⟩
        obtain ⟨z, hz⟩ : ∃ z, z = o.getD (i + k) 0 := ⟨_, rfl⟩
        rw [← hy] at hyl htb
        rw [← hz] at hol
        have hxy : x * y ≤ 4294967295 * 4294967295 := Nat.mul_le_mul (Nat.le_of_lt_succ hxl) (Nat.le_of_lt_succ hyl)
        have hxy' := hxy
        rw [hx, hy] at hxy'
        repeat refine gN ?_
        rw [← hx, ← hy, ← hz]
        refine ⟨k + 1, o.set (i + k) ((x * y + z + c) % 4294967296), (x * y + z + c) / 4294967296, ?_, ⟨by omega, by simpa using k2, rng_set k3 (Nat.mod_lt _ (by decide)), by omega, fun j hj => ?_, ?_⟩, by omega⟩
        · (refine frz hS (by exact rfl) ?_ ?_; all_goals (repeat' (first | refine fF ?_ ?_ | refine fS ?_ ?_ | exact True.intro)); all_goals (try (first | exact kv | (refine kW (ov_of lks) rfl ?_ ?_))))
        · rw [getD_set (by omega), if_neg (by omega)]; exact k5 j hj
        · rw [htb]
          have := val_set H (l := o) (j := i + k) (s := (x * y + z + c) % 4294967296) (by omega)
          rw [← hz] at this
          exact mul_step H i k (H ^ (i + k)) _ _ z _ c _ x y _ _ rfl this k6 (Nat.mod_add_div (x * y + z + c) 4294967296)
      · repeat refine gN ?_
        have hk : k = m := by omega
        subst hk
        refine ⟨o, c, ?_, k2, k3, k4, k5, ?_⟩
        · (refine frz hS (by exact rfl) ?_ ?_; all_goals (repeat' (first | refine fF ?_ ?_ | refine fS ?_ ?_ | exact True.intro)); all_goals (try (first | exact kv | (refine kW (ov_of lks) rfl ?_ ?_))))
        · rw [k6, take_all (l := digs H b) (by omega), val_digs hH]
    rintro st ⟨o', c, hw, j1, j2, j3, j4, j5⟩
    refine awp_weak _ hw ?_
    clear hw st
    repeat refine gN ?_
    rw [← hm]
    refine ⟨i + 1, o'.set (i + m) c, ?_, ⟨by omega, by simpa using j1, rng_set j2 j3, fun j hj => ?_, ?_⟩, by omega⟩
    · (refine frz hS (by exact rfl) ?_ ?_; all_goals (repeat' (first | refine fF ?_ ?_ | refine fS ?_ ?_ | exact True.intro)); all_goals (try (first | exact kv | (refine kW (ov_of lks) rfl ?_ ?_))))
    · rw [getD_set (by omega), if_neg (by omega)]; exact j4 j (by omega)
    · have := val_set H (l := o') (j := i + m) (s := c) (by omega)
      rw [j4 (i + m) (Nat.le_refl _), Nat.mul_zero, Nat.add_zero, j5] at this
      rw [this, hta, Nat.add_mul]
  · repeat refine gN ?_
    have hi : i = n := by omega
    rw [take_all (by omega), val_digs hH] at h5
    have hUo := U_len o
    refine aw_weak ⟨lk' [(62, us o)], ov [] (pushS S)⟩ ?_ ?_
    · (refine frz hS (by exact rfl) ?_ ?_; all_goals (repeat' (first | refine fF ?_ ?_ | refine fS ?_ ?_ | exact True.intro)); all_goals (try (first | exact kv | (refine kW (ov_of lks) rfl ?_ ?_))))
      · omega
      · rw [List.drop_zero, U_take, take_all (by omega)]
    ((first | refine zw1 ?_ | refine zw2 ?_ | refine zw3 ?_); refine s_call (c_low o h3 (by omega)) ?_)
    rw [h5]
    repeat refine gN ?_
    (refine endF ttOk (.inr rfl) hS (by exact rfl) ?_ (fl' := [(4, us (digs H (a * b)))]) (by exact rfl) (by exact rfl) (by exact rfl); (repeat' (first | refine fF ?_ ?_ | refine fS ?_ ?_ | exact True.intro); all_goals (try (first | exact kv | (refine kW (ov_of lks) rfl ?_ ?_)))))

theorem c_natmul (a b : Nat) (ha : (digs B a).length < 2 ^ 37) (hb : (digs B b).length < 2 ^ 37) : AFun Try.prog 53 [us (digs B a), us (digs B b)] (us (digs B (a * b))) := by
  refine afun (mu := muF) Try.func53 rfl (by decide) rfl (by decide) (Nat.le_of_ble_eq_true rfl) (by simp [nm0, AVal.at, AVal.at1, Cell.at]) (by simp [nm0, AVal.at, AVal.at1, Cell.at]) fun S hS => ?_
  have hla := digsH_len a
  have hlb := digsH_len b
  have hl := digs_mul_le' hH a b
  repeat refine gN ?_
  ((first | refine zw1 ?_ | refine zw2 ?_ | refine zw3 ?_); refine s_call (c_halvesD a (by omega)) ?_)
  repeat refine gN ?_
  ((first | refine zw1 ?_ | refine zw2 ?_ | refine zw3 ?_); refine s_call (c_halvesD b (by omega)) ?_)
  repeat refine gN ?_
  ((first | refine zw1 ?_ | refine zw2 ?_ | refine zw3 ?_); refine s_call (c_product a b (by omega) (by omega)) ?_)
  repeat refine gN ?_
  ((first | refine zw1 ?_ | refine zw2 ?_ | refine zw3 ?_); refine s_call (c_limbs0 (digs H (a * b)) (rng_digs hH _) (by omega)) ?_)
  rw [val_digs hH]
  repeat refine gN ?_
  (refine endF ttOk (.inr rfl) hS (by exact rfl) ?_ (fl' := [(4, us (digs B (a * b)))]) (by exact rfl) (by exact rfl) (by exact rfl); (repeat' (first | refine fF ?_ ?_ | refine fS ?_ ?_ | exact True.intro); all_goals (try (first | exact kv | (refine kW (ov_of lks) rfl ?_ ?_)))))
end Go.Proofs

/-
  The reference's natural numbers: NatCmp, NatBits, NatUp.
-/
namespace Go.Proofs
open Go Go.Abs Go.Nums
attribute [local irreducible] thenA blockA awp aw Stp EndF EndP EndN EndG aOps
set_option linter.unusedSimpArgs false
set_option maxHeartbeats 4000000

theorem c_nattrimD (a : Nat) (ha : (digs B a).length < 2 ^ 42) : AFun Try.prog 50 [us (digs B a)] (us (digs B a)) := by
  have h := c_nattrim (digs B a) (rng_digs hB a) ha
  rwa [val_digs hB] at h
theorem c_halvesE (a : Nat) (ha : (digs B a).length < 2 ^ 40) : AFun Try.prog 79 [us (digs B a)] (us (digs H a)) := by
  have h := c_halves (digs B a) (rng_digs hB a) ha
  rwa [val_digs hB] at h

theorem digsH_lenE (a : Nat) : (digs H a).length ≤ 2 * (digs B a).length := by
  rw [digs_len hH, Nat.pow_mul]; exact digs_lt hB a
theorem getH_ltE (a i : Nat) : (digs H a).getD i 0 < 4294967296 := getD_lt (by decide) (rng_digs hH a) i

theorem c_natcmp (a b : Nat) (ha : (digs B a).length < 2 ^ 40) (hb : (digs B b).length < 2 ^ 40) : AFun Try.prog 59 [us (digs B a), us (digs B b)] (ivl .i64 (cmpN a b)) := by
  refine afun (mu := muF) Try.func59 rfl (by decide) rfl (by decide) (Nat.le_of_ble_eq_true rfl) (by simp [nm0, AVal.at, AVal.at1, Cell.at]) (by simp [nm0, AVal.at, AVal.at1, Cell.at]) fun S hS => ?_
  repeat refine gN ?_
  ((first | refine zw1 ?_ | refine zw2 ?_ | refine zw3 ?_); refine s_call (c_nattrimD a (by omega)) ?_)
  repeat refine gN ?_
  ((first | refine zw1 ?_ | refine zw2 ?_ | refine zw3 ?_); refine s_call (c_nattrimD b (by omega)) ?_)
  repeat refine gN ?_
  ((first | refine zw1 ?_ | refine zw2 ?_ | refine zw3 ?_); refine s_cmp (fun h1 => ?_) (fun h1 => ?_))
  · repeat refine gN ?_
    ((first | refine zw1 ?_ | refine zw2 ?_ | refine zw3 ?_); refine s_cmp (fun h2 => ?_) (fun h2 => ?_))
    · repeat refine gN ?_
      have := len_lt hB (n := a) (m := b) (by omega)
      rw [show cmpN a b = -1 by simp [cmpN, this]]
      (refine endF ttOk (.inr rfl) hS (by exact rfl) ?_ (fl' := [(4, ivl .i64 (-1))]) (by exact rfl) (by exact rfl) (by exact rfl); (repeat' (first | refine fF ?_ ?_ | refine fS ?_ ?_ | exact True.intro); all_goals (try (first | exact kv | (refine kW (ov_of lks) rfl ?_ ?_)))))
    · repeat refine gN ?_
      have := len_lt hB (n := b) (m := a) (by omega)
      rw [show cmpN a b = 1 by simp [cmpN, this, show ¬ a < b by omega]]
      (refine endF ttOk (.inr rfl) hS (by exact rfl) ?_ (fl' := [(4, ivl .i64 1)]) (by exact rfl) (by exact rfl) (by exact rfl); (repeat' (first | refine fF ?_ ?_ | refine fS ?_ ?_ | exact True.intro); all_goals (try (first | exact kv | (refine kW (ov_of lks) rfl ?_ ?_)))))
  · repeat refine gN ?_
    have hn : (digs B a).length = (digs B b).length := by omega
    refine awp_rep (ι := Nat) (fun i => ⟨lk' [(5, us (digs B a)), (6, us (digs B b)), (7, ivl .i64 ((i : Int) - 1))], ov [] (pushS S)⟩) (fun i => i ≤ (digs B a).length ∧ (digs B a).drop i = (digs B b).drop i) (fun i => i) (digs B a).length
      ⟨Nat.le_refl _, by rw [List.drop_of_length_le (Nat.le_refl _), List.drop_of_length_le (by omega)]⟩ ?_ ?_
    · (refine frz hS (by exact rfl) ?_ ?_; all_goals (repeat' (first | refine fF ?_ ?_ | refine fS ?_ ?_ | exact True.intro)); all_goals (try (first | exact kv | (refine kW (ov_of lks) rfl ?_ ?_))))
    rintro i ⟨hi, he⟩
    repeat refine gN ?_
    ((first | refine zw1 ?_ | refine zw2 ?_ | refine zw3 ?_); refine s_cmp (fun h3 => ?_) (fun h3 => ?_))
    · repeat refine gN ?_
      have e1 : ((i : Int) - 1).toNat = i - 1 := by omega
      rw [e1]
      ((first | refine zw1 ?_ | refine zw2 ?_ | refine zw3 ?_); refine s_cmp (fun h4 => ?_) (fun h4 => ?_))
      · repeat refine gN ?_
        have := val_top_lt (rng_digs hB a) (i := i - 1) (m := digs B b) (by omega) (by omega) (by rw [show i - 1 + 1 = i by omega]; exact he) (by omega)
        rw [val_digs hB, val_digs hB] at this
        rw [show cmpN a b = -1 by simp [cmpN, this]]
        (refine endF ttOk (.inr rfl) hS (by exact rfl) ?_ (fl' := [(4, ivl .i64 (-1))]) (by exact rfl) (by exact rfl) (by exact rfl); (repeat' (first | refine fF ?_ ?_ | refine fS ?_ ?_ | exact True.intro); all_goals (try (first | exact kv | (refine kW (ov_of lks) rfl ?_ ?_)))))
      · repeat refine gN ?_
        rw [e1]
        ((first | refine zw1 ?_ | refine zw2 ?_ | refine zw3 ?_); refine s_cmp (fun h5 => ?_) (fun h5 => ?_))
        · repeat refine gN ?_
          have := val_top_lt (rng_digs hB b) (i := i - 1) (m := digs B a) (by omega) (by omega) (by rw [show i - 1 + 1 = i by omega]; exact he.symm) (by omega)
          rw [val_digs hB, val_digs hB] at this
          rw [show cmpN a b = 1 by simp [cmpN, this, show ¬ a < b by omega]]
          (refine endF ttOk (.inr rfl) hS (by exact rfl) ?_ (fl' := [(4, ivl .i64 1)]) (by exact rfl) (by exact rfl) (by exact rfl); (repeat' (first | refine fF ?_ ?_ | refine fS ?_ ?_ | exact True.intro); all_goals (try (first | exact kv | (refine kW (ov_of lks) rfl ?_ ?_)))))
        · repeat refine gN ?_
          refine ⟨i - 1, ?_, ⟨by omega, ?_⟩, by omega⟩
          · (refine frz hS (by exact rfl) ?_ ?_; all_goals (repeat' (first | refine fF ?_ ?_ | refine fS ?_ ?_ | exact True.intro)); all_goals (try (first | exact kv | (refine kW (ov_of lks) rfl ?_ ?_))))
          rw [drop_getD (l := digs B a) (i := i - 1) (by omega), drop_getD (l := digs B b) (i := i - 1) (by omega), show i - 1 + 1 = i by omega, he]
          congr 1
          omega
    · repeat refine gN ?_
      have hi0 : i = 0 := by omega
      subst hi0
      have := digs_inj hB (by simpa using he : digs B a = digs B b)
      rw [show cmpN a b = 0 by simp [cmpN, this]]
      (refine endF ttOk (.inr rfl) hS (by exact rfl) ?_ (fl' := [(4, ivl .i64 0)]) (by exact rfl) (by exact rfl) (by exact rfl); (repeat' (first | refine fF ?_ ?_ | refine fS ?_ ?_ | exact True.intro); all_goals (try (first | exact kv | (refine kW (ov_of lks) rfl ?_ ?_)))))

theorem blen_topR {lo top k : Nat} (hlo : lo < B ^ k) (ht : top ≠ 0) : blen (lo + B ^ k * top) = 64 * k + blen top := by
  have h0 : 1 ≤ blen top := by
    rcases Nat.eq_zero_or_pos (blen top) with h | h
    · have := (blen_le top 0).1 (by omega); omega
    · exact h
  have e : B ^ k = 2 ^ (64 * k) := by rw [Nat.pow_mul]
  have hle : ∀ j, blen (lo + B ^ k * top) ≤ 64 * k + j ↔ blen top ≤ j := fun j => by
    rw [blen_le, blen_le, Nat.pow_add, ← e]
    constructor
    · intro h
      refine Nat.lt_of_not_le fun g => ?_
      have := Nat.mul_le_mul_left (B ^ k) g
      omega
    · intro h
      have := Nat.mul_le_mul_left (B ^ k) (show top + 1 ≤ 2 ^ j from h)
      rw [Nat.mul_add] at this
      omega
  refine Nat.le_antisymm ((hle _).2 (Nat.le_refl _)) ?_
  have hn : ¬ blen (lo + B ^ k * top) ≤ 64 * k + (blen top - 1) := fun h => by have := (hle _).1 h; omega
  omega

theorem blen_half {t : Nat} (h : 0 < t) : blen t = blen (t / 2) + 1 := by
  refine Nat.le_antisymm ?_ ?_
  · rw [blen_le, Nat.pow_succ]
    have := (blen_le (t / 2) _).1 (Nat.le_refl _)
    omega
  · rcases e : blen t with _ | k
    · have := (blen_le t 0).1 (by omega); simp at this; omega
    · have h1 := (blen_le t (k + 1)).1 (by omega)
      rw [Nat.pow_succ] at h1
      have := (blen_le (t / 2) k).2 (by omega)
      omega
theorem blen0 : blen 0 = 0 := rfl
theorem blen_digs {a : Nat} (h : (digs B a).length ≠ 0) : blen a = 64 * ((digs B a).length - 1) + blen ((digs B a).getD ((digs B a).length - 1) 0) := by
  obtain ⟨m, hm⟩ : ∃ m, (digs B a).length = m + 1 := ⟨(digs B a).length - 1, by omega⟩
  have hv := val_last B hm
  rw [val_digs hB] at hv
  have ht : (digs B a).getD m 0 ≠ 0 := by
    have hne : digs B a ≠ [] := fun q => by rw [q] at hm; simp at hm
    have := digs_top hB hne
    rw [getLast_getD hne, hm] at this
    exact this
  conv => lhs; rw [hv]
  rw [hm, blen_topR (val_take_lt (rng_digs hB a) (by omega)) ht]; rfl

theorem c_natbits (a : Nat) (ha : (digs B a).length < 2 ^ 42) : AFun Try.prog 31 [us (digs B a)] (iv (blen a)) := by
  refine afun (mu := muF) Try.func31 rfl (by decide) rfl (by decide) (Nat.le_of_ble_eq_true rfl) (by simp [nm0, AVal.at, AVal.at1, Cell.at]) (by simp [nm0, AVal.at, AVal.at1, Cell.at]) fun S hS => ?_
  repeat refine gN ?_
  ((first | refine zw1 ?_ | refine zw2 ?_ | refine zw3 ?_); refine s_call (c_nattrimD a ha) ?_)
  repeat refine gN ?_
  ((first | refine zw1 ?_ | refine zw2 ?_ | refine zw3 ?_); refine s_cmp (fun h1 => ?_) (fun h1 => ?_))
  · repeat refine gN ?_
    have h0 : a = 0 := (digs_nil hB).1 (List.eq_nil_of_length_eq_zero (by omega))
    subst h0
    (refine endF ttOk (.inr rfl) hS (by exact rfl) ?_ (fl' := [(2, iv (blen 0))]) (by exact rfl) (by exact rfl) (by exact rfl); (repeat' (first | refine fF ?_ ?_ | refine fS ?_ ?_ | exact True.intro); all_goals (try (first | exact kv | (refine kW (ov_of lks) rfl ?_ ?_)))))
  repeat refine gN ?_
  have e1 : (((digs B a).length : Int) - 1).toNat = (digs B a).length - 1 := by omega
  have hb := blen_digs (a := a) (by omega)
  have hlt : (digs B a).getD ((digs B a).length - 1) 0 < 18446744073709551616 := getD_lt (by decide) (rng_digs hB a) _
  have hb64 : blen ((digs B a).getD ((digs B a).length - 1) 0) ≤ 64 := (blen_le _ 64).2 hlt
  rw [e1]
  refine awp_rep2 (fun (n t : Nat) => ⟨lk' [(4, iv n), (5, uv t)], ov [] (pushS S)⟩) (fun n t => n + blen t = blen a ∧ t < 18446744073709551616) (fun _ t => t) (64 * ((digs B a).length - 1)) ((digs B a).getD ((digs B a).length - 1) 0) ⟨hb.symm, hlt⟩ ?_ ?_
  · (refine frz hS (by exact rfl) ?_ ?_; all_goals (repeat' (first | refine fF ?_ ?_ | refine fS ?_ ?_ | exact True.intro)); all_goals (try (first | exact kv | (refine kW (ov_of lks) rfl ?_ ?_))))
  rintro n t ⟨hn, ht6⟩
  repeat refine gN ?_
  ((first | refine zw1 ?_ | refine zw2 ?_ | refine zw3 ?_); refine s_cmp (fun h2 => ?_) (fun h2 => ?_))
  · repeat refine gN ?_
    have := blen_half (t := t) (by omega)
    refine ⟨n + 1, t / 2, ?_, ⟨by omega, by omega⟩, by omega⟩
    (refine frz hS (by exact rfl) ?_ ?_; all_goals (repeat' (first | refine fF ?_ ?_ | refine fS ?_ ?_ | exact True.intro)); all_goals (try (first | exact kv | (refine kW (ov_of lks) rfl ?_ ?_))))
  · repeat refine gN ?_
    have ht : t = 0 := by omega
    subst ht
    rw [blen0] at hn
    rw [← hn]
    (refine endF ttOk (.inr rfl) hS (by exact rfl) ?_ (fl' := [(2, iv (n + 0))]) (by exact rfl) (by exact rfl) (by exact rfl); (repeat' (first | refine fF ?_ ?_ | refine fS ?_ ?_ | exact True.intro); all_goals (try (first | exact kv | (refine kW (ov_of lks) rfl ?_ ?_)))))

theorem up_step {x P c : Nat} (hx : x < 4294967296) (hP : P ≤ 2147483648) (hc : c < P) : x * P + c < 18446744073709551616 ∧ x * P < 18446744073709551616 ∧ (x * P + c) / 4294967296 < P := by
  have h1 : x * P ≤ 4294967295 * P := Nat.mul_le_mul_right _ (by omega)
  refine ⟨by omega, by omega, Nat.div_lt_of_lt_mul (by omega)⟩

theorem c_natup (a n : Nat) (ha : (digs B a).length < 2 ^ 37) (hn : n < 2 ^ 40) : AFun Try.prog 57 [us (digs B a), iv n] (us (digs B (a * 2 ^ n))) := by
  refine afun (mu := muF) Try.func57 rfl (by decide) rfl (by decide) (Nat.le_of_ble_eq_true rfl) (by simp [nm0, AVal.at, AVal.at1, Cell.at]) (by simp [nm0, AVal.at, AVal.at1, Cell.at]) fun S hS => ?_
  repeat refine gN ?_
  ((first | refine zw1 ?_ | refine zw2 ?_ | refine zw3 ?_); refine s_call (c_halvesE a (by omega)) ?_)
  repeat refine gN ?_
  ((first | refine zw1 ?_ | refine zw2 ?_ | refine zw3 ?_); refine s_cmp (fun h1 => ?_) (fun h1 => ?_))
  · repeat refine gN ?_
    have h0 : a = 0 := by
      have := (digs_nil hH).1 (List.eq_nil_of_length_eq_zero (by omega) : digs H a = [])
      exact this
    subst h0
    rw [Nat.zero_mul, digs_zero]
    (refine endF ttOk (.inr rfl) hS (by exact rfl) ?_ (fl' := [(4, us [])]) (by exact rfl) (by exact rfl) (by exact rfl); (repeat' (first | refine fF ?_ ?_ | refine fS ?_ ?_ | exact True.intro); all_goals (try (first | exact kv | (refine kW (ov_of lks) rfl ?_ ?_)))))
  repeat refine gM ?_
  (((first | refine zw1 ?_ | refine zw2 ?_ | refine zw3 ?_); refine s_makeA8 ttOk ?_ ?_); rotate_left; (· omega))
  repeat refine gN ?_
  obtain ⟨z, hz⟩ : ∃ z, z = n / 32 := ⟨_, rfl⟩
  obtain ⟨s, hs⟩ : ∃ s, s = n % 32 := ⟨_, rfl⟩
  have hs32 : s < 32 := by omega
  rw [← hz]
  have hrep : List.replicate z (0 : Int) = U (List.replicate z 0) := U_rep z 0
  rw [hrep]
  have hla := digsH_lenE a
  refine awp_midB (fun st => Weak st ⟨lk' [(5, us (digs H a)), (6, .accv (.loc 19)), (7, uv 0), (8, uv (2 ^ s))], ov [(.loc 19, .acc 26 .u64 (U (List.replicate z 0)))] (pushS S)⟩) ?_ ?_
  · refine awp_rep (ι := Nat) (fun j => ⟨lk' [(1, iv n), (5, us (digs H a)), (6, .accv (.loc 19)), (7, uv 0), (8, uv (2 ^ j)), (9, iv j)], ov [(.loc 19, .acc 26 .u64 (U (List.replicate z 0)))] (pushS S)⟩) (fun j => j ≤ s) (fun j => s - j) 0 (Nat.zero_le _) ?_ ?_
    · (refine frz hS (by exact rfl) ?_ ?_; all_goals (repeat' (first | refine fF ?_ ?_ | refine fS ?_ ?_ | exact True.intro)); all_goals (try (first | exact kv | (refine kW (ov_of lks) rfl ?_ ?_))))
    intro j hj
    have h31 : 2 ^ j ≤ 2147483648 := Nat.pow_le_pow_right (n := 2) (by decide) (show j ≤ 31 by omega)
    repeat refine gN ?_
    ((first | refine zw1 ?_ | refine zw2 ?_ | refine zw3 ?_); refine s_cmp (fun g1 => ?_) (fun g1 => ?_))
    · repeat refine gN ?_
      refine ⟨j + 1, ?_, by omega, by omega⟩
      (refine frz hS (by exact rfl) ?_ ?_; all_goals (repeat' (first | refine fF ?_ ?_ | refine fS ?_ ?_ | exact True.intro)); all_goals (try (first | exact kv | (refine kW (ov_of lks) rfl ?_ ?_))))
    · repeat refine gN ?_
      have : j = s := by omega
      subst this
      (refine frz hS (by exact rfl) ?_ ?_; all_goals (repeat' (first | refine fF ?_ ?_ | refine fS ?_ ?_ | exact True.intro)); all_goals (try (first | exact kv | (refine kW (ov_of lks) rfl ?_ ?_))))
  intro st hst
  refine awp_weak _ hst ?_
  clear hst st
  obtain ⟨p, hp⟩ : ∃ p, p = 2 ^ s := ⟨_, rfl⟩
  have hp31 : p ≤ 2147483648 := by rw [hp]; exact Nat.pow_le_pow_right (n := 2) (by decide) (show s ≤ 31 by omega)
  have hp0 : 0 < p := by rw [hp]; exact Nat.two_pow_pos _
  rw [← hp]
  repeat refine gN ?_
  refine awp_rep3 (fun (i : Nat) (o : List Nat) (c : Nat) => ⟨lk' [(5, us (digs H a)), (6, .accv (.loc 19)), (7, uv c), (8, uv p), (10, iv i)], ov [(.loc 19, .acc 26 .u64 (U (List.replicate z 0 ++ o)))] (pushS S)⟩)
    (fun i o c => i ≤ (digs H a).length ∧ o.length = i ∧ rng H o ∧ c < p ∧ val H o + H ^ i * c = val H ((digs H a).take i) * p) (fun i _ _ => (digs H a).length - i)
    0 [] 0 ⟨Nat.zero_le _, rfl, rng_nil, hp0, by simp [val]⟩ ?_ ?_
  · rw [List.append_nil]
    (refine frz hS (by exact rfl) ?_ ?_; all_goals (repeat' (first | refine fF ?_ ?_ | refine fS ?_ ?_ | exact True.intro)); all_goals (try (first | exact kv | (refine kW (ov_of lks) rfl ?_ ?_))))
  rintro i o c ⟨h2, h3, h4, h5, h6⟩
  have hUo := U_len (List.replicate z 0 ++ o)
  have hlo : (List.replicate z 0 ++ o).length = z + o.length := by simp
  repeat refine gN ?_
  ((first | refine zw1 ?_ | refine zw2 ?_ | refine zw3 ?_); refine s_cmp (fun g1 => ?_) (fun g1 => ?_))
  · have hxl := getH_ltE a i
    have hta := val_take_succ H (digs H a) i
    obtain ⟨x, hx⟩ : ∃ x, x = (digs H a).getD i 0 := ⟨_, rfl⟩
    rw [← hx] at hxl hta
    obtain ⟨u1, u2, u3⟩ := up_step hxl hp31 h5
    have u1' := u1
    have u2' := u2
    rw [hx] at u1' u2'
    repeat refine gN ?_
    rw [← hx]
    ((first | refine zw1 ?_ | refine zw2 ?_ | refine zw3 ?_); refine s_app8 ttOk (Y := [(((x * p + c) % 4294967296 : Nat) : Int)]) ?_ ?_ ?_; (· exact srcE_win (L := [(((x * p + c) % 4294967296 : Nat) : Int)]) lks (by simp)); (· simp only [List.length_append, List.length_nil, List.length_cons] at *; omega))
    repeat refine gN ?_
    rw [U_snoc, List.append_assoc]
    refine ⟨i + 1, o ++ [(x * p + c) % 4294967296], (x * p + c) / 4294967296, ?_, ⟨by omega, by simp [h3], rng_append.2 ⟨h4, ?_⟩, u3, ?_⟩, by omega⟩
    · (refine frz hS (by exact rfl) ?_ ?_; all_goals (repeat' (first | refine fF ?_ ?_ | refine fS ?_ ?_ | exact True.intro)); all_goals (try (first | exact kv | (refine kW (ov_of lks) rfl ?_ ?_))))
    · intro y hy; simp only [List.mem_singleton] at hy; subst hy; exact Nat.mod_lt _ (by decide)
    · rw [val_snoc, h3, hta, Nat.add_mul, ← h6, Nat.pow_succ, Nat.mul_assoc (H ^ i) H, Nat.add_assoc, ← Nat.mul_add, show (x * p + c) % 4294967296 + H * ((x * p + c) / 4294967296) = x * p + c from Nat.mod_add_div _ _, Nat.mul_add, Nat.mul_assoc]
      omega
  · repeat refine gN ?_
    ((first | refine zw1 ?_ | refine zw2 ?_ | refine zw3 ?_); refine s_app8 ttOk (Y := [((c : Nat) : Int)]) ?_ ?_ ?_; (· exact srcE_win (L := [((c : Nat) : Int)]) lks (by simp)); (· simp only [List.length_append, List.length_nil, List.length_cons] at *; omega))
    rw [U_snoc, List.append_assoc]
    ((first | refine aw_fz 19 ?_ ?_ | refine awp_fz 19 ?_ ?_); rotate_left; · (repeat' (first | exact True.intro | refine And.intro ?_ ?_)) <;> first | (show _ ≤ _; simp; done) | (show _ ≤ _; simp; omega) | (show _ ≤ _; omega))
    have hi : i = (digs H a).length := by omega
    rw [take_all (by omega), val_digs hH] at h6
    ((first | refine zw1 ?_ | refine zw2 ?_ | refine zw3 ?_); refine s_call (c_limbs0 (List.replicate z 0 ++ (o ++ [c])) (rng_zeros (by decide) z (rng_append.2 ⟨h4, fun y hy => by simp only [List.mem_singleton] at hy; subst hy; show y < 4294967296; omega⟩)) (by simp; omega)) ?_)
    have e : val H (List.replicate z 0 ++ (o ++ [c])) = a * 2 ^ n := by
      rw [val_zeros, val_snoc, h3, h6, hp, show H = 2 ^ 32 from rfl, ← Nat.pow_mul, Nat.mul_left_comm, ← Nat.pow_add, show 32 * z + s = n by omega]
    rw [e]
    repeat refine gN ?_
    (refine endF ttOk (.inr rfl) hS (by exact rfl) ?_ (fl' := [(4, us (digs B (a * 2 ^ n)))]) (by exact rfl) (by exact rfl) (by exact rfl); (repeat' (first | refine fF ?_ ?_ | refine fS ?_ ?_ | exact True.intro); all_goals (try (first | exact kv | (refine kW (ov_of lks) rfl ?_ ?_)))))
end Go.Proofs
