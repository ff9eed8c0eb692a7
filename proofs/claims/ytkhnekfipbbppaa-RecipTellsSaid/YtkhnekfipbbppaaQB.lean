/-
  The statement that is named at its end, proved of every input.
-/
import Derived.Test.YtkhnekfipbbppaaQA
import Derived.Test.YtkhnekfipbbppaaMEd
import Derived.Test.YtkhnekfipbbppaaMAd
import Derived.Test.YtkhnekfipbbppaaMF
set_option linter.unusedVariables false
set_option linter.unusedSimpArgs false

/-
  The reference: NatDiv; RightInt, Told, the numbers of chapter 16.
-/
namespace Go.Proofs
open Go Go.Abs Go.Nums
attribute [local irreducible] thenA blockA awp aw Stp EndF EndP EndN EndG aOps
set_option linter.unusedSimpArgs false
set_option maxHeartbeats 4000000

theorem c_natdiv (a b : Nat) (hb0 : 0 < b) (ha : (digs B a).length < 2 ^ 36) (hb : (digs B b).length < 2 ^ 36) : AFun Try.prog 76 [us (digs B a), us (digs B b)] (.tup [us (digs B (a / b)), us (digs B (a % b))]) := by
  have hla := digsH_lenE a
  have hlb := digsH_lenE b
  have hne : (digs H b).length ≠ 0 := fun h => by have := (digs_nil hH).1 (List.eq_nil_of_length_eq_zero h); omega
  have hq : (digs H (a / b)).length ≤ (digs H a).length := len_mono hH (Nat.div_le_self _ _)
  have hr : (digs H (a % b)).length ≤ (digs H b).length := len_mono hH (Nat.le_of_lt (Nat.mod_lt _ hb0))
  refine afun (mu := muF) Try.func76 rfl (by decide) rfl (by decide) (Nat.le_of_ble_eq_true rfl) (by simp [nm0, AVal.at, AVal.at1, Cell.at]) (by simp [nm0, AVal.at, AVal.at1, Cell.at]) fun S hS => ?_
  repeat refine gN ?_
  ((first | refine zw1 ?_ | refine zw2 ?_ | refine zw3 ?_); refine s_call (c_halvesE a (by omega)) ?_)
  repeat refine gN ?_
  ((first | refine zw1 ?_ | refine zw2 ?_ | refine zw3 ?_); refine s_call (c_halvesE b (by omega)) ?_)
  repeat refine gN ?_
  ((first | refine zw1 ?_ | refine zw2 ?_ | refine zw3 ?_); refine s_cmp (fun g1 => ?_) (fun g1 => ?_))
  · have hlt : a < b := len_lt hH (by omega)
    rw [Nat.div_eq_of_lt hlt, Nat.mod_eq_of_lt hlt, digs_zero]
    repeat refine gN ?_
    ((first | refine zw1 ?_ | refine zw2 ?_ | refine zw3 ?_); refine s_call (c_nattrimD a (by omega)) ?_)
    repeat refine gN ?_
    (refine endF ttOk (.inr rfl) hS (by exact rfl) ?_ (fl' := [(4, us []), (5, us (digs B a))]) (by exact rfl) (by exact rfl) (by exact rfl); (repeat' (first | refine fF ?_ ?_ | refine fS ?_ ?_ | exact True.intro); all_goals (try (first | exact kv | (refine kW (ov_of lks) rfl ?_ ?_)))))
  repeat refine gN ?_
  ((first | refine zw1 ?_ | refine zw2 ?_ | refine zw3 ?_); refine s_cmp (fun g2 => ?_) (fun g2 => ?_))
  · have hb1 : digs H b = [b] := by
      have h1 : (digs H b).length = 1 := by omega
      have hbl : b < H := by
        have := (digs_len hH (n := b) (k := 1)).1 (by omega); simpa using this
      rw [digs_pos hH (by omega), Nat.mod_eq_of_lt hbl, Nat.div_eq_of_lt hbl, digs_zero]
    have hbl : b < 4294967296 := by
      have := getH_lt b 0
      rw [hb1] at this; exact this
    have e0 : (digs H b).getD 0 0 = b := by rw [hb1]; rfl
    have hml : a % b < b := Nat.mod_lt _ hb0
    repeat refine gN ?_
    rw [e0]
    ((first | refine zw1 ?_ | refine zw2 ?_ | refine zw3 ?_); refine s_call (c_short0 (digs H a) (rng_digs hH a) (by omega) b hb0 (by omega)) ?_)
    rw [val_digs hH]
    repeat refine gN ?_
    ((first | refine zw1 ?_ | refine zw2 ?_ | refine zw3 ?_); refine s_call (c_limbs0 (digs H (a / b)) (rng_digs hH _) (by omega)) ?_)
    rw [val_digs hH]
    repeat refine gN ?_
    ((first | refine zw1 ?_ | refine zw2 ?_ | refine zw3 ?_); refine s_call (c_natof (a % b) (show a % b < 18446744073709551616 by omega)) ?_)
    repeat refine gN ?_
    (refine endF ttOk (.inr rfl) hS (by exact rfl) ?_ (fl' := [(4, us (digs B (a / b))), (5, us (digs B (a % b)))]) (by exact rfl) (by exact rfl) (by exact rfl); (repeat' (first | refine fF ?_ ?_ | refine fS ?_ ?_ | exact True.intro); all_goals (try (first | exact kv | (refine kW (ov_of lks) rfl ?_ ?_)))))
  · repeat refine gN ?_
    ((first | refine zw1 ?_ | refine zw2 ?_ | refine zw3 ?_); refine s_call (c_long a b hne (by omega) (by omega)) ?_)
    repeat refine gN ?_
    ((first | refine zw1 ?_ | refine zw2 ?_ | refine zw3 ?_); refine s_call (c_limbs0 (digs H (a / b)) (rng_digs hH _) (by omega)) ?_)
    repeat refine gN ?_
    ((first | refine zw1 ?_ | refine zw2 ?_ | refine zw3 ?_); refine s_call (c_limbs0 (digs H (a % b)) (rng_digs hH _) (by omega)) ?_)
    rw [val_digs hH, val_digs hH]
    repeat refine gN ?_
    (refine endF ttOk (.inr rfl) hS (by exact rfl) ?_ (fl' := [(4, us (digs B (a / b))), (5, us (digs B (a % b)))]) (by exact rfl) (by exact rfl) (by exact rfl); (repeat' (first | refine fF ?_ ?_ | refine fS ?_ ?_ | exact True.intro); all_goals (try (first | exact kv | (refine kW (ov_of lks) rfl ?_ ?_)))))

theorem c_told131 (x : Nu) (K : Nat) (hx : x.ok K) (hK : K ≤ 2 ^ 36) (hs : x.n = 0 ∨ (blen x.n : Int) + x.e ≤ 262144) : AFun Try.prog 48 [nu x] (.tup [vz x.val, ivl .i64 0]) := by
  have ht := c_tellint1 x K hx hK hs
  obtain ⟨s, hse⟩ : ∃ s, s = decide (x.val < 0) := ⟨_, rfl⟩
  obtain ⟨l, hle⟩ : ∃ l, l = digs B x.val.natAbs := ⟨_, rfl⟩
  have e : vz x.val = wi s l := by rw [hse, hle]
  rw [e] at ht ⊢
  refine afun (mu := muF) Try.func48 rfl (by decide) rfl (by decide) (Nat.le_of_ble_eq_true rfl) (by simp [nm0, AVal.at, AVal.at1, Cell.at]) (by simp [nm0, AVal.at, AVal.at1, Cell.at]) fun S hS => ?_
  repeat refine gN ?_
  ((first | refine zw1 ?_ | refine zw2 ?_ | refine zw3 ?_); refine s_call (ht) ?_)
  repeat refine gN ?_
  (refine endF ttOk (.inr rfl) hS (by exact rfl) ?_ (fl' := [(2, .c (.pim [.sc (.bool s), .ints .u64 (U l)])), (3, ivl .i64 0)]) (by exact rfl) (by exact rfl) (by exact rfl); (repeat' (first | refine fF ?_ ?_ | refine fS ?_ ?_ | exact True.intro); all_goals (try (first | exact kv | (refine kW (ov_of lks) rfl ?_ ?_)))))

theorem c_told132 (x : Nu) (K : Nat) (hx : x.ok K) (hK : K ≤ 2 ^ 36) (h : x.n ≠ 0) (hs : 262144 < (blen x.n : Int) + x.e) : AFun Try.prog 48 [nu x] (.tup [v0, ivl .i64 3]) := by
  refine afun (mu := muF) Try.func48 rfl (by decide) rfl (by decide) (Nat.le_of_ble_eq_true rfl) (by simp [nm0, AVal.at, AVal.at1, Cell.at]) (by simp [nm0, AVal.at, AVal.at1, Cell.at]) fun S hS => ?_
  repeat refine gN ?_
  ((first | refine zw1 ?_ | refine zw2 ?_ | refine zw3 ?_); refine s_call (c_tellint2 x K hx hK h hs) ?_)
  repeat refine gN ?_
  (refine endF ttOk (.inr rfl) hS (by exact rfl) ?_ (fl' := [(2, .c (.pim [.sc (.bool false), .ints .u64 []])), (3, ivl .i64 3)]) (by exact rfl) (by exact rfl) (by exact rfl); (repeat' (first | refine fF ?_ ?_ | refine fS ?_ ?_ | exact True.intro); all_goals (try (first | exact kv | (refine kW (ov_of lks) rfl ?_ ?_)))))

theorem c_one16 (b : Nat) (hb : b < 2 ^ 60) : AFun Try.prog 47 [iv b] (nu ((Nu.mk false 1 0).scaled b)) := by
  refine afun (mu := muF) Try.func47 rfl (by decide) rfl (by decide) (Nat.le_of_ble_eq_true rfl) (by simp [nm0, AVal.at, AVal.at1, Cell.at]) (by simp [nm0, AVal.at, AVal.at1, Cell.at]) fun S hS => ?_
  repeat refine gN ?_
  ((first | refine zw1 ?_ | refine zw2 ?_ | refine zw3 ?_); refine s_call (c_numwhole1 1 (by decide)) ?_)
  repeat refine gN ?_
  ((first | refine zw1 ?_ | refine zw2 ?_ | refine zw3 ?_); refine s_call (c_scaled ⟨false, 1, 0⟩ b (show -9223372036854775808 ≤ (0 : Int) + b ∧ (0 : Int) + b < 9223372036854775808 by omega)) ?_)
  repeat refine gN ?_
  (refine endF ttOk (.inr rfl) hS (by exact rfl) ?_ (fl' := [(2, np ((Nu.mk false 1 0).scaled b))]) (by exact rfl) (by exact rfl) (by exact rfl); (repeat' (first | refine fF ?_ ?_ | refine fS ?_ ?_ | exact True.intro); all_goals (try (first | exact kv | (refine kW (ov_of lks) rfl ?_ ?_)))))
end Go.Proofs

/-
  The kit: mark, LentLimbs, LentInt, KeptLimbs, KeptInt: a list with room behind it that is marked.
-/
namespace Go.Proofs
open Go Go.Abs Go.Nums
attribute [local irreducible] thenA blockA awp aw Stp EndF EndP EndN EndG EndT aOps
set_option linter.unusedSimpArgs false
set_option maxHeartbeats 4000000

theorem c_mark1 (i : Nat) (h : i < 2 ^ 60) : AFun Try.prog 74 [iv 1, iv i] (iv (8000024 + i : Nat)) := by
  refine afun (mu := muF) Try.func74 rfl (by decide) rfl (by decide) (Nat.le_of_ble_eq_true rfl) (by simp [nm0, AVal.at, AVal.at1, Cell.at]) (by simp [nm0, AVal.at, AVal.at1, Cell.at]) fun S hS => ?_
  repeat refine gO ?_
  (refine endF ttOk (.inr rfl) hS (by exact rfl) ?_ (fl' := [(4, iv (8000024 + i : Nat))]) (by exact rfl) (by exact rfl) (by exact rfl); (repeat' (first | refine fF ?_ ?_ | refine fS ?_ ?_ | exact True.intro); all_goals (try (first | exact kv | (refine kW (ov_of lks) rfl ?_ ?_)))))

def mks (i : Nat) : List Nat := (List.range i).map fun j => 8000024 + j
theorem mks_succ (i : Nat) : mks (i + 1) = mks i ++ [8000024 + i] := by simp [mks, List.range_succ]
theorem mks_len (i : Nat) : (mks i).length = i := by simp [mks]
theorem mks_get {i j : Nat} (h : j < i) : (mks i).getD j 0 = 8000024 + j := by simp [mks, h]

theorem put_at (X R : List Int) (y : Int) (k : Nat) (h : X.length = k) : List.take k (X ++ R) ++ [y] ++ List.drop (k + 1) (X ++ R) = X ++ [y] ++ R.drop 1 := by
  subst h
  rw [List.take_left, ← List.drop_drop, List.drop_left]
theorem lent_put (l : List Nat) (i : Nat) (hi : i < 12) : List.take (l.length + i) (U (l ++ mks i ++ List.replicate (12 - i) 0)) ++ [((8000024 + i : Nat) : Int)] ++ List.drop (l.length + i + 1) (U (l ++ mks i ++ List.replicate (12 - i) 0)) = U (l ++ mks (i + 1) ++ List.replicate (12 - (i + 1)) 0) := by
  obtain ⟨j, hj⟩ : ∃ j, 12 - i = j + 1 := ⟨11 - i, by omega⟩
  rw [show 12 - (i + 1) = j by omega, hj, show U (l ++ mks i ++ List.replicate (j + 1) 0) = U (l ++ mks i) ++ U (List.replicate (j + 1) 0) from List.map_append, put_at _ _ _ _ (by rw [U_len, List.length_append, mks_len]), mks_succ]
  simp [U, List.replicate_succ]

theorem c_lentlimbs (l : List Nat) (hl : l.length ≤ 17592186043904) : AFun Try.prog 44 [us l] (.c (.intc .u64 (U (l ++ mks 12)) l.length)) := by
  refine afun (mu := muF) Try.func44 rfl (by decide) rfl (by decide) (Nat.le_of_ble_eq_true rfl) (by simp [nm0, AVal.at, AVal.at1, Cell.at]) (by simp [nm0, AVal.at, AVal.at1, Cell.at]) fun S hS => ?_
  repeat refine gN ?_
  ((first | refine zw1 ?_ | refine zw2 ?_ | refine zw3 ?_); refine s_appR ttOk (Y := U l) srcE_ints ?_ ?_)
  · rw [U_len]; simp; omega
  refine aw_weak ⟨lk' [(0, us l), (11, .c (.win (.loc 8) 0 l.length (l.length + 12)))], ov [(.loc 8, .ints 26 .u64 (U (l ++ mks 0 ++ List.replicate 12 0)))] (pushS S)⟩ ?_ ?_
  · (refine frz hS (by exact rfl) ?_ ?_; all_goals (repeat' (first | refine fF ?_ ?_ | refine fS ?_ ?_ | exact True.intro)); all_goals (try (first | exact kv | (refine kW (ov_of lks) rfl ?_ ?_))))
    · refine kO ?_
      have e := U_len l
      simp [U, mks]
      rw [show ((l.length : Int) + 12).toNat = l.length + 12 by omega]
      simp
    · exact kWin (ovNe lks) rfl (by rw [U_len]; simp) (by omega)
  repeat refine gN ?_
  refine awp_rep (ι := Nat) (fun i => ⟨lk' [(0, us l), (3, .c (.win (.loc 8) 0 (l.length + i) (l.length + 12))), (4, iv i)], ov [(.loc 8, .ints 26 .u64 (U (l ++ mks i ++ List.replicate (12 - i) 0)))] (pushS S)⟩) (fun i => i ≤ 12) (fun i => 12 - i) 0 (Nat.zero_le _) ?_ ?_
  · (refine frz hS (by exact rfl) ?_ ?_; all_goals (repeat' (first | refine fF ?_ ?_ | refine fS ?_ ?_ | exact True.intro)); all_goals (try (first | exact kv | (refine kW (ov_of lks) rfl ?_ ?_))))
  intro i hi
  have hlen : (U (l ++ mks i ++ List.replicate (12 - i) 0)).length = l.length + 12 := by rw [U_len]; simp [mks_len]; omega
  repeat refine gN ?_
  ((first | refine zw1 ?_ | refine zw2 ?_ | refine zw3 ?_); refine s_cmp (fun g => ?_) (fun g => ?_))
  · repeat refine gN ?_
    ((first | refine zw1 ?_ | refine zw2 ?_ | refine zw3 ?_); refine s_call (c_mark1 i (by omega)) ?_)
    repeat refine gN ?_
    ((first | refine zw1 ?_ | refine zw2 ?_ | refine zw3 ?_); refine s_appR ttOk (Y := [((8000024 + i : Nat) : Int)]) ?_ ?_ ?_; (· exact srcE_win (L := [((8000024 + i : Nat) : Int)]) lks (by simp)))
    · rw [hlen]; simp; omega
    repeat refine gN ?_
    refine ⟨i + 1, ?_, by omega, by omega⟩
    (refine frz hS (by exact rfl) ?_ ?_; all_goals (repeat' (first | refine fF ?_ ?_ | refine fS ?_ ?_ | exact True.intro)); all_goals (try (first | exact kv | (refine kW (ov_of lks) rfl ?_ ?_))))
    exact kO (lent_put l i (by omega))
  · repeat refine gN ?_
    have : i = 12 := by omega
    subst this
    repeat refine gN ?_
    (refine endF ttOk (.inr rfl) hS (by exact rfl) ?_ (fl' := [(2, .c (.intc .u64 (U (l ++ mks 12)) l.length))]) (by exact rfl) (by exact rfl) (by exact rfl); (repeat' (first | refine fF ?_ ?_ | refine fS ?_ ?_ | exact True.intro); all_goals (try (first | exact kv | (refine kW (ov_of lks) rfl ?_ ?_)))))
    exact kWc (ov_of lks) rfl (by rw [U_len]; simp [mks_len]) (by rw [List.drop_zero]; rw [List.take_of_length_le (by rw [U_len]; simp [mks_len])]; simp) (by omega)

theorem c_lentint (s : Bool) (l : List Nat) (hl : l.length ≤ 17592186043904) : AFun Try.prog 15 [wi s l] (.agg [.sc (.bool s), .intc .u64 (U (l ++ mks 12)) l.length]) := by
  refine afunT (mu := muF) Try.func15 rfl (by decide) rfl (by decide) (Nat.le_of_ble_eq_true rfl) (by simp [nm0, AVal.at, AVal.at1, Cell.at]) (by simp [nm0, AVal.at, AVal.at1, Cell.at]) fun S hS => ?_
  repeat refine gN ?_
  ((first | refine zw1 ?_ | refine zw2 ?_ | refine zw3 ?_); refine s_call (c_lentlimbs l hl) ?_)
  repeat refine gN ?_
  (refine endT ttOk (.inr rfl) (by exact rfl) (by exact rfl) (by exact rfl) (by exact rfl))

theorem mk_get (l : List Nat) (i : Nat) (h0 : l.length ≤ i) (h : i < l.length + 12) : (U (l ++ mks 12)).getD i 0 = ((8000024 + (i - l.length) : Nat) : Int) := by
  rw [U, List.getD_eq_getElem?_getD, List.getElem?_map, List.getElem?_append_right h0]
  have := mks_get (i := 12) (j := i - l.length) (by omega)
  rw [List.getD_eq_getElem?_getD] at this
  rw [List.getElem?_eq_getElem (by rw [mks_len]; omega)] at this ⊢
  simp only [Option.getD_some, Option.map_some] at this ⊢
  rw [this]; rfl
theorem mk_get0 (l : List Nat) (i : Nat) (h : i < l.length) : (U (l ++ mks 12)).getD i 0 = ((l.getD i 0 : Nat) : Int) := by
  rw [U, List.getD_eq_getElem?_getD, List.getElem?_map, List.getElem?_append_left h, List.getD_eq_getElem?_getD, List.getElem?_eq_getElem h]
  rfl

theorem kIC {A B : Store} {k : IntKind} {L L' : List Int} {n n' : Nat} (h1 : L = L') (h2 : n = n') : FrzV A B (.c (.intc k L n)) (.c (.intc k L' n')) := by
  subst h1; subst h2; exact .c (.base (.keep (fun m h => h.elim)))

theorem c_keptlimbs (l : List Nat) (hl : l.length < 2 ^ 60) : AFun Try.prog 49 [.c (.intc .u64 (U (l ++ mks 12)) l.length), us l] (bvl true) := by
  have hlen : (U (l ++ mks 12)).length = l.length + 12 := by rw [U_len]; simp [mks_len]
  refine afun (mu := muF) Try.func49 rfl (by decide) rfl (by decide) (Nat.le_of_ble_eq_true rfl) (by simp [nm0, AVal.at, AVal.at1, Cell.at]) (by simp [nm0, AVal.at, AVal.at1, Cell.at]) fun S hS => ?_
  repeat refine gN ?_
  ((first | refine zw1 ?_ | refine zw2 ?_ | refine zw3 ?_); refine s_cmp (fun g => ?_) (fun g => ?_))
  · omega
  repeat refine gN ?_
  refine awp_rep (ι := Nat) (fun i => ⟨lk' [(1, us l), (4, bvl false), (5, .c (.intc .u64 (U (l ++ mks 12)) (l.length + 12))), (6, iv i)], ov [] (pushS S)⟩) (fun i => i ≤ l.length + 12) (fun i => l.length + 12 - i) 0 (Nat.zero_le _) ?_ ?_
  · (refine frz hS (by exact rfl) ?_ ?_; all_goals (repeat' (first | refine fF ?_ ?_ | refine fS ?_ ?_ | exact True.intro)); all_goals (try (first | exact kv | (refine kW (ov_of lks) rfl ?_ ?_))))
    exact kIC rfl (by omega)
  intro i hi
  repeat refine gN ?_
  ((first | refine zw1 ?_ | refine zw2 ?_ | refine zw3 ?_); refine s_cmp (fun g1 => ?_) (fun g1 => ?_))
  · repeat refine gN ?_
    ((first | refine zw1 ?_ | refine zw2 ?_ | refine zw3 ?_); refine s_cmp (fun g2 => ?_) (fun g2 => ?_))
    · repeat refine gN ?_
      have e := mk_get0 l i (by omega)
      rw [show ((i : Int)).toNat = i by omega, e]
      ((first | refine zw1 ?_ | refine zw2 ?_ | refine zw3 ?_); refine s_cmp (fun g3 => ?_) (fun g3 => ?_))
      · repeat refine gN ?_
        ((first | refine zw1 ?_ | refine zw2 ?_ | refine zw3 ?_); refine s_cmp (fun g4 => ?_) (fun g4 => ?_))
        · omega
        · repeat refine gN ?_
          refine ⟨i + 1, ?_, by omega, by omega⟩
          (refine frz hS (by exact rfl) ?_ ?_; all_goals (repeat' (first | refine fF ?_ ?_ | refine fS ?_ ?_ | exact True.intro)); all_goals (try (first | exact kv | (refine kW (ov_of lks) rfl ?_ ?_))))
          exact kIC rfl rfl
      · exact absurd rfl g3
    · repeat refine gN ?_
      ((first | refine zw1 ?_ | refine zw2 ?_ | refine zw3 ?_); refine s_cmp (fun g4 => ?_) (fun g4 => ?_))
      · repeat refine gN ?_
        have e := mk_get l i (by omega) (by omega)
        rw [show ((i : Int)).toNat = i by omega, e]
        rw [show ((i : Int) - (l.length : Int)) = ((i - l.length : Nat) : Int) by omega]
        ((first | refine zw1 ?_ | refine zw2 ?_ | refine zw3 ?_); refine s_call (c_mark1 (i - l.length) (by omega)) ?_)
        repeat refine gN ?_
        ((first | refine zw1 ?_ | refine zw2 ?_ | refine zw3 ?_); refine s_cmp (fun g3 => ?_) (fun g3 => ?_))
        · repeat refine gN ?_
          refine ⟨i + 1, ?_, by omega, by omega⟩
          (refine frz hS (by exact rfl) ?_ ?_; all_goals (repeat' (first | refine fF ?_ ?_ | refine fS ?_ ?_ | exact True.intro)); all_goals (try (first | exact kv | (refine kW (ov_of lks) rfl ?_ ?_))))
          exact kIC rfl rfl
        · exact absurd rfl g3
      · omega
  · repeat refine gN ?_
    (refine endF ttOk (.inr rfl) hS (by exact rfl) ?_ (fl' := [(4, bvl true)]) (by exact rfl) (by exact rfl) (by exact rfl); (repeat' (first | refine fF ?_ ?_ | refine fS ?_ ?_ | exact True.intro); all_goals (try (first | exact kv | (refine kW (ov_of lks) rfl ?_ ?_)))))

theorem aleNil (s : Bool) : ALe (.agg [.sc (.bool s), .sc (.slice none 0 0)]) (.agg [.sc (.bool s), .ints .u64 []]) := by
  refine ⟨rfl, fun i x y h1 h2 => ?_⟩
  match i with
  | 0 => simp only [List.getElem?_cons_zero, Option.some.injEq] at h1 h2; subst h1; subst h2; exact CLe.refl _
  | 1 => simp only [List.getElem?_cons_succ, List.getElem?_cons_zero, Option.some.injEq] at h1 h2; subst h1; subst h2; exact .inr (.inl ⟨_, rfl, rfl⟩)
  | i + 2 => simp at h1

theorem aleLent (s : Bool) (l : List Nat) : ALe (.agg [.sc (.bool s), .intc .u64 (U (l ++ mks 12)) l.length]) (wi s l) := by
  refine ⟨rfl, fun i x y h1 h2 => ?_⟩
  match i with
  | 0 => simp only [List.getElem?_cons_zero, Option.some.injEq] at h1 h2; subst h1; subst h2; exact .inl rfl
  | 1 =>
    simp only [List.getElem?_cons_succ, List.getElem?_cons_zero, Option.some.injEq] at h1 h2; subst h1; subst h2
    refine .inr (.inr (.inl ⟨_, _, _, rfl, by rw [U_len]; simp, ?_⟩))
    rw [show U (l ++ mks 12) = U l ++ U (mks 12) from List.map_append, List.take_left' (U_len l)]
  | i + 2 => simp at h1

theorem c_keptint (s : Bool) (l : List Nat) (hl : l.length < 2 ^ 60) : AFun Try.prog 18 [.agg [.sc (.bool s), .intc .u64 (U (l ++ mks 12)) l.length], wi s l] (bvl true) := by
  refine afun (mu := muF) Try.func18 rfl (by decide) rfl (by decide) (Nat.le_of_ble_eq_true rfl) (by simp [nm0, AVal.at, AVal.at1, Cell.at]) (by simp [nm0, AVal.at, AVal.at1, Cell.at]) fun S hS => ?_
  repeat refine gN ?_
  ((first | refine zw1 ?_ | refine zw2 ?_ | refine zw3 ?_); refine s_call (c_sameint s s l l hl hl) ?_ (hle := by repeat (first | exact trivial | refine ⟨ALe.refl _, ?_⟩ | refine ⟨aleLent _ _, ?_⟩)))
  rw [decide_eq_true (show s = s ∧ l = l from ⟨rfl, rfl⟩)]
  repeat refine gN ?_
  ((first | refine zw1 ?_ | refine zw2 ?_ | refine zw3 ?_); refine s_call (c_keptlimbs l hl) ?_)
  repeat refine gN ?_
  (refine endF ttOk (.inr rfl) hS (by exact rfl) ?_ (fl' := [(4, bvl true)]) (by exact rfl) (by exact rfl) (by exact rfl); (repeat' (first | refine fF ?_ ?_ | refine fS ?_ ?_ | exact True.intro); all_goals (try (first | exact kv | (refine kW (ov_of lks) rfl ?_ ?_)))))
end Go.Proofs

/-
  The reference: Floor, of numbers that are not below 0.
-/
namespace Go.Proofs
open Go Go.Abs Go.Nums
attribute [local irreducible] thenA blockA awp aw Stp EndF EndP EndN EndG EndT aOps
set_option linter.unusedSimpArgs false
set_option maxHeartbeats 4000000

theorem ls_one {ops : Array Oper} {fr : Fram} {i0 j : Nat} {oi oj : Oper} (h1 : ops[i0]? = some oi) (h2 : ops[j]? = some oj) (h : LS ops fr oi oj) :
    ∀ k ∈ [j], ∀ oi oj, ops[i0]? = some oi → ops[k]? = some oj → LS ops fr oi oj := by
  intro k hk oi' oj' g1 g2
  simp only [List.mem_singleton] at hk; subst hk
  rw [h1] at g1; rw [h2] at g2
  obtain rfl := Option.some.inj g1
  obtain rfl := Option.some.inj g2
  exact h

theorem c_floor (n m e : Nat) (hm0 : 0 < m) (hn : (digs B n).length < 2 ^ 20) (hm : (digs B m).length < 2 ^ 20) (he : e < 2 ^ 20) : AFun Try.prog 46 [nu ⟨false, n, e⟩, nu ⟨false, m, 0⟩] (.tup [nu ⟨false, n * 2 ^ e / m, 0⟩, nu ⟨false, n * 2 ^ e % m, 0⟩]) := by
  have hu1 := c_natup n e (by omega) (by omega)
  have hu2 := c_natup m 0 (by omega) (by omega)
  rw [Nat.pow_zero, Nat.mul_one] at hu2
  obtain ⟨a, ha⟩ : ∃ a, a = n * 2 ^ e := ⟨_, rfl⟩
  have hal : (digs B a).length < 2 ^ 36 := by
    have h1 := len_blen' a
    have h2 := blen_shl n e
    rw [← ha] at h2
    have h3 : blen n ≤ 64 * (digs B n).length := by rw [blen_le, Nat.pow_mul]; exact (digs_len hB).1 (Nat.le_refl _)
    omega
  rw [← ha] at hu1 ⊢
  have hd := c_natdiv a m hm0 hal (by omega)
  refine afun (mu := muF) Try.func46 rfl (by decide) rfl (by decide) (Nat.le_of_ble_eq_true rfl) (by simp [nm0, AVal.at, AVal.at1, Cell.at]) (by simp [nm0, AVal.at, AVal.at1, Cell.at]) fun S hS => ?_
  repeat refine gN ?_
  ((first | refine zw1 ?_ | refine zw2 ?_ | refine zw3 ?_); refine s_call (hu1) ?_)
  repeat refine gN ?_
  ((first | refine zw1 ?_ | refine zw2 ?_ | refine zw3 ?_); refine s_call (hu2) ?_)
  repeat refine gN ?_
  ((first | refine zw1 ?_ | refine zw2 ?_ | refine zw3 ?_); refine s_call (hd) ?_)
  repeat refine gN ?_
  refine awp_ls 8 [11] (by decide +kernel) ?_
  repeat refine gN ?_
  refine ⟨ls_one (by exact rfl) (by exact rfl) (ls_of rfl rfl rfl rfl (by decide +kernel) (by decide +kernel) (by exact rfl) (by exact rfl) (by simp)), ?_⟩
  repeat refine gN ?_
  (refine endF ttOk (.inr rfl) hS (by exact rfl) ?_ (fl' := [(4, np ⟨false, a / m, 0⟩), (5, np ⟨false, a % m, 0⟩)]) (by exact rfl) (by exact rfl) (by exact rfl); (repeat' (first | refine fF ?_ ?_ | refine fS ?_ ?_ | exact True.intro); all_goals (try (first | exact kv | (refine kW (ov_of lks) rfl ?_ ?_)))))
end Go.Proofs

/-
  The reference of chapter 16: wrong.
-/
namespace Go.Proofs
open Go Go.Abs Go.Nums
attribute [local irreducible] thenA blockA awp aw Stp EndF EndP EndN EndG aOps
set_option linter.unusedSimpArgs false
set_option maxHeartbeats 4000000

theorem c_rightint (s : Bool) (l : List Nat) (hl : l.length < 2 ^ 63) : AFun Try.prog 75 [wi s l] (bvl (rightB s l)) := by
  refine afun (mu := muF) Try.func75 rfl (by decide) rfl (by decide) (Nat.le_of_ble_eq_true rfl) (by simp [nm0, AVal.at, AVal.at1, Cell.at]) (by simp [nm0, AVal.at, AVal.at1, Cell.at]) fun S hS => ?_
  repeat refine gN ?_
  ((first | refine zw1 ?_ | refine zw2 ?_ | refine zw3 ?_); refine s_cmp (fun h1 => ?_) (fun h1 => ?_))
  · repeat refine gN ?_
    (refine endF ttOk (.inr rfl) hS (by exact rfl) ?_ (fl' := [(2, bvl (rightB s l))]) (by exact rfl) (by exact rfl) (by exact rfl); (repeat' (first | refine fF ?_ ?_ | refine fS ?_ ?_ | exact True.intro); all_goals (try (first | exact kv | (refine kW (ov_of lks) rfl ?_ ?_)))))
    exact kB (by unfold rightB; rw [if_pos (by omega)])
  repeat refine gN ?_
  ((first | refine zw1 ?_ | refine zw2 ?_ | refine zw3 ?_); refine s_cmp (fun h2 => ?_) (fun h2 => ?_))
  · repeat refine gN ?_
    have e : ((l.length : Int) - 1).toNat = l.length - 1 := by omega
    rw [e]
    ((first | refine zw1 ?_ | refine zw2 ?_ | refine zw3 ?_); refine s_cmp (fun h3 => ?_) (fun h3 => ?_))
    · repeat refine gN ?_
      (refine endF ttOk (.inr rfl) hS (by exact rfl) ?_ (fl' := [(2, bvl (rightB s l))]) (by exact rfl) (by exact rfl) (by exact rfl); (repeat' (first | refine fF ?_ ?_ | refine fS ?_ ?_ | exact True.intro); all_goals (try (first | exact kv | (refine kW (ov_of lks) rfl ?_ ?_)))))
      exact kB (by unfold rightB; rw [if_neg (by omega), decide_eq_true]; exact ⟨by omega, by omega⟩)
    · repeat refine gN ?_
      (refine endF ttOk (.inr rfl) hS (by exact rfl) ?_ (fl' := [(2, bvl (rightB s l))]) (by exact rfl) (by exact rfl) (by exact rfl); (repeat' (first | refine fF ?_ ?_ | refine fS ?_ ?_ | exact True.intro); all_goals (try (first | exact kv | (refine kW (ov_of lks) rfl ?_ ?_)))))
      exact kB (by unfold rightB; rw [if_neg (by omega), decide_eq_false]; intro h; omega)
  · repeat refine gN ?_
    (refine endF ttOk (.inr rfl) hS (by exact rfl) ?_ (fl' := [(2, bvl (rightB s l))]) (by exact rfl) (by exact rfl) (by exact rfl); (repeat' (first | refine fF ?_ ?_ | refine fS ?_ ?_ | exact True.intro); all_goals (try (first | exact kv | (refine kW (ov_of lks) rfl ?_ ?_)))))
    exact kB (by unfold rightB; rw [if_neg (by omega), decide_eq_false]; intro h; omega)

theorem c_wrong16 (s : Bool) (l : List Nat) (s2 : Bool) (l2 : List Nat) (b : Int) (hl : l.length < 2 ^ 63) (hl2 : l2.length < 2 ^ 63) : AFun Try.prog 45 [wi s l, wi s2 l2, ivl .i64 b] (ivl .i64 (stepN s l s2 l2 b)) := by
  have hr1 := c_rightint s l hl
  have hr2 := c_rightint s2 l2 hl2
  cases e1 : rightB s l with
  | false =>
    have e : stepN s l s2 l2 b = 2 := by unfold stepN wrongN; split <;> simp [e1]
    rw [e]
    rw [e1] at hr1
    refine afun (mu := muF) Try.func45 rfl (by decide) rfl (by decide) (Nat.le_of_ble_eq_true rfl) (by simp [nm0, AVal.at, AVal.at1, Cell.at]) (by simp [nm0, AVal.at, AVal.at1, Cell.at]) fun S hS => ?_
    repeat refine gN ?_
    ((first | refine zw1 ?_ | refine zw2 ?_ | refine zw3 ?_); refine s_call (hr1) ?_)
    repeat refine gN ?_
    (refine endF ttOk (.inr rfl) hS (by exact rfl) ?_ (fl' := [(6, ivl .i64 2)]) (by exact rfl) (by exact rfl) (by exact rfl); (repeat' (first | refine fF ?_ ?_ | refine fS ?_ ?_ | exact True.intro); all_goals (try (first | exact kv | (refine kW (ov_of lks) rfl ?_ ?_)))))
  | true =>
    rw [e1] at hr1
    cases e2 : rightB s2 l2 with
    | false =>
      have e : stepN s l s2 l2 b = 2 := by unfold stepN; rw [if_pos e2]
      rw [e]
      rw [e2] at hr2
      refine afun (mu := muF) Try.func45 rfl (by decide) rfl (by decide) (Nat.le_of_ble_eq_true rfl) (by simp [nm0, AVal.at, AVal.at1, Cell.at]) (by simp [nm0, AVal.at, AVal.at1, Cell.at]) fun S hS => ?_
      repeat refine gN ?_
      ((first | refine zw1 ?_ | refine zw2 ?_ | refine zw3 ?_); refine s_call (hr1) ?_)
      repeat refine gN ?_
      ((first | refine zw1 ?_ | refine zw2 ?_ | refine zw3 ?_); refine s_call (hr2) ?_)
      repeat refine gN ?_
      (refine endF ttOk (.inr rfl) hS (by exact rfl) ?_ (fl' := [(6, ivl .i64 2)]) (by exact rfl) (by exact rfl) (by exact rfl); (repeat' (first | refine fF ?_ ?_ | refine fS ?_ ?_ | exact True.intro); all_goals (try (first | exact kv | (refine kW (ov_of lks) rfl ?_ ?_)))))
    | true =>
      have e : stepN s l s2 l2 b = wrongN s l b := by unfold stepN; rw [if_neg (by rw [e2]; simp)]
      rw [e2] at hr2
      rw [e]
      refine afun (mu := muF) Try.func45 rfl (by decide) rfl (by decide) (Nat.le_of_ble_eq_true rfl) (by simp [nm0, AVal.at, AVal.at1, Cell.at]) (by simp [nm0, AVal.at, AVal.at1, Cell.at]) fun S hS => ?_
      repeat refine gN ?_
      ((first | refine zw1 ?_ | refine zw2 ?_ | refine zw3 ?_); refine s_call (hr1) ?_)
      repeat refine gN ?_
      ((first | refine zw1 ?_ | refine zw2 ?_ | refine zw3 ?_); refine s_call (hr2) ?_)
      repeat refine gN ?_
      ((first | refine zw1 ?_ | refine zw2 ?_ | refine zw3 ?_); refine s_cmp (fun g1 => ?_) (fun g1 => ?_))
      · repeat refine gN ?_
        (refine endF ttOk (.inr rfl) hS (by exact rfl) ?_ (fl' := [(6, ivl .i64 (wrongN s l b))]) (by exact rfl) (by exact rfl) (by exact rfl); (repeat' (first | refine fF ?_ ?_ | refine fS ?_ ?_ | exact True.intro); all_goals (try (first | exact kv | (refine kW (ov_of lks) rfl ?_ ?_)))))
        all_goals exact kN (by rw [wrongN, if_pos (.inr (.inl g1))])
      repeat refine gN ?_
      ((first | refine zw1 ?_ | refine zw2 ?_ | refine zw3 ?_); refine s_cmp (fun g2 => ?_) (fun g2 => ?_))
      · repeat refine gN ?_
        (refine endF ttOk (.inr rfl) hS (by exact rfl) ?_ (fl' := [(6, ivl .i64 (wrongN s l b))]) (by exact rfl) (by exact rfl) (by exact rfl); (repeat' (first | refine fF ?_ ?_ | refine fS ?_ ?_ | exact True.intro); all_goals (try (first | exact kv | (refine kW (ov_of lks) rfl ?_ ?_)))))
        all_goals exact kN (by rw [wrongN, if_pos (.inr (.inr g2))])
      have h3 : ¬ (rightB s l = false ∨ b < 0 ∨ 262144 < b) := by rw [e1]; simp; omega
      repeat refine gN ?_
      ((first | refine zw1 ?_ | refine zw2 ?_ | refine zw3 ?_); refine s_cmp (fun g3 => ?_) (fun g3 => ?_))
      · repeat refine gN ?_
        (refine endF ttOk (.inr rfl) hS (by exact rfl) ?_ (fl' := [(6, ivl .i64 (wrongN s l b))]) (by exact rfl) (by exact rfl) (by exact rfl); (repeat' (first | refine fF ?_ ?_ | refine fS ?_ ?_ | exact True.intro); all_goals (try (first | exact kv | (refine kW (ov_of lks) rfl ?_ ?_)))))
        all_goals exact kN (by rw [wrongN, if_neg h3, if_pos (by omega)])
      have h5 : ¬ l.length = 0 := by omega
      cases s with
      | true =>
        repeat refine gN ?_
        (refine endF ttOk (.inr rfl) hS (by exact rfl) ?_ (fl' := [(6, ivl .i64 (wrongN true l b))]) (by exact rfl) (by exact rfl) (by exact rfl); (repeat' (first | refine fF ?_ ?_ | refine fS ?_ ?_ | exact True.intro); all_goals (try (first | exact kv | (refine kW (ov_of lks) rfl ?_ ?_)))))
        all_goals exact kN (by rw [wrongN, if_neg h3, if_neg h5]; rfl)
      | false =>
        repeat refine gN ?_
        (refine endF ttOk (.inr rfl) hS (by exact rfl) ?_ (fl' := [(6, ivl .i64 (wrongN false l b))]) (by exact rfl) (by exact rfl) (by exact rfl); (repeat' (first | refine fF ?_ ?_ | refine fS ?_ ?_ | exact True.intro); all_goals (try (first | exact kv | (refine kW (ov_of lks) rfl ?_ ?_)))))
        all_goals exact kN (by rw [wrongN, if_neg h3, if_neg h5]; rfl)
end Go.Proofs

/-
  The reference of chapter 16: Of, Step.
-/
namespace Go.Proofs
open Go Go.Abs Go.Nums
attribute [local irreducible] thenA blockA awp aw Stp EndF EndP EndN EndG EndT aOps
set_option linter.unusedSimpArgs false
set_option maxHeartbeats 4000000

theorem stepN_of (s : Bool) (l : List Nat) (b : Int) : stepN s l false [] b = wrongN s l b := by
  unfold stepN; rw [if_neg (by decide)]

theorem c_wrong16o (s : Bool) (l : List Nat) (b : Int) (hl : l.length < 2 ^ 60) : AFun Try.prog 45 [wi s l, wi false [], ivl .i64 b] (ivl .i64 (wrongN s l b)) := by
  have h := c_wrong16 s l false [] b (by omega) (by simp)
  rwa [stepN_of] at h

theorem c_rofw (s : Bool) (l : List Nat) (b : Int) (hl : l.length < 2 ^ 60) (hw : wrongN s l b ≠ 0) : AFun Try.prog 16 [wi s l, ivl .i64 b] (.tup [w0, ivl .i64 (wrongN s l b)]) := by
  refine afun (mu := muF) Try.func16 rfl (by decide) rfl (by decide) (Nat.le_of_ble_eq_true rfl) (by simp [nm0, AVal.at, AVal.at1, Cell.at]) (by simp [nm0, AVal.at, AVal.at1, Cell.at]) fun S hS => ?_
  repeat refine gN ?_
  ((first | refine zw1 ?_ | refine zw2 ?_ | refine zw3 ?_); refine s_call (c_wrong16o s l b hl) ?_ (hle := by repeat (first | exact trivial | refine ⟨ALe.refl _, ?_⟩ | refine ⟨aleNil _, ?_⟩)))
  repeat refine gN ?_
  ((first | refine zw1 ?_ | refine zw2 ?_ | refine zw3 ?_); refine s_cmp (fun h => ?_) (fun h => ?_))
  · repeat refine gN ?_
    (refine endF ttOk (.inr rfl) hS (by exact rfl) ?_ (fl' := [(4, .c (.pim [.sc (.bool false), .ints .u64 []])), (5, ivl .i64 (wrongN s l b))]) (by exact rfl) (by exact rfl) (by exact rfl); (repeat' (first | refine fF ?_ ?_ | refine fS ?_ ?_ | exact True.intro); all_goals (try (first | exact kv | (refine kW (ov_of lks) rfl ?_ ?_)))))
  · exact absurd hw h

theorem one_eq (b : Nat) : (Nu.mk false 1 0).scaled b = ⟨false, 1, (b : Int)⟩ := by simp [Nu.scaled]
theorem len_iff (n : Nat) : (digs B n).length ≤ 4096 ↔ (blen n : Int) ≤ 262144 := by
  obtain ⟨k, hk⟩ : ∃ k, k = 4096 := ⟨_, rfl⟩
  rw [show (262144 : Int) = ((64 * k : Nat) : Int) by rw [hk]; rfl, Int.ofNat_le, ← hk]
  constructor
  · intro h; rw [blen_le, Nat.pow_mul]; exact (digs_len hB).1 h
  · intro h; rw [digs_len hB, show B = 2 ^ 64 from rfl, ← Nat.pow_mul]; exact (blen_le _ _).1 h

theorem c_rof (d b : Nat) (hd0 : 0 < d) (hd : (digs B d).length ≤ 4096) (hb : b ≤ 262144) : ∃ x e, AFun Try.prog 16 [w1 d, iv b] (.tup [x, ivl .i64 e]) ∧ AFun Try.prog 9 [w1 d, iv b] (.tup [x, ivl .i64 e]) ∧ ∃ s l, x = wi s l ∧ l.length ≤ 4096 := by
  have hw := c_wrong16o false (digs B d) b (by omega)
  rw [wrong_ok d b hd0 hd hb] at hw
  have h1 := c_one16 b (by omega)
  rw [one_eq] at h1
  have h2 := c_numint false (digs B d) (rng_digs hB d) (by omega)
  rw [val_digs hB] at h2
  have h3 := c_floor 1 d b hd0 (by rw [digs_one]; decide) (by omega) (by omega)
  rw [Nat.one_mul] at h3
  obtain ⟨q, hq⟩ : ∃ q, q = 2 ^ b / d := ⟨_, rfl⟩
  obtain ⟨r, hr⟩ : ∃ r, r = 2 ^ b % d := ⟨_, rfl⟩
  rw [← hq, ← hr] at h3
  have hv : (Nu.mk false q 0).val = q := by simp [Nu.val, sg]
  have hbl : blen q ≤ 262145 := by
    have e1 := blen_mono (Nat.div_le_self (2 ^ b) d)
    rw [← hq] at e1
    have e2 := blen_shl 1 b
    rw [Nat.one_mul] at e2
    have e3 : blen 1 = 1 := by decide
    omega
  have hok : (Nu.mk false q 0).ok 262145 := ⟨Int.le_refl _, show (blen q : Int) + 0 ≤ _ by omega⟩
  by_cases g : (digs B q).length ≤ 4096
  · have ht := c_told131 ⟨false, q, 0⟩ 262145 hok (by decide) (.inr (show (blen q : Int) + 0 ≤ 262144 by have := (len_iff q).1 g; omega))
    rw [hv, vz_n] at ht
    refine ⟨w1 q, 0, ?_, by rw [hq]; exact c_of1 d b hd0 hd hb (by rw [← hq]; exact g), false, digs B q, rfl, g⟩
    refine afun (mu := muF) Try.func16 rfl (by decide) rfl (by decide) (Nat.le_of_ble_eq_true rfl) (by simp [nm0, AVal.at, AVal.at1, Cell.at]) (by simp [nm0, AVal.at, AVal.at1, Cell.at]) fun S hS => ?_
    repeat refine gN ?_
    ((first | refine zw1 ?_ | refine zw2 ?_ | refine zw3 ?_); refine s_call (hw) ?_ (hle := by repeat (first | exact trivial | refine ⟨ALe.refl _, ?_⟩ | refine ⟨aleNil _, ?_⟩)))
    repeat refine gN ?_
    ((first | refine zw1 ?_ | refine zw2 ?_ | refine zw3 ?_); refine s_cmp (fun h => ?_) (fun h => ?_))
    · exact absurd rfl h
    repeat refine gN ?_
    ((first | refine zw1 ?_ | refine zw2 ?_ | refine zw3 ?_); refine s_call (h1) ?_)
    repeat refine gN ?_
    ((first | refine zw1 ?_ | refine zw2 ?_ | refine zw3 ?_); refine s_call (h2) ?_)
    repeat refine gN ?_
    ((first | refine zw1 ?_ | refine zw2 ?_ | refine zw3 ?_); refine s_call (h3) ?_)
    repeat refine gN ?_
    ((first | refine zw1 ?_ | refine zw2 ?_ | refine zw3 ?_); refine s_call (ht) ?_)
    repeat refine gN ?_
    (refine endF ttOk (.inr rfl) hS (by exact rfl) ?_ (fl' := [(4, .c (.pim [.sc (.bool false), .ints .u64 (U (digs B q))])), (5, ivl .i64 0)]) (by exact rfl) (by exact rfl) (by exact rfl); (repeat' (first | refine fF ?_ ?_ | refine fS ?_ ?_ | exact True.intro); all_goals (try (first | exact kv | (refine kW (ov_of lks) rfl ?_ ?_)))))
  · have g2 : ¬ (blen q : Int) ≤ 262144 := fun h => g ((len_iff q).2 h)
    have ht := c_told132 ⟨false, q, 0⟩ 262145 hok (by decide) (show q ≠ 0 from fun h => g2 (by rw [h]; decide)) (show 262144 < (blen q : Int) + 0 by omega)
    refine ⟨w0, 3, ?_, c_of2 d b hd0 hd hb (by rw [← hq]; omega), false, [], rfl, by simp⟩
    refine afun (mu := muF) Try.func16 rfl (by decide) rfl (by decide) (Nat.le_of_ble_eq_true rfl) (by simp [nm0, AVal.at, AVal.at1, Cell.at]) (by simp [nm0, AVal.at, AVal.at1, Cell.at]) fun S hS => ?_
    repeat refine gN ?_
    ((first | refine zw1 ?_ | refine zw2 ?_ | refine zw3 ?_); refine s_call (hw) ?_ (hle := by repeat (first | exact trivial | refine ⟨ALe.refl _, ?_⟩ | refine ⟨aleNil _, ?_⟩)))
    repeat refine gN ?_
    ((first | refine zw1 ?_ | refine zw2 ?_ | refine zw3 ?_); refine s_cmp (fun h => ?_) (fun h => ?_))
    · exact absurd rfl h
    repeat refine gN ?_
    ((first | refine zw1 ?_ | refine zw2 ?_ | refine zw3 ?_); refine s_call (h1) ?_)
    repeat refine gN ?_
    ((first | refine zw1 ?_ | refine zw2 ?_ | refine zw3 ?_); refine s_call (h2) ?_)
    repeat refine gN ?_
    ((first | refine zw1 ?_ | refine zw2 ?_ | refine zw3 ?_); refine s_call (h3) ?_)
    repeat refine gN ?_
    ((first | refine zw1 ?_ | refine zw2 ?_ | refine zw3 ?_); refine s_call (ht) ?_)
    repeat refine gN ?_
    (refine endF ttOk (.inr rfl) hS (by exact rfl) ?_ (fl' := [(4, .c (.pim [.sc (.bool false), .ints .u64 []])), (5, ivl .i64 3)]) (by exact rfl) (by exact rfl) (by exact rfl); (repeat' (first | refine fF ?_ ?_ | refine fS ?_ ?_ | exact True.intro); all_goals (try (first | exact kv | (refine kW (ov_of lks) rfl ?_ ?_)))))

theorem c_rstepw (s : Bool) (l : List Nat) (s2 : Bool) (l2 : List Nat) (b : Int) (hl : l.length < 2 ^ 60) (hl2 : l2.length < 2 ^ 60) (hw : stepN s l s2 l2 b ≠ 0) : AFun Try.prog 17 [wi s l, wi s2 l2, ivl .i64 b] (.tup [w0, ivl .i64 (stepN s l s2 l2 b)]) := by
  refine afun (mu := muF) Try.func17 rfl (by decide) rfl (by decide) (Nat.le_of_ble_eq_true rfl) (by simp [nm0, AVal.at, AVal.at1, Cell.at]) (by simp [nm0, AVal.at, AVal.at1, Cell.at]) fun S hS => ?_
  repeat refine gN ?_
  ((first | refine zw1 ?_ | refine zw2 ?_ | refine zw3 ?_); refine s_call (c_wrong16 s l s2 l2 b (by omega) (by omega)) ?_)
  repeat refine gN ?_
  ((first | refine zw1 ?_ | refine zw2 ?_ | refine zw3 ?_); refine s_cmp (fun h => ?_) (fun h => ?_))
  · repeat refine gN ?_
    (refine endF ttOk (.inr rfl) hS (by exact rfl) ?_ (fl' := [(6, .c (.pim [.sc (.bool false), .ints .u64 []])), (7, ivl .i64 (stepN s l s2 l2 b))]) (by exact rfl) (by exact rfl) (by exact rfl); (repeat' (first | refine fF ?_ ?_ | refine fS ?_ ?_ | exact True.intro); all_goals (try (first | exact kv | (refine kW (ov_of lks) rfl ?_ ?_)))))
  · exact absurd hw h

theorem c_rstep (d b : Nat) (r : Int) (hd0 : 0 < d) (hd : (digs B d).length ≤ 4096) (hr : (digs B r.natAbs).length ≤ 4096) (hb : b ≤ 262144) : ∃ x e, AFun Try.prog 17 [w1 d, wz r, iv b] (.tup [x, ivl .i64 e]) ∧ AFun Try.prog 11 [w1 d, wz r, iv b] (.tup [x, ivl .i64 e]) ∧ ∃ s l, x = wi s l ∧ l.length ≤ 4096 := by
  have hw := c_wrong16 false (digs B d) (decide (r < 0)) (digs B r.natAbs) b (by omega) (by omega)
  have hw0 : stepN false (digs B d) (decide (r < 0)) (digs B r.natAbs) b = 0 := by
    unfold stepN
    rw [if_neg (by rw [right_digs _ _ hr (by simp; omega)]; simp), wrong_ok d b hd0 hd hb]
  rw [hw0] at hw
  have k64 : ∀ n : Nat, (digs B n).length ≤ 4096 → blen n ≤ 262144 := fun n h => by have := (len_iff n).1 h; omega
  have h0 := c_numintZ r (by omega)
  have kr : (nz r).ok 262144 := nz_ok (k64 _ hr)
  have h1 := c_one16 b (by omega)
  have k1 : ((Nu.mk false 1 0).scaled b).ok 262145 := Nu.ok_mono (Nu.ok_scaled (K := 1) ⟨Int.le_refl _, by decide⟩ b) (by omega)
  have v1 : ((Nu.mk false 1 0).scaled b).val = 2 ^ b := by rw [Nu.val_scaled (by decide)]; simp [Nu.val, sg]
  have h2 := c_numintZ (d : Int) (by rw [Int.natAbs_natCast]; omega)
  have kd : (nz d).ok 262144 := nz_ok (by rw [Int.natAbs_natCast]; exact k64 _ hd)
  rw [show vz (d : Int) = w1 d from vz_n d] at h2
  obtain ⟨one, hone⟩ : ∃ x : Nu, x = (Nu.mk false 1 0).scaled b := ⟨_, rfl⟩
  rw [← hone] at h1 k1 v1
  have h3 := c_numtimes (nz d) (nz r) 262144 262144 kd kr (by decide) (by decide)
  have k3 := Nu.ok_times kd kr
  have v3 := Nu.val_times (x := nz d) (y := nz r) kd.1 kr.1
  rw [nz_val, nz_val] at v3
  obtain ⟨dx, hdx⟩ : ∃ x : Nu, x = (nz d).times (nz r) := ⟨_, rfl⟩
  rw [← hdx] at h3 k3 v3
  have k3' : dx.ok 524288 := Nu.ok_mono k3 (by decide)
  have k1' : one.ok 524288 := Nu.ok_mono k1 (by decide)
  have h4 := c_numless one dx 524288 k1' k3' (by decide)
  have k4 := Nu.ok_less k1' k3'
  have v4 := Nu.val_less (x := one) (y := dx) k1.1 k3.1
  rw [v1, v3] at v4
  obtain ⟨left, hleft⟩ : ∃ x : Nu, x = one.less dx := ⟨_, rfl⟩
  rw [← hleft] at h4 k4 v4
  have h5 := c_numtimes (nz r) left 262144 524289 kr k4 (by decide) (by decide)
  have k5 : ((nz r).times left).ok 786433 := Nu.ok_mono (Nu.ok_times kr k4) (by decide)
  have v5 := Nu.val_times (x := nz r) (y := left) kr.1 k4.1
  rw [nz_val, v4] at v5
  obtain ⟨t, ht⟩ : ∃ x : Nu, x = (nz r).times left := ⟨_, rfl⟩
  rw [← ht] at h5 k5 v5
  have ht0 := k5.1
  have ht1 := k5.2
  have h6 := c_scaled t (-(b : Int)) (by omega)
  have v6 := Nu.cut_val (z := t) k5.1 b
  rw [v5] at v6
  obtain ⟨y, hy⟩ : ∃ x : Nu, x = t.scaled (-(b : Int)) := ⟨_, rfl⟩
  have hyn : y.n = t.n := by rw [hy]; rfl
  have hyb : blen y.n = blen t.n := by rw [hyn]
  have hye : y.e = t.e - b := by rw [hy]; show t.e + -(b : Int) = _; omega
  rw [← hy] at h6 v6
  rw [show (-(b : Int)) = 0 - (b : Int) by omega] at h6
  have h7 := c_cut y 786433 (by omega) (by omega) (by decide)
  have k7 : y.cut.ok 786434 := Nu.cut_ok (K := 786433) (by omega) (by omega)
  have kr' : (nz r).ok 786434 := Nu.ok_mono kr (by decide)
  have h8 := c_numplus (nz r) y.cut 786434 kr' k7 (by decide)
  have k8 := Nu.ok_plus kr' k7
  have v8 := Nu.val_plus (x := nz r) (y := y.cut) kr.1 k7.1
  rw [nz_val, v6] at v8
  obtain ⟨p, hp⟩ : ∃ x : Nu, x = (nz r).plus y.cut := ⟨_, rfl⟩
  rw [← hp] at h8 k8 v8
  have vp : p.val = stepV d r b := by rw [v8]; unfold stepV; rw [Int.mul_comm r, Int.add_comm]
  have hpn : p.n ≠ 0 → blen p.val.natAbs = blen p.n + p.e.toNat := fun h => by rw [Nu.abs_val, blen_shl' h]
  have hp0 := k8.1
  have run : ∀ (x : AVal) (s : Bool) (l : List Nat) (e : Int), x = wi s l → AFun Try.prog 48 [nu p] (.tup [x, ivl .i64 e]) → AFun Try.prog 17 [w1 d, wz r, iv b] (.tup [x, ivl .i64 e]) := by
    rintro _ s l e rfl htold
    refine afun (mu := muF) Try.func17 rfl (by decide) rfl (by decide) (Nat.le_of_ble_eq_true rfl) (by simp [nm0, AVal.at, AVal.at1, Cell.at]) (by simp [nm0, AVal.at, AVal.at1, Cell.at]) fun S hS => ?_
    repeat refine gN ?_
    ((first | refine zw1 ?_ | refine zw2 ?_ | refine zw3 ?_); refine s_call (hw) ?_)
    repeat refine gN ?_
    ((first | refine zw1 ?_ | refine zw2 ?_ | refine zw3 ?_); refine s_cmp (fun h => ?_) (fun h => ?_))
    · exact absurd rfl h
    repeat refine gN ?_
    ((first | refine zw1 ?_ | refine zw2 ?_ | refine zw3 ?_); refine s_call (h0) ?_)
    repeat refine gN ?_
    ((first | refine zw1 ?_ | refine zw2 ?_ | refine zw3 ?_); refine s_call (h1) ?_)
    repeat refine gN ?_
    ((first | refine zw1 ?_ | refine zw2 ?_ | refine zw3 ?_); refine s_call (h2) ?_)
    repeat refine gN ?_
    ((first | refine zw1 ?_ | refine zw2 ?_ | refine zw3 ?_); refine s_call (h3) ?_)
    repeat refine gN ?_
    ((first | refine zw1 ?_ | refine zw2 ?_ | refine zw3 ?_); refine s_call (h4) ?_)
    repeat refine gN ?_
    ((first | refine zw1 ?_ | refine zw2 ?_ | refine zw3 ?_); refine s_call (h5) ?_)
    repeat refine gN ?_
    ((first | refine zw1 ?_ | refine zw2 ?_ | refine zw3 ?_); refine s_call (h6) ?_)
    repeat refine gN ?_
    ((first | refine zw1 ?_ | refine zw2 ?_ | refine zw3 ?_); refine s_call (h7) ?_)
    repeat refine gN ?_
    ((first | refine zw1 ?_ | refine zw2 ?_ | refine zw3 ?_); refine s_call (h8) ?_)
    repeat refine gN ?_
    ((first | refine zw1 ?_ | refine zw2 ?_ | refine zw3 ?_); refine s_call (htold) ?_)
    repeat refine gN ?_
    (refine endF ttOk (.inr rfl) hS (by exact rfl) ?_ (fl' := [(6, .c (.pim [.sc (.bool s), .ints .u64 (U l)])), (7, ivl .i64 e)]) (by exact rfl) (by exact rfl) (by exact rfl); (repeat' (first | refine fF ?_ ?_ | refine fS ?_ ?_ | exact True.intro); all_goals (try (first | exact kv | (refine kW (ov_of lks) rfl ?_ ?_)))))
  by_cases g : (digs B (stepV d r b).natAbs).length ≤ 4096
  · have hb1 := (len_iff _).1 g
    rw [← vp] at hb1
    have htold := c_told131 p 786435 k8 (by decide) (by
      by_cases q : p.n = 0
      · exact .inl q
      · have := hpn q; exact .inr (by omega))
    rw [vp] at htold
    exact ⟨wz (stepV d r b), 0, run _ _ _ _ rfl htold, c_step1 d b r hd0 hd hr hb g, _, _, rfl, g⟩
  · have hb1 : ¬ (blen p.val.natAbs : Int) ≤ 262144 := fun h => g ((len_iff _).2 (by rw [← vp]; exact h))
    have q : p.n ≠ 0 := fun q => hb1 (by rw [Nu.val_zero q]; decide)
    have htold := c_told132 p 786435 k8 (by decide) q (by have := hpn q; omega)
    exact ⟨w0, 3, run _ false [] _ rfl htold, c_step2 d b r hd0 hd hr hb (by omega), false, [], rfl, by simp⟩
end Go.Proofs
