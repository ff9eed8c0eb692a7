/-
  An abstract machine for this program, contracts of its functions: part MEd (no statement by itself).
-/
import Derived.Test.YtkhnekfipbbppaaMEc
set_option linter.unusedVariables false
set_option linter.unusedSimpArgs false

/-
  What the statements share: SameLimbs, SameInt, Small, Pick, Whole.Int, Above.
-/
namespace Go.Proofs
open Go Go.Abs Go.Nums
attribute [local irreducible] thenA blockA awp aw Stp EndF EndP EndN EndG aOps
set_option linter.unusedSimpArgs false
set_option maxHeartbeats 4000000

theorem c_samelimbs (l m : List Nat) (hl : l.length < 2 ^ 60) (hm : m.length < 2 ^ 60) : AFun Try.prog 37 [us l, us m] (bvl (decide (l = m))) := by
  refine afun (mu := muF) Try.func37 rfl (by decide) rfl (by decide) (Nat.le_of_ble_eq_true rfl) (by simp [nm0, AVal.at, AVal.at1, Cell.at]) (by simp [nm0, AVal.at, AVal.at1, Cell.at]) fun S hS => ?_
  repeat refine gN ?_
  ((first | refine zw1 ?_ | refine zw2 ?_ | refine zw3 ?_); refine s_cmp (fun h1 => ?_) (fun h1 => ?_))
  · repeat refine gN ?_
    (refine endF ttOk (.inr rfl) hS (by exact rfl) ?_ (fl' := [(4, bvl (decide (l = m)))]) (by exact rfl) (by exact rfl) (by exact rfl); (repeat' (first | refine fF ?_ ?_ | refine fS ?_ ?_ | exact True.intro); all_goals (try (first | exact kv | (refine kW (ov_of lks) rfl ?_ ?_)))))
    exact kB (by rw [decide_eq_false]; intro q; subst q; omega)
  repeat refine gN ?_
  refine awp_rep (ι := Nat) (fun i => ⟨lk' [(0, us l), (1, us m), (5, iv i)], ov [] (pushS S)⟩) (fun i => i ≤ l.length ∧ l.take i = m.take i) (fun i => l.length - i) 0 ⟨Nat.zero_le _, rfl⟩ ?_ ?_
  · (refine frz hS (by exact rfl) ?_ ?_; all_goals (repeat' (first | refine fF ?_ ?_ | refine fS ?_ ?_ | exact True.intro)); all_goals (try (first | exact kv | (refine kW (ov_of lks) rfl ?_ ?_))))
  rintro i ⟨h2, h3⟩
  repeat refine gN ?_
  ((first | refine zw1 ?_ | refine zw2 ?_ | refine zw3 ?_); refine s_cmp (fun h4 => ?_) (fun h4 => ?_))
  · repeat refine gN ?_
    ((first | refine zw1 ?_ | refine zw2 ?_ | refine zw3 ?_); refine s_cmp (fun h5 => ?_) (fun h5 => ?_))
    · repeat refine gN ?_
      (refine endF ttOk (.inr rfl) hS (by exact rfl) ?_ (fl' := [(4, bvl (decide (l = m)))]) (by exact rfl) (by exact rfl) (by exact rfl); (repeat' (first | refine fF ?_ ?_ | refine fS ?_ ?_ | exact True.intro); all_goals (try (first | exact kv | (refine kW (ov_of lks) rfl ?_ ?_)))))
      exact kB (by rw [decide_eq_false]; intro q; subst q; omega)
    · repeat refine gN ?_
      refine ⟨i + 1, ?_, ⟨by omega, ?_⟩, by omega⟩
      · (refine frz hS (by exact rfl) ?_ ?_; all_goals (repeat' (first | refine fF ?_ ?_ | refine fS ?_ ?_ | exact True.intro)); all_goals (try (first | exact kv | (refine kW (ov_of lks) rfl ?_ ?_))))
      · rw [take_snoc0 (by omega), take_snoc0 (by omega), h3]; congr 2; omega
  · repeat refine gN ?_
    rw [take_all (by omega), take_all (by omega)] at h3
    (refine endF ttOk (.inr rfl) hS (by exact rfl) ?_ (fl' := [(4, bvl (decide (l = m)))]) (by exact rfl) (by exact rfl) (by exact rfl); (repeat' (first | refine fF ?_ ?_ | refine fS ?_ ?_ | exact True.intro); all_goals (try (first | exact kv | (refine kW (ov_of lks) rfl ?_ ?_)))))
    exact kB (by rw [decide_eq_true h3])

theorem c_sameint (s t : Bool) (l m : List Nat) (hl : l.length < 2 ^ 60) (hm : m.length < 2 ^ 60) : AFun Try.prog 10 [wi s l, wi t m] (bvl (decide (s = t ∧ l = m))) := by
  by_cases e : s = t
  · subst e
    refine afun (mu := muF) Try.func10 rfl (by decide) rfl (by decide) (Nat.le_of_ble_eq_true rfl) (by simp [nm0, AVal.at, AVal.at1, Cell.at]) (by simp [nm0, AVal.at, AVal.at1, Cell.at]) fun S hS => ?_
    have e1 : (s == s) = true := by simp
    repeat refine gN ?_
    rw [e1]
    repeat refine gN ?_
    ((first | refine zw1 ?_ | refine zw2 ?_ | refine zw3 ?_); refine s_call (c_samelimbs l m hl hm) ?_)
    repeat refine gN ?_
    (refine endF ttOk (.inr rfl) hS (by exact rfl) ?_ (fl' := [(4, bvl (decide (s = s ∧ l = m)))]) (by exact rfl) (by exact rfl) (by exact rfl); (repeat' (first | refine fF ?_ ?_ | refine fS ?_ ?_ | exact True.intro); all_goals (try (first | exact kv | (refine kW (ov_of lks) rfl ?_ ?_)))))
    exact kB (by simp)
  · refine afun (mu := muF) Try.func10 rfl (by decide) rfl (by decide) (Nat.le_of_ble_eq_true rfl) (by simp [nm0, AVal.at, AVal.at1, Cell.at]) (by simp [nm0, AVal.at, AVal.at1, Cell.at]) fun S hS => ?_
    have e1 : (s == t) = false := by simpa using e
    repeat refine gN ?_
    rw [e1]
    repeat refine gN ?_
    (refine endF ttOk (.inr rfl) hS (by exact rfl) ?_ (fl' := [(4, bvl (decide (s = t ∧ l = m)))]) (by exact rfl) (by exact rfl) (by exact rfl); (repeat' (first | refine fF ?_ ?_ | refine fS ?_ ?_ | exact True.intro); all_goals (try (first | exact kv | (refine kW (ov_of lks) rfl ?_ ?_)))))
    exact kB (by simp [e])

theorem c_small1 (n : Nat) (h : n < 2 ^ 62) : AFun Try.prog 8 [ivl .i64 n] (vz n) := by
  have hv : (Nu.mk false n 0).val = (n : Int) := by simp [Nu.val, sg]
  have hb : blen n ≤ 62 := (blen_le _ _).2 h
  refine afun (mu := muF) Try.func8 rfl (by decide) rfl (by decide) (Nat.le_of_ble_eq_true rfl) (by simp [nm0, AVal.at, AVal.at1, Cell.at]) (by simp [nm0, AVal.at, AVal.at1, Cell.at]) fun S hS => ?_
  repeat refine gN ?_
  ((first | refine zw1 ?_ | refine zw2 ?_ | refine zw3 ?_); refine s_call (c_numwhole1 n (by omega)) ?_)
  repeat refine gN ?_
  ((first | refine zw1 ?_ | refine zw2 ?_ | refine zw3 ?_); refine s_call (c_tellint1 ⟨false, n, 0⟩ 62 ⟨Int.le_refl _, show (blen n : Int) + 0 ≤ ((62 : Nat) : Int) by omega⟩ (by decide) (.inr (show (blen n : Int) + 0 ≤ 262144 by omega))) ?_)
  rw [hv]
  repeat refine gN ?_
  (refine endF ttOk (.inr rfl) hS (by exact rfl) ?_ (fl' := [(2, .c (.pim [.sc (.bool (decide ((n : Int) < 0))), .ints .u64 (U (digs B (n : Int).natAbs))]))]) (by exact rfl) (by exact rfl) (by exact rfl); (repeat' (first | refine fF ?_ ?_ | refine fS ?_ ?_ | exact True.intro); all_goals (try (first | exact kv | (refine kW (ov_of lks) rfl ?_ ?_)))))

theorem c_small2 (n : Nat) (h0 : 0 < n) (h : n < 2 ^ 62) : AFun Try.prog 8 [ivl .i64 (-(n : Int))] (vz (-(n : Int))) := by
  have hv : (Nu.mk true n 0).val = -(n : Int) := by simp [Nu.val, sg]
  have hb : blen n ≤ 62 := (blen_le _ _).2 h
  refine afun (mu := muF) Try.func8 rfl (by decide) rfl (by decide) (Nat.le_of_ble_eq_true rfl) (by simp [nm0, AVal.at, AVal.at1, Cell.at]) (by simp [nm0, AVal.at, AVal.at1, Cell.at]) fun S hS => ?_
  repeat refine gN ?_
  ((first | refine zw1 ?_ | refine zw2 ?_ | refine zw3 ?_); refine s_call (c_numwhole2 n h0 (by omega)) ?_)
  repeat refine gN ?_
  ((first | refine zw1 ?_ | refine zw2 ?_ | refine zw3 ?_); refine s_call (c_tellint1 ⟨true, n, 0⟩ 62 ⟨Int.le_refl _, show (blen n : Int) + 0 ≤ ((62 : Nat) : Int) by omega⟩ (by decide) (.inr (show (blen n : Int) + 0 ≤ 262144 by omega))) ?_)
  rw [hv]
  repeat refine gN ?_
  (refine endF ttOk (.inr rfl) hS (by exact rfl) ?_ (fl' := [(2, .c (.pim [.sc (.bool (decide (-(n : Int) < 0))), .ints .u64 (U (digs B (-(n : Int)).natAbs))]))]) (by exact rfl) (by exact rfl) (by exact rfl); (repeat' (first | refine fF ?_ ?_ | refine fS ?_ ?_ | exact True.intro); all_goals (try (first | exact kv | (refine kW (ov_of lks) rfl ?_ ?_)))))

theorem stp_remI {P : Program} {mu : FuncId → Bool} {ops : Array Oper} {fl : FL} {S' : Store} {K : St → Prop} {d : Nat} {ty t0 t1 : TypeId} {pos : String} {after : Array Edge} {x y : Operand} {a b : Int}
    (kk : K ⟨lk' ((d, ivl .i64 (a.tmod b)) :: fl), S'⟩) (hx : opO fl x = some (ivl .i64 a) := by exact rfl) (hy : opO fl y = some (ivl .i64 b) := by exact rfl) (h : b ≠ 0) :
    Stp P mu ops ⟨some d, .binOp .rem t0 x y t1, ty, pos, after, none⟩ ⟨lk' fl, S'⟩ K := by
  refine stp_of hx hy ?_ kk
  simp only [binE, isShift]
  exact ⟨trivial, show b ≠ 0 ∧ _ = ivl .i64 (a.tmod b) from ⟨h, rfl⟩⟩

theorem c_pick (x : Int) (n : Nat) (h0 : 0 < n) (h : n < 2 ^ 62) : AFun Try.prog 21 [ivl .i64 x, iv n] (ivl .i64 (x % n)) := by
  have h1 := Int.emod_nonneg x (show (n : Int) ≠ 0 by omega)
  have h2 := Int.emod_lt_of_pos x (show (0 : Int) < n by omega)
  have h3 : x.tmod n = x % n ∨ (x.tmod n < 0 ∧ -(n : Int) < x.tmod n ∧ x.tmod n + n = x % n) := by
    have := Int.tmod_eq_emod (a := x) (b := (n : Int))
    rw [this]
    split
    · exact .inl (by omega)
    · refine .inr ?_
      have : ((n : Int).natAbs : Int) = n := by omega
      omega
  refine afun (mu := muF) Try.func21 rfl (by decide) rfl (by decide) (Nat.le_of_ble_eq_true rfl) (by simp [nm0, AVal.at, AVal.at1, Cell.at]) (by simp [nm0, AVal.at, AVal.at1, Cell.at]) fun S hS => ?_
  repeat refine gN ?_
  ((first | refine zw1 ?_ | refine zw2 ?_ | refine zw3 ?_); refine s_cmp (fun g1 => ?_) (fun g1 => ?_))
  · omega
  repeat refine gN ?_
  refine zw1 (stp_remI ?_ (h := by omega))
  repeat refine gN ?_
  ((first | refine zw1 ?_ | refine zw2 ?_ | refine zw3 ?_); refine s_cmp (fun g2 => ?_) (fun g2 => ?_))
  · repeat refine gN ?_
    (refine endF ttOk (.inr rfl) hS (by exact rfl) ?_ (fl' := [(4, ivl .i64 (x % n))]) (by exact rfl) (by exact rfl) (by exact rfl); (repeat' (first | refine fF ?_ ?_ | refine fS ?_ ?_ | exact True.intro); all_goals (try (first | exact kv | (refine kW (ov_of lks) rfl ?_ ?_)))))
  · repeat refine gN ?_
    (refine endF ttOk (.inr rfl) hS (by exact rfl) ?_ (fl' := [(4, ivl .i64 (x % n))]) (by exact rfl) (by exact rfl) (by exact rfl); (repeat' (first | refine fF ?_ ?_ | refine fS ?_ ?_ | exact True.intro); all_goals (try (first | exact kv | (refine kW (ov_of lks) rfl ?_ ?_)))))

theorem c_wint (s : Bool) (l : List Nat) (most : Nat) (hr : rng B l) (hl : l.length < 2 ^ 63) (hm : most < 2 ^ 41) : AFun Try.prog 20 [wi s l, iv most] (vz (sg s (val B (l.take most)))) := by
  have hU := U_len l
  have hr' := rng_take hr most
  have e : vz (sg s (val B (l.take most))) = wi (s && decide (0 < (digs B (val B (l.take most))).length)) (digs B (val B (l.take most))) := by
    show wi (decide (sg s _ < 0)) (digs B (sg s _).natAbs) = _
    rw [sg_neg, sg_abs]
  rw [e]
  refine afun (mu := muF) Try.func20 rfl (by decide) rfl (by decide) (Nat.le_of_ble_eq_true rfl) (by simp [nm0, AVal.at, AVal.at1, Cell.at]) (by simp [nm0, AVal.at, AVal.at1, Cell.at]) fun S hS => ?_
  refine awp_seq ?_
  repeat refine gOR ?_
  refine awp_seq ?_
  repeat refine gOR ?_
  refine awp_seq ?_
  refine awp_mid (fun st => Weak st ⟨lk' [(2, .c (.ptr (.loc 2) 0)), (4, .c (.ptr (.loc 4) 0)), (5, us (l.take most))], ov [(.loc 2, .cells 40 [.sc (.bool s), .ints .u64 (U l)]), (.loc 4, .cells 24 [.sc (.bool false), .sc (.slice none 0 0)])] (pushS S)⟩) ?_ ?_
  · repeat refine gN ?_
    ((first | refine zw1 ?_ | refine zw2 ?_ | refine zw3 ?_); refine s_cmp (fun g1 => ?_) (fun g1 => ?_))
    · repeat refine gN ?_
      rw [show ((most : Nat) : Int).toNat = most by omega, List.drop_zero, Nat.sub_zero, U_take]
      (refine frz hS (by exact rfl) ?_ ?_; all_goals (repeat' (first | refine fF ?_ ?_ | refine fS ?_ ?_ | exact True.intro)); all_goals (try (first | exact kv | (refine kW (ov_of lks) rfl ?_ ?_))))
    · repeat refine gN ?_
      rw [take_all (show l.length ≤ most by omega)]
      (refine frz hS (by exact rfl) ?_ ?_; all_goals (repeat' (first | refine fF ?_ ?_ | refine fS ?_ ?_ | exact True.intro)); all_goals (try (first | exact kv | (refine kW (ov_of lks) rfl ?_ ?_))))
  intro st hst
  refine awp_weak _ hst ?_
  clear hst st
  repeat refine gN ?_
  ((first | refine zw1 ?_ | refine zw2 ?_ | refine zw3 ?_); refine s_call (c_nattrim (l.take most) hr' (by rw [List.length_take]; omega)) ?_)
  obtain ⟨D, hD⟩ : ∃ D, D = digs B (val B (l.take most)) := ⟨_, rfl⟩
  rw [← hD]
  cases s with
  | false =>
    repeat refine gN ?_
    rw [Bool.false_and]
    (refine endF ttOk (.inr rfl) hS (by exact rfl) ?_ (fl' := [(4, .c (.pim [.sc (.bool false), .ints .u64 (U D)]))]) (by exact rfl) (by exact rfl) (by exact rfl); (repeat' (first | refine fF ?_ ?_ | refine fS ?_ ?_ | exact True.intro); all_goals (try (first | exact kv | (refine kW (ov_of lks) rfl ?_ ?_)))))
  | true =>
    repeat refine gN ?_
    ((first | refine zw1 ?_ | refine zw2 ?_ | refine zw3 ?_); refine s_cmp (fun g1 => ?_) (fun g1 => ?_))
    · have hz : decide (0 < D.length) = true := decide_eq_true (by omega)
      rw [hz]
      repeat refine gN ?_
      (refine endF ttOk (.inr rfl) hS (by exact rfl) ?_ (fl' := [(4, .c (.pim [.sc (.bool true), .ints .u64 (U D)]))]) (by exact rfl) (by exact rfl) (by exact rfl); (repeat' (first | refine fF ?_ ?_ | refine fS ?_ ?_ | exact True.intro); all_goals (try (first | exact kv | (refine kW (ov_of lks) rfl ?_ ?_)))))
    · have hz : decide (0 < D.length) = false := decide_eq_false (by omega)
      rw [hz]
      repeat refine gN ?_
      (refine endF ttOk (.inr rfl) hS (by exact rfl) ?_ (fl' := [(4, .c (.pim [.sc (.bool false), .ints .u64 (U D)]))]) (by exact rfl) (by exact rfl) (by exact rfl); (repeat' (first | refine fF ?_ ?_ | refine fS ?_ ?_ | exact True.intro); all_goals (try (first | exact kv | (refine kW (ov_of lks) rfl ?_ ?_)))))

/-- At least one. -/
def atl (v : Nat) : Nat := if v = 0 then 1 else v

theorem c_above (s : Bool) (l : List Nat) (most : Nat) (hr : rng B l) (hl : l.length < 2 ^ 63) (hm : most < 2 ^ 41) : AFun Try.prog 19 [wi s l, iv most] (wi false (digs B (atl (val B (l.take most))))) := by
  have hw := c_wint s l most hr hl hm
  obtain ⟨v, hv⟩ : ∃ v, v = val B (l.take most) := ⟨_, rfl⟩
  rw [← hv] at hw ⊢
  have e : vz (sg s v) = wi (decide (sg s v < 0)) (digs B v) := by
    show wi (decide (sg s v < 0)) (digs B (sg s v).natAbs) = _
    rw [sg_abs]
  rw [e] at hw
  refine afun (mu := muF) Try.func19 rfl (by decide) rfl (by decide) (Nat.le_of_ble_eq_true rfl) (by simp [nm0, AVal.at, AVal.at1, Cell.at]) (by simp [nm0, AVal.at, AVal.at1, Cell.at]) fun S hS => ?_
  repeat refine gN ?_
  ((first | refine zw1 ?_ | refine zw2 ?_ | refine zw3 ?_); refine s_call (hw) ?_)
  repeat refine gN ?_
  ((first | refine zw1 ?_ | refine zw2 ?_ | refine zw3 ?_); refine s_cmp (fun g1 => ?_) (fun g1 => ?_))
  · have hv0 : v = 0 := (digs_nil hB).1 (List.eq_nil_of_length_eq_zero (by omega))
    rw [show atl v = 1 by rw [atl, if_pos hv0], digs_one]
    repeat refine gN ?_
    (refine endF ttOk (.inr rfl) hS (by exact rfl) ?_ (fl' := [(4, .c (.pim [.sc (.bool false), .ints .u64 (U [1])]))]) (by exact rfl) (by exact rfl) (by exact rfl); (repeat' (first | refine fF ?_ ?_ | refine fS ?_ ?_ | exact True.intro); all_goals (try (first | exact kv | (refine kW (ov_of lks) rfl ?_ ?_)))))
  · have hv0 : v ≠ 0 := fun q => g1 (by rw [q, digs_zero]; rfl)
    rw [show atl v = v by rw [atl, if_neg hv0]]
    repeat refine gN ?_
    (refine endF ttOk (.inr rfl) hS (by exact rfl) ?_ (fl' := [(4, .c (.pim [.sc (.bool false), .ints .u64 (U (digs B v))]))]) (by exact rfl) (by exact rfl) (by exact rfl); (repeat' (first | refine fF ?_ ?_ | refine fS ?_ ?_ | exact True.intro); all_goals (try (first | exact kv | (refine kW (ov_of lks) rfl ?_ ?_)))))
end Go.Proofs
