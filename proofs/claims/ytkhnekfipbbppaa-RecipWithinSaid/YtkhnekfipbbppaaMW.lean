/-
  The statement that is named at its end, proved of every input.
-/
import Derived.Test.YtkhnekfipbbppaaMG
import Derived.Test.YtkhnekfipbbppaaMF
set_option linter.unusedVariables false
set_option linter.unusedSimpArgs false

/-
  RecipWithin.
-/
namespace Go.Proofs
open Go Go.Abs Go.Nums
attribute [local irreducible] thenA blockA awp aw Stp EndF EndP EndN EndG aOps
set_option linter.unusedSimpArgs false
set_option maxHeartbeats 4000000

theorem c_same_same (s : Bool) (l : List Nat) (hl : l.length < 2 ^ 60) : AFun Try.prog 10 [wi s l, wi s l] (bvl true) := by
  have h := c_sameint s s l l hl hl
  rwa [show decide (s = s ∧ l = l) = true by simp] at h

theorem kNu {A C : Store} (x : Nu) : FrzV A C (nu x) (nu x) := kAgg rfl ⟨cS rfl, .base (.keep fun q h => h.elim), cS rfl, trivial⟩

theorem nx_own {d p : Nat} (hd : 0 < d) (hp : 0 < p) : nx d p (p / d) = p / d := by
  have h1 := Nat.div_add_mod p d
  have h2 := Nat.mod_lt p hd
  unfold nx
  rw [show p - d * (p / d) = p % d by omega]
  have h3 : p % d * (p / d) < p := by
    rcases Nat.eq_zero_or_pos (p / d) with q | q
    · rw [q, Nat.mul_zero]; exact hp
    · have := Nat.mul_lt_mul_of_pos_right h2 q
      omega
  rw [Nat.div_eq_of_lt h3, Nat.add_zero]

theorem l_within (s1 : Bool) (l1 : List Nat) (hr1 : rng B l1) (hl1 : l1.length < 2 ^ 63) (bits more : Int) : AFun Try.prog 6 [wi s1 l1, ivl .i64 bits, ivl .i64 more] (bvl true) := by
  have hpick := c_pick bits 4001 (by decide) (by decide)
  obtain ⟨b, hb, hb4⟩ : ∃ b : Nat, bits % ((4001 : Nat) : Int) = (b : Int) ∧ b ≤ 4000 := ⟨(bits % ((4001 : Nat) : Int)).toNat, by omega, by omega⟩
  rw [hb] at hpick
  have hpick2 := c_pick more 200 (by decide) (by decide)
  obtain ⟨m, hm, hm4⟩ : ∃ b : Nat, more % ((200 : Nat) : Int) = (b : Int) ∧ b ≤ 199 := ⟨(more % ((200 : Nat) : Int)).toNat, by omega, by omega⟩
  rw [hm] at hpick2
  have hab := c_above s1 l1 20 hr1 hl1 (by decide)
  obtain ⟨D, hD⟩ : ∃ D, D = atl (val B (l1.take 20)) := ⟨_, rfl⟩
  have hD0 : 0 < D := by rw [hD]; unfold atl; split <;> omega
  have hv1 : val B (l1.take 20) < B ^ 20 := Nat.lt_of_lt_of_le (val_lt (rng_take hr1 20)) (Nat.pow_le_pow_right (by decide) (by simp; omega))
  have hDl : (digs B D).length ≤ 20 := by
    rw [digs_len hB, hD]; unfold atl; split
    · decide
    · exact hv1
  rw [← hD] at hab
  clear hD
  have hp0 : 0 < 2 ^ b := Nat.two_pow_pos b
  have hq1 : (digs B (2 ^ b / D)).length ≤ 66 := Nat.le_trans (len_mono hB (Nat.div_le_self _ _)) (pow2_len b 66 (by omega))
  have hof := c_of1 D b hD0 (by omega) (by omega) (by omega)
  have hDq : D * (2 ^ b / D) ≤ 2 ^ b := Nat.mul_div_le _ _
  have hDq2 : 2 ^ b < D * (2 ^ b / D) + D := by
    have h1 := Nat.div_add_mod (2 ^ b) D
    have h2 := Nat.mod_lt (2 ^ b) hD0
    omega
  have hstep : AFun Try.prog 11 [w1 D, w1 (2 ^ b / D), iv b] (.tup [w1 (2 ^ b / D), ivl .i64 0]) := by
    have e := stepV_nx hDq
    rw [nx_own hD0 hp0] at e
    have hs := c_step1 D b ((2 ^ b / D : Nat) : Int) hD0 (by omega) (by rw [Int.natAbs_natCast]; omega) (by omega) (by rw [e, Int.natAbs_natCast]; omega)
    rw [e, wz_nat] at hs; exact hs
  have hD2l : (digs B (2 * D)).length ≤ 41 := Nat.le_trans (digs_mul_le' hB 2 D) (by rw [digs_one' (by decide) (by decide)]; simp; omega)
  have e2 : 2 ^ (b + 1) / (2 * D) = 2 ^ b / D := by rw [Nat.pow_succ, Nat.mul_comm (2 ^ b), Nat.mul_div_mul_left _ _ (by decide)]
  have hof2 := c_of1 (2 * D) (b + 1) (by omega) (by omega) (by omega) (by rw [e2]; omega)
  rw [e2] at hof2
  have hLl : (digs B (2 ^ (b + m) / D)).length ≤ 66 := Nat.le_trans (len_mono hB (Nat.div_le_self _ _)) (pow2_len (b + m) 66 (by omega))
  have hof3 := c_of1 D (b + m) hD0 (by omega) (by omega) (by omega)
  have eL : 2 ^ (b + m) / D / 2 ^ m = 2 ^ b / D := by
    rw [Nat.div_div_eq_div_mul, Nat.pow_add, Nat.mul_comm D, Nat.mul_comm (2 ^ b), Nat.mul_div_mul_left _ _ (Nat.two_pow_pos m)]
  have hint : ∀ n, (digs B n).length ≤ 66 → AFun Try.prog 24 [wi false (digs B n)] (nu (nz n)) := fun n h => by
    have hi := c_numintZ n (by rw [Int.natAbs_natCast]; omega)
    rw [vz_n] at hi; exact hi
  have hok : ∀ n : Nat, (digs B n).length ≤ 66 → (nz n).ok 4224 := fun n h => nz_ok (Nat.le_trans (len_le_blen (n := (n : Int).natAbs) (k := 66) (by rw [Int.natAbs_natCast]; exact h)) (by omega))
  have hintD := hint D (by omega)
  have hintq := hint _ hq1
  have hintL := hint _ hLl
  have kD := hok D (by omega)
  have kq := hok _ hq1
  have kL := hok _ hLl
  obtain ⟨q, hq⟩ : ∃ q : Nat, q = 2 ^ b / D := ⟨_, rfl⟩
  obtain ⟨L, hL⟩ : ∃ q : Nat, q = 2 ^ (b + m) / D := ⟨_, rfl⟩
  rw [← hL] at eL hof3 hintL kL
  rw [← hq] at hq1 hof hDq hDq2 hstep hof2 eL hintq kq
  -- the numbers
  obtain ⟨x2, hx2⟩ : ∃ x : Nu, x = (nz D).scaled ((1 : Nat) : Int) := ⟨_, rfl⟩
  have kx2 : x2.ok 5000 := by rw [hx2]; exact Nu.ok_mono (Nu.ok_scaled kD 1) (by omega)
  have vx2 : x2.val = ((2 * D : Nat) : Int) := by rw [hx2, Nu.val_scaled kD.1, nz_val]; simp; omega
  have ht := c_tellint1 x2 5000 kx2 (by decide) (.inr (by have := kx2.2; omega))
  rw [vx2, vz_n] at ht
  obtain ⟨one, hone⟩ : ∃ x : Nu, x = (Nu.mk false 1 0).scaled b := ⟨_, rfl⟩
  have vone : one.val = ((2 ^ b : Nat) : Int) := by rw [hone, Nu.val_scaled (by decide)]; simp [Nu.val, sg]
  have kone : one.ok 9000 := by rw [hone]; exact Nu.ok_mono (Nu.ok_scaled (K := 1) ⟨Int.le_refl _, by decide⟩ b) (by omega)
  obtain ⟨low, hlow⟩ : ∃ x : Nu, x = (nz D).times (nz q) := ⟨_, rfl⟩
  have klow : low.ok 9000 := by rw [hlow]; exact Nu.ok_mono (Nu.ok_times kD kq) (by omega)
  have vlow : low.val = ((D * q : Nat) : Int) := by rw [hlow, Nu.val_times kD.1 kq.1, nz_val, nz_val]; simp
  obtain ⟨hi, hhi⟩ : ∃ x : Nu, x = low.plus (nz D) := ⟨_, rfl⟩
  have khi : hi.ok 9001 := by rw [hhi]; exact Nu.ok_plus klow (Nu.ok_mono kD (by omega))
  have vhi : hi.val = ((D * q + D : Nat) : Int) := by rw [hhi, Nu.val_plus klow.1 kD.1, vlow, nz_val]; simp
  obtain ⟨y, hy⟩ : ∃ x : Nu, x = (nz L).scaled (-(m : Int)) := ⟨_, rfl⟩
  have vy : y.cut.val = q := by rw [hy, Nu.cut_val kL.1, nz_val, ← eL]; simp
  have hyn : blen y.n ≤ 4224 := by rw [hy]; have := kL.2; have := kL.1; show blen (nz L).n ≤ 4224; omega
  have hye : y.e = -(m : Int) := by rw [hy]; show (0 : Int) + -(m : Int) = _; omega
  have ky : y.cut.ok 4225 := Nu.cut_ok (by omega) hyn
  have sc1 := sign_cases (low.val - one.val)
  have sc2 := sign_cases (hi.val - one.val)
  have sc3 := sign_cases (y.cut.val - (nz q).val)
  rw [vy, nz_val] at sc3
  rw [vlow, vone] at sc1
  rw [vhi, vone] at sc2
  refine afun (mu := muF) Try.func6 rfl (by decide) rfl (by decide) (Nat.le_of_ble_eq_true rfl) (by simp [nm0, AVal.at, AVal.at1, Cell.at]) (by simp [nm0, AVal.at, AVal.at1, Cell.at]) fun S hS => ?_
  repeat refine gN ?_
  ((first | refine zw1 ?_ | refine zw2 ?_ | refine zw3 ?_); refine s_call (hab) ?_)
  repeat refine gN ?_
  ((first | refine zw1 ?_ | refine zw2 ?_ | refine zw3 ?_); refine s_call (hpick) ?_)
  repeat refine gN ?_
  ((first | refine zw1 ?_ | refine zw2 ?_ | refine zw3 ?_); refine s_call (hpick2) ?_)
  repeat refine gN ?_
  ((first | refine zw1 ?_ | refine zw2 ?_ | refine zw3 ?_); refine s_call (hof) ?_)
  repeat refine gN ?_
  ((first | refine zw1 ?_ | refine zw2 ?_ | refine zw3 ?_); refine s_call (hstep) ?_)
  repeat refine gN ?_
  ((first | refine zw1 ?_ | refine zw2 ?_ | refine zw3 ?_); refine s_call (hintD) ?_)
  repeat refine gN ?_
  ((first | refine zw1 ?_ | refine zw2 ?_ | refine zw3 ?_); refine s_call (c_scaled (nz D) ((1 : Nat) : Int) (show -9223372036854775808 ≤ (0 : Int) + ((1 : Nat) : Int) ∧ (0 : Int) + ((1 : Nat) : Int) < 9223372036854775808 by omega)) ?_)
  rw [← hx2]
  repeat refine gN ?_
  refine aw_weak ⟨lk' [(46, nu x2), (1, iv b), (2, iv m), (7, .c (.ptr (.loc 7) 0)), (8, .c (.ptr (.loc 8) 0)), (10, .c (.ptr (.loc 10) 0)), (9, ivl .i64 0), (11, ivl .i64 0)],
    ov [(.loc 7, .cells 24 [.sc (.bool false), .ints .u64 (U (digs B D))]), (.loc 8, .cells 24 [.sc (.bool false), .ints .u64 (U (digs B q))]), (.loc 10, .cells 24 [.sc (.bool false), .ints .u64 (U (digs B q))])] (pushS S)⟩ ?_ ?_
  · (refine frz hS (by exact rfl) ?_ ?_; all_goals (repeat' (first | refine fF ?_ ?_ | refine fS ?_ ?_ | exact True.intro)); all_goals (try (first | exact kv | (refine kW (ov_of lks) rfl ?_ ?_))))
    exact kNu x2
  ((first | refine zw1 ?_ | refine zw2 ?_ | refine zw3 ?_); refine s_call (ht) ?_)
  repeat refine gN ?_
  ((first | refine zw1 ?_ | refine zw2 ?_ | refine zw3 ?_); refine s_call (hof2) ?_)
  repeat refine gN ?_
  ((first | refine zw1 ?_ | refine zw2 ?_ | refine zw3 ?_); refine s_call (hof3) ?_)
  repeat refine gN ?_
  ((first | refine zw1 ?_ | refine zw2 ?_ | refine zw3 ?_); refine s_cmp (fun g1 => ?_) (fun g1 => ?_))
  · exact absurd rfl g1
  repeat refine gN ?_
  ((first | refine zw1 ?_ | refine zw2 ?_ | refine zw3 ?_); refine s_call (c_same_same false (digs B q) (by omega)) ?_)
  repeat refine gN ?_
  ((first | refine zw1 ?_ | refine zw2 ?_ | refine zw3 ?_); refine s_call (c_same_same false (digs B q) (by omega)) ?_)
  repeat refine gN ?_
  refine aw_weak ⟨lk' [(1, iv b), (2, iv m), (7, .c (.ptr (.loc 7) 0)), (8, .c (.ptr (.loc 8) 0)), (16, .c (.ptr (.loc 16) 0))],
    ov [(.loc 7, .cells 24 [.sc (.bool false), .ints .u64 (U (digs B D))]), (.loc 8, .cells 24 [.sc (.bool false), .ints .u64 (U (digs B q))]), (.loc 16, .cells 24 [.sc (.bool false), .ints .u64 (U (digs B L))])] (pushS S)⟩ ?_ ?_
  · (refine frz hS (by exact rfl) ?_ ?_; all_goals (repeat' (first | refine fF ?_ ?_ | refine fS ?_ ?_ | exact True.intro)); all_goals (try (first | exact kv | (refine kW (ov_of lks) rfl ?_ ?_))))
  ((first | refine zw1 ?_ | refine zw2 ?_ | refine zw3 ?_); refine s_call (c_numwhole1 1 (by decide)) ?_)
  repeat refine gN ?_
  ((first | refine zw1 ?_ | refine zw2 ?_ | refine zw3 ?_); refine s_call (c_scaled ⟨false, 1, 0⟩ b (show -9223372036854775808 ≤ (0 : Int) + b ∧ (0 : Int) + b < 9223372036854775808 by omega)) ?_)
  rw [← hone]
  repeat refine gN ?_
  ((first | refine zw1 ?_ | refine zw2 ?_ | refine zw3 ?_); refine s_call (hintD) ?_)
  repeat refine gN ?_
  ((first | refine zw1 ?_ | refine zw2 ?_ | refine zw3 ?_); refine s_call (hintq) ?_)
  repeat refine gN ?_
  ((first | refine zw1 ?_ | refine zw2 ?_ | refine zw3 ?_); refine s_call (c_numtimes (nz D) (nz q) 4224 4224 kD kq (by decide) (by decide)) ?_)
  rw [← hlow]
  repeat refine gN ?_
  ((first | refine zw1 ?_ | refine zw2 ?_ | refine zw3 ?_); refine s_call (c_numplus low (nz D) 9000 klow (Nu.ok_mono kD (by decide)) (by decide)) ?_)
  rw [← hhi]
  repeat refine gN ?_
  ((first | refine zw1 ?_ | refine zw2 ?_ | refine zw3 ?_); refine s_call (c_numcompare low one 9000 klow kone (by decide)) ?_)
  rw [vlow, vone]
  repeat refine gN ?_
  ((first | refine zw1 ?_ | refine zw2 ?_ | refine zw3 ?_); refine s_cmp (fun g2 => ?_) (fun g2 => ?_))
  · omega
  repeat refine gN ?_
  ((first | refine zw1 ?_ | refine zw2 ?_ | refine zw3 ?_); refine s_call (c_numcompare hi one 9001 khi (Nu.ok_mono kone (by decide)) (by decide)) ?_)
  rw [vhi, vone]
  repeat refine gN ?_
  ((first | refine zw1 ?_ | refine zw2 ?_ | refine zw3 ?_); refine s_cmp (fun g3 => ?_) (fun g3 => ?_))
  · omega
  repeat refine gN ?_
  ((first | refine zw1 ?_ | refine zw2 ?_ | refine zw3 ?_); refine zg10 ttOk ?_ (hm := by exact rfl))
  repeat refine gN ?_
  ((first | refine zw1 ?_ | refine zw2 ?_ | refine zw3 ?_); refine zg20 ttOk ?_ (hm := by exact rfl))
  repeat refine gN ?_
  ((first | refine zw1 ?_ | refine zw2 ?_ | refine zw3 ?_); refine s_call (hintL) ?_)
  repeat refine gN ?_
  rw [show (0 : Int) - (m : Int) = -(m : Int) by omega]
  ((first | refine zw1 ?_ | refine zw2 ?_ | refine zw3 ?_); refine s_call (c_scaled (nz L) (-(m : Int)) (show -9223372036854775808 ≤ (0 : Int) + -(m : Int) ∧ (0 : Int) + -(m : Int) < 9223372036854775808 by omega)) ?_)
  rw [← hy]
  repeat refine gN ?_
  ((first | refine zw1 ?_ | refine zw2 ?_ | refine zw3 ?_); refine s_call (c_cut y 4224 hyn (by omega) (by decide)) ?_)
  repeat refine gN ?_
  ((first | refine zw1 ?_ | refine zw2 ?_ | refine zw3 ?_); refine s_call (c_numcompare y.cut (nz q) 4225 ky (Nu.ok_mono kq (by decide)) (by decide)) ?_)
  rw [vy, nz_val]
  repeat refine gN ?_
  ((first | refine zw1 ?_ | refine zw2 ?_ | refine zw3 ?_); refine s_cmp (fun g4 => ?_) (fun g4 => ?_))
  · repeat refine gN ?_
    ((first | refine zw1 ?_ | refine zw2 ?_ | refine zw3 ?_); refine s_call (c_awake) ?_)
    repeat refine gN ?_
    (refine endF ttOk (.inr rfl) hS (by exact rfl) ?_ (fl' := [(6, bvl true)]) (by exact rfl) (by exact rfl) (by exact rfl); (repeat' (first | refine fF ?_ ?_ | refine fS ?_ ?_ | exact True.intro); all_goals (try (first | exact kv | (refine kW (ov_of lks) rfl ?_ ?_)))))
  · omega
end Go.Proofs

/-
  RecipWithin is true of every input.
-/
namespace Go.Proofs.Ytkhnekfipbbppaa
open Go Go.Abs Go.Nums Go.Proofs
open Go.ChangeShapes Go.WideShapes Go.ChangeAt Go.RowKit Go.Joins

set_option maxRecDepth 100000 in
theorem recipWithin_lifted (os : Os) (started : os.Started) (H : Type) (enc : TypeId × Value → H) :
    ReturnsInHanded {} Try.checked os 6 .any (Rows.recipWithinSpec.pre6 enc Try.prog Try.f6 Rows.recipWithinRow.domain false) (Rows.recipWithinSpec.post enc Try.prog Try.f6 false true false false) := by
  refine returnsInHanded_of_change (C := Try.checked) own started (by kernel_rfl) Try.func6
    (ChangeSpec.witness6 (enc := enc) (C := Try.checked) false ⟨#[], #[.agg #[.bool false, .slice none 0 0], .int .i64 0, .int .i64 0], []⟩ 8 (by kernel_rfl) (by kernel_rfl) (by kernel_rfl) (by kernel_rfl)) ?_
  intro W base args ds gs before hval0 hW _ _
  have hval : ∀ (j : Nat) t v, Try.f6.params[j]? = some t → args[j]? = some v → Value.okWide Try.prog W .any base t v := hval0
  have hW' := hW
  obtain ⟨p, q, hA0, hV, rfl, _, _⟩ := hW
  have hA : DataW.TrodAll enc Try.prog W 0 (fun _ => true) true Try.f6.params.toList args.toList ds p := hA0
  rw [Try.params6] at hA hval
  obtain ⟨v0, v1, v2, d0, d1, d2, p0, p1, p2, rfl, rfl, rfl, h0, h1, h2⟩ := trodAll_three hA
  obtain ⟨rfl, rfl⟩ := trodVars_none hV
  clear hA0 hval0
  simp only [List.append_nil] at hW'
  have hlt : ∀ x ∈ p0 ++ p1 ++ p2, x.block < W.heap.size := fun x hx => by simpa using hW'.lt x hx
  have hargs : ∀ (W' : World), Below W.heap.size W W' → DataW.TrodAll enc Try.prog W' 0 (fun b => decide (b < W.heap.size)) true [40, 3, 3] [v0, v1, v2] [d0, d1, d2] (p0 ++ p1 ++ p2) := fun W' hn =>
    List.append_assoc p0 p1 p2 ▸ trodAll_mk3 (Below.trod laidOut (by kernel_rfl) (of_decide_eq_true (by kernel_rfl)) h0 hn fun x hx => hlt x (by simp [hx])) (Below.trod laidOut (by kernel_rfl) (of_decide_eq_true (by kernel_rfl)) h1 hn fun x hx => hlt x (by simp [hx])) (Below.trod laidOut (by kernel_rfl) (of_decide_eq_true (by kernel_rfl)) h2 hn fun x hx => hlt x (by simp [hx]))
  obtain ⟨s0, l0, hr0, hl0, a0⟩ := whole_in (hval 0 40 v0 rfl rfl) h0
  obtain ⟨n1, rfl, rfl, rfl, wn1⟩ := open_int Try.underlying3 (hval 1 3 v1 rfl rfl) h1
  obtain ⟨n2, rfl, rfl, rfl, wn2⟩ := open_int Try.underlying3 (hval 2 3 v2 rfl rfl) h2
  refine (calls_top (l_within s0 l0 hr0 hl0 n1 n2) Try.func6 rfl (by decide) W #[v0, .int .i64 n1, .int .i64 n2] (vss_cons a0 (vss_cons vs_int (vss_cons vs_int vss_nil)))).mono fun e W' => ?_
  rintro ⟨rfl, hn⟩
  exact ⟨_, rfl, ⟨_, _, _, [], _, [], hW', trodAll_mk1 (shut_bool Try.underlying4 true), hargs _ hn, rfl, hn.frame _, fun h => by cases h⟩⟩

theorem recipWithin_holds : Rows.RecipWithinSaid :=
  OpenClaim.holds_of_wide 6 Try.f6 rfl rfl rfl rfl rfl rfl rfl ⟨rfl, rfl, rfl, rfl, rfl⟩ rfl rfl rfl rfl rfl (by kernel_rfl) Try.func6 (by kernel_rfl)
    (of_decide_eq_true (by kernel_rfl)) (by unfold Func.isWrapper; rw [if_neg (of_decide_eq_false (by kernel_rfl))]; exact ⟨rfl, rfl⟩)
    (fun os started H enc _ => recipWithin_lifted os started H enc)
end Go.Proofs.Ytkhnekfipbbppaa
