/-
  The statement that is named at its end, proved of every input.
-/
import Derived.Test.YtdbjhcgogmfghaaDoorMas
import Derived.Test.YtdbjhcgogmfghaaDoorCards
import Derived.Test.YtdbjhcgogmfghaaDoorTie
import Derived.SevenTiedAt
import Derived.Carry
set_option linter.unusedVariables false
set_option linter.unusedSimpArgs false
set_option linter.unnecessarySimpa false

/-
  RecurShortest: the law's walk.
-/
-- kv2
namespace Go.Proofs
open Go Go.Abs Go.Nums
attribute [local irreducible] thenA blockA awp aw Stp EndF EndP EndN EndG aOps aOpsM scopeA
set_option linter.unusedSimpArgs false
set_option linter.unusedVariables false
set_option maxHeartbeats 4000000

theorem min3_nat (a b : Nat) : (if (8 : Int) < (if (b : Int) < (a : Int) then (b : Int) else (a : Int)) then (8 : Int) else (if (b : Int) < (a : Int) then (b : Int) else (a : Int))) = ((min a (min b 8) : Nat) : Int) := by
  split <;> split <;> omega
theorem inR_map {p : Int} {l : List Int} (h : inR p l) : l.map (· % p) = l := by
  conv => rhs; rw [← List.map_id l]
  exact List.map_congr_left fun x hx => Int.emod_eq_of_lt (h x hx).1 (h x hx).2
theorem inR_i64 {p : Int} (hp2 : p < 2147483648) {l : List Int} (h : inR p l) : ∀ x ∈ l, -9223372036854775808 ≤ x ∧ x < 9223372036854775808 := fun x hx => by
  have := h x hx
  omega

theorem l_shortest (a b : List Int) (more k : Int) (hla : a.length < 2 ^ 63) (hra : ∀ x ∈ a, -9223372036854775808 ≤ x ∧ x < 9223372036854775808) (hlb : b.length < 2 ^ 63) (hrb : ∀ x ∈ b, -9223372036854775808 ≤ x ∧ x < 9223372036854775808) :
    AFun Tryd.prog 5 [li a, li b, ivl .i64 more, ivl .i64 k] (bvl true) := by
  obtain ⟨p, hp⟩ : ∃ p, p = primeK k := ⟨_, rfl⟩
  have ok := primeK_ok k
  rw [← hp] at ok
  obtain ⟨hp1, hp2, hpB, hco⟩ := ok
  have hp0 : 0 < p := by omega
  obtain ⟨n, hn⟩ : ∃ n, n = min a.length (min b.length 8) := ⟨_, rfl⟩
  have m1 := Int.emod_nonneg more (show (10 : Int) ≠ 0 by decide)
  have m2 := Int.emod_lt_of_pos more (show (0 : Int) < 10 by decide)
  obtain ⟨m, hm⟩ : ∃ m : Nat, more % 10 = (m : Int) := ⟨_, (Int.toNat_of_nonneg m1).symm⟩
  obtain ⟨N, hN⟩ : ∃ N, N = 2 * n + m := ⟨_, rfl⟩
  have hfa : (a.take n).length = n := by rw [List.length_take]; omega
  have hfb : (b.take n).length = n := by rw [List.length_take]; omega
  obtain ⟨L, hL⟩ : ∃ L, L = goesF (a.take n) (b.take n) p N := ⟨_, rfl⟩
  have hLl : L.length = N := by rw [hL, goesF_len]
  have hLr : inR p L := by rw [hL]; exact goesF_rng hp0 N
  obtain ⟨r, hr0, hrl, hrk⟩ := short_least (f := a.take n) (b := b.take n) (N := N) hp1 hco (by omega)
  rw [← hL] at hr0 hrk
  rw [hfb] at hrl
  obtain ⟨-, hrr, hrg⟩ := short_makes hp1 hco hr0
  rw [inR_map hLr, hLl] at hrg
  have hr5 := hrk 5
  have hPick : AFun Tryd.prog 20 [ivl .i64 more, iv 10] (iv m) := by
    have := c_pick more 10 (by decide) (by decide)
    rw [show ((10 : Nat) : Int) = 10 from rfl, hm] at this
    exact this
  have hG1 : AFun Tryd.prog 19 [li (a.take n), li (b.take n), iv N, ivl .i64 p] (li L) := by
    rw [hL]
    exact c_goes (a.take n) (b.take n) N p hp1 hp2 (fun x hx => hra x (List.mem_of_mem_take hx)) (fun x hx => hrb x (List.mem_of_mem_take hx)) (.inl (by omega)) (by omega) (by omega)
  have hS1 : AFun Tryd.prog 12 [li L, ivl .i64 p] (.tup [li r, ivl .i64 0]) := by
    have := c_shortrow L p hp1 hp2 hpB hco (by omega) (inR_i64 hp2 hLr)
    rw [hr0] at this
    exact this
  have hG2 : AFun Tryd.prog 19 [li (L.take r.length), li r, iv N, ivl .i64 p] (li L) := by
    have := c_goes (L.take r.length) r N p hp1 hp2 (fun x hx => inR_i64 hp2 hLr x (List.mem_of_mem_take hx)) (inR_i64 hp2 hrr) (.inl (by rw [List.length_take]; omega)) (by omega) (by omega)
    rw [hrg] at this
    exact this
  obtain ⟨M, hM⟩ : ∃ M, M = goesF (L.take r.length) r p (N + 5) := ⟨_, rfl⟩
  have hMl : M.length = N + 5 := by rw [hM, goesF_len]
  have hMr : inR p M := by rw [hM]; exact goesF_rng hp0 _
  have hG3 : AFun Tryd.prog 19 [li (L.take r.length), li r, iv (N + 5), ivl .i64 p] (li M) := by
    rw [hM]
    exact c_goes (L.take r.length) r (N + 5) p hp1 hp2 (fun x hx => inR_i64 hp2 hLr x (List.mem_of_mem_take hx)) (inR_i64 hp2 hrr) (.inl (by rw [List.length_take]; omega)) (by omega) (by omega)
  have hS2 : AFun Tryd.prog 12 [li M, ivl .i64 p] (.tup [li r, ivl .i64 0]) := by
    have := c_shortrow M p hp1 hp2 hpB hco (by omega) (inR_i64 hp2 hMr)
    rw [hM, hr5] at this
    rw [hM]
    exact this
  have hSame : ∀ l : List Int, l.length < 2 ^ 60 → AFun Tryd.prog 13 [li l, li l] (bvl true) := fun l h => by
    have := c_samelongs l l h h
    rw [decide_eq_true rfl] at this
    exact this
  refine afun (mu := muF) Tryd.func5 rfl (by decide) rfl (by decide) (Nat.le_of_ble_eq_true rfl) (by simp [nm0, AVal.at, AVal.at1, Cell.at]) (by simp [nm0, AVal.at, AVal.at1, Cell.at]) fun S hS => ?_
  repeat refine gN ?_
  ((first | refine zw1 ?_ | refine zw2 ?_ | refine zw3 ?_); refine s_call (c_primes k) ?_)
  rw [← hp]
  repeat refine gN ?_
  rw [min3_nat, ← hn]
  repeat refine gN ?_
  ((first | refine zw1 ?_ | refine zw2 ?_ | refine zw3 ?_); refine s_call (hPick) ?_)
  repeat refine gN ?_
  rw [← hN, show List.take ((n : Int).toNat - 0) (List.drop 0 a) = a.take n by simp, show List.take ((n : Int).toNat - 0) (List.drop 0 b) = b.take n by simp]
  repeat refine gN ?_
  ((first | refine zw1 ?_ | refine zw2 ?_ | refine zw3 ?_); refine s_call (hG1) ?_)
  repeat refine gN ?_
  ((first | refine zw1 ?_ | refine zw2 ?_ | refine zw3 ?_); refine s_call (hS1) ?_)
  repeat refine gN ?_
  ((first | refine zw1 ?_ | refine zw2 ?_ | refine zw3 ?_); refine s_cmp (fun g1 => ?_) (fun g1 => ?_))
  · exact absurd rfl g1
  repeat refine gN ?_
  refine s_cmp (fun g2 => ?_) (fun g2 => ?_)
  · exact absurd g2 (by omega)
  repeat refine gN ?_
  refine awp_midB (fun st => Weak st ⟨lk' [(9, ivl .i64 p), (11, li L), (12, li r)], ov [] (pushS S)⟩) ?_ ?_
  · refine awp_rep (fun i : Nat => ⟨lk' [(9, ivl .i64 p), (11, li L), (12, li r), (14, iv i)], ov [] (pushS S)⟩) (fun i => i ≤ r.length) (fun i => r.length + 1 - i) 0 (Nat.zero_le _) ?_ ?_
    · (refine frz hS (by exact rfl) ?_ ?_; all_goals (repeat' (first | refine fF ?_ ?_ | refine fS ?_ ?_ | exact True.intro)); all_goals (try (first | exact kv | exact kQ | exact kQc | exact kIc | exact kFn0 | exact kOac | (refine kW (ov_of lks) rfl ?_ ?_))))
    intro i hi
    have hri := inR_get hp0 hrr i
    repeat refine gN ?_
    ((first | refine zw1 ?_ | refine zw2 ?_ | refine zw3 ?_); refine s_cmp (fun g3 => ?_) (fun g3 => ?_))
    · repeat refine gN ?_
      rw [show (i : Int).toNat = i by omega]
      ((first | refine zw1 ?_ | refine zw2 ?_ | refine zw3 ?_); refine s_cmp (fun g4 => ?_) (fun g4 => ?_))
      · exact absurd g4 (by omega)
      repeat refine gN ?_
      rw [show (i : Int).toNat = i by omega]
      refine s_cmp (fun g5 => ?_) (fun g5 => ?_)
      · exact absurd g5 (by omega)
      repeat refine gN ?_
      refine ⟨i + 1, ?_, by omega, by omega⟩
      (refine frz hS (by exact rfl) ?_ ?_; all_goals (repeat' (first | refine fF ?_ ?_ | refine fS ?_ ?_ | exact True.intro)); all_goals (try (first | exact kv | exact kQ | exact kQc | exact kIc | exact kFn0 | exact kOac | (refine kW (ov_of lks) rfl ?_ ?_))))
    · repeat refine gN ?_
      (refine frz hS (by exact rfl) ?_ ?_; all_goals (repeat' (first | refine fF ?_ ?_ | refine fS ?_ ?_ | exact True.intro)); all_goals (try (first | exact kv | exact kQ | exact kQc | exact kIc | exact kFn0 | exact kOac | (refine kW (ov_of lks) rfl ?_ ?_))))
  intro st hst
  refine awp_weak _ hst ?_
  clear hst st
  repeat refine gN ?_
  rw [show List.take ((r.length : Int).toNat - 0) (List.drop 0 L) = L.take r.length by simp, show L.length = N from hLl]
  ((first | refine zw1 ?_ | refine zw2 ?_ | refine zw3 ?_); refine s_call (hG2) ?_)
  repeat refine gN ?_
  ((first | refine zw1 ?_ | refine zw2 ?_ | refine zw3 ?_); refine s_call (hSame L (by omega)) ?_)
  repeat refine gN ?_
  rw [show List.take ((r.length : Int).toNat - 0) (List.drop 0 L) = L.take r.length by simp, hLl]
  ((first | refine zw1 ?_ | refine zw2 ?_ | refine zw3 ?_); refine s_call (hG3) ?_)
  repeat refine gN ?_
  ((first | refine zw1 ?_ | refine zw2 ?_ | refine zw3 ?_); refine s_call (hS2) ?_)
  repeat refine gN ?_
  ((first | refine zw1 ?_ | refine zw2 ?_ | refine zw3 ?_); refine s_cmp (fun g6 => ?_) (fun g6 => ?_))
  rotate_left
  · exact absurd rfl g6
  repeat refine gN ?_
  try refine stp_gT (by exact rfl) (by exact rfl) ?_
  ((first | refine zw1 ?_ | refine zw2 ?_ | refine zw3 ?_); refine s_call (hSame r (by omega)) ?_)
  repeat refine gN ?_
  try refine stp_gT (by exact rfl) (by exact rfl) ?_
  ((first | refine zw1 ?_ | refine zw2 ?_ | refine zw3 ?_); refine s_call (c_awakeR) ?_)
  repeat refine gN ?_
  (refine endF ttOk (.inr rfl) hS (by exact rfl) ?_ (fl' := [(8, bvl true)]) (by exact rfl) (by exact rfl) (by exact rfl); (repeat' (first | refine fF ?_ ?_ | refine fS ?_ ?_ | exact True.intro); all_goals (try (first | exact kv | exact kQ | exact kQc | exact kIc | exact kFn0 | exact kOac | (refine kW (ov_of lks) rfl ?_ ?_)))))
end Go.Proofs

/-
  RecurShortest is true of every input, where math/bits.deBruijn64tab holds what the program's text lays (the card ties it).
-/
namespace Go.Proofs.YtdbjhcgogmfghaaDoor
open Go Go.Abs Go.Nums Go.Proofs
open Go.ChangeShapes Go.WideShapes Go.ChangeAt Go.RowKit Go.Joins

set_option maxRecDepth 100000 in
theorem recurShortest_lifted (os : Os) (started : os.Started) (H : Type) (enc : TypeId × Value → H) :
    ReturnsInHanded {} Tryd.checked os 5 .any (fun w args => (Rows.recurShortestSpec.pre enc Tryd.prog Tryd.f5 Rows.recurShortestRow.domain false w args ∧ laidMetH Tryd.prog laidT w) ∧ sizedMet enc Tryd.prog Tryd.f5 (OpenSpec.ofChange Rows.recurShortestSpec) false w args)
      (Rows.recurShortestSpec.post enc Tryd.prog Tryd.f5 false true false false) := by
  refine returnsInHanded_of_change_and (C := Tryd.checked) (X := fun w _ => laidMetH Tryd.prog laidT w) (fun _ _ _ hh h => h.of_heap hh) own started (by kernel_rfl) Tryd.func5
    (ChangeSpec.witness_shaped (enc := enc) (C := Tryd.checked) (os := os) (X := fun w _ => laidMetH Tryd.prog laidT w) false (World.doorLaid Tryd.prog 14 os) #[.slice none 0 0, .slice none 0 0, .int .i64 0, .int .i64 0] 8 rfl (World.shaped_of_RefB (by kernel_rfl) (by kernel_rfl)) (by kernel_rfl) (by kernel_rfl) (by kernel_rfl) (door_met os _)) ?_
  intro W base args ds gs before hval0 hW _ hsz hLaid _
  have hval : ∀ (j : Nat) t v, Tryd.f5.params[j]? = some t → args[j]? = some v → Value.okWide Tryd.prog W .any base t v := hval0
  have hW' := hW
  obtain ⟨p, q, hA0, hV, rfl, _, _⟩ := hW
  have hA : DataW.TrodAll enc Tryd.prog W 0 (fun _ => true) true Tryd.f5.params.toList args.toList ds p := hA0
  rw [Tryd.params5] at hA hval
  obtain ⟨v0, vs0, d0, ds0, p0, q0, hargs, rfl, rfl, h0, t0⟩ := trodAll_cons hA
  obtain ⟨v1, vs1, d1, ds1, p1, q1, rfl, rfl, rfl, h1, t1⟩ := trodAll_cons t0
  obtain ⟨v2, vs2, d2, ds2, p2, q2, rfl, rfl, rfl, h2, t2⟩ := trodAll_cons t1
  obtain ⟨v3, vs3, d3, ds3, p3, q3, rfl, rfl, rfl, h3, t3⟩ := trodAll_cons t2
  obtain ⟨rfl, rfl, rfl⟩ := trodAll_nil t3
  obtain rfl : args = #[v0, v1, v2, v3] := by cases args; simp_all
  obtain ⟨rfl, rfl⟩ := trodVars_none hV
  clear hA0 hval0
  simp only [List.append_nil] at hW'
  have hlt : ∀ x ∈ p0 ++ (p1 ++ (p2 ++ p3)), x.block < W.heap.size := fun x hx => by simpa using hW'.lt x hx
  have hargs' : ∀ (W' : World), Below W.heap.size W W' → DataW.TrodAll enc Tryd.prog W' 0 (fun b => decide (b < W.heap.size)) true [38, 38, 3, 3] [v0, v1, v2, v3] [d0, d1, d2, d3] (p0 ++ (p1 ++ (p2 ++ p3))) := fun W' hn =>
    trodAll_mk4 (Below.trod laidOut (by kernel_rfl) (of_decide_eq_true (by kernel_rfl)) h0 hn fun x hx => hlt x (by simp [hx])) (Below.trod laidOut (by kernel_rfl) (of_decide_eq_true (by kernel_rfl)) h1 hn fun x hx => hlt x (by simp [hx])) (Below.trod laidOut (by kernel_rfl) (of_decide_eq_true (by kernel_rfl)) h2 hn fun x hx => hlt x (by simp [hx])) (Below.trod laidOut (by kernel_rfl) (of_decide_eq_true (by kernel_rfl)) h3 hn fun x hx => hlt x (by simp [hx]))
  obtain ⟨l0, hr0, hl0, a0⟩ := longs_in (hval 0 38 v0 rfl rfl) h0
  obtain ⟨l1, hr1, hl1, a1⟩ := longs_in (hval 1 38 v1 rfl rfl) h1
  obtain ⟨n2, rfl, rfl, rfl, wn2⟩ := open_int Tryd.underlying3 (hval 2 3 v2 rfl rfl) h2
  obtain ⟨n3, rfl, rfl, rfl, wn3⟩ := open_int Tryd.underlying3 (hval 3 3 v3 rfl rfl) h3
  refine (calls_top (l_shortest l0 l1 n2 n3 hl0 hr0 hl1 hr1) Tryd.func5 rfl (by decide) W (of_laid hLaid) #[v0, v1, .int .i64 n2, .int .i64 n3] (vss_cons a0 (vss_cons a1 (vss_cons vs_int (vss_cons vs_int vss_nil))))).mono fun e W' => ?_
  rintro ⟨rfl, hn⟩
  exact ⟨_, rfl, ⟨_, _, _, [], _, [], hW', trodAll_mk1 (shut_bool Tryd.underlying4 true), hargs' _ hn, rfl, hn.frame _, fun h => by cases h⟩⟩

theorem recurShortest_said : Rows.RecurShortestSaid :=
  OpenClaim.holds_of_wide 5 Tryd.f5 rfl rfl rfl rfl rfl rfl rfl ⟨rfl, rfl, rfl, rfl, rfl⟩ rfl rfl rfl rfl rfl (by kernel_rfl) Tryd.func5 (by kernel_rfl)
    (of_decide_eq_true (by kernel_rfl)) (by unfold Func.isWrapper; rw [if_neg (of_decide_eq_false (by kernel_rfl))]; exact ⟨rfl, rfl⟩)
    (fun os started H enc _ => recurShortest_lifted os started H enc)

theorem recurShortest_holds : Rows.RecurShortestCardSaid :=
  Claim7.holds_tied_plain_at .later [] [.data] true (true, "6ef568d098669fae83a391f1247587913aca55cf635e0f0967008a2575707201") false
    recurShortest_said (fun _ h => by cases h) (by kernel_rfl) (fun _ h => by cases h) recurShortest_row_tie rfl ⟨rfl, rfl⟩ (by kernel_rfl) rfl
    (fun f fn hf hfn => by
      obtain rfl : f = 5 := Option.some.inj ((show Tryd.prog.funcNamed "rosette/rosettelaw25.RecurShortest" = some 5 by kernel_rfl).symm.trans hf) |>.symm
      obtain rfl : fn = Tryd.f5 := (Option.some.inj (Tryd.func5.symm.trans hfn)).symm
      exact ⟨by kernel_rfl, fun j t ht => by
        rw [Tryd.params5] at ht
        have hm : t ∈ [38, 38, 3, 3] := by simpa using Array.mem_of_getElem? ht
        have hall : ([38, 38, 3, 3].all fun u => !Tryd.prog.wantsStandIn u) = true := by kernel_rfl
        exact (show Tryd.prog.wantsStandIn t = false by simpa using List.all_eq_true.1 hall t hm)⟩)
    (by kernel_rfl)
end Go.Proofs.YtdbjhcgogmfghaaDoor
