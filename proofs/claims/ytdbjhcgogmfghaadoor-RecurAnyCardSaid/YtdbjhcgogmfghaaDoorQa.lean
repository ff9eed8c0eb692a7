/-
  The statement that is named at its end, proved of every input.
-/
import Derived.Test.YtdbjhcgogmfghaaDoorMas
import Derived.Test.YtdbjhcgogmfghaaDoorCards
import Derived.Test.YtdbjhcgogmfghaaDoorTie
import Derived.SevenTiedAt
set_option linter.unusedVariables false
set_option linter.unusedSimpArgs false
set_option linter.unnecessarySimpa false

/-
  RecurAny: the law's walk.
-/
-- kv2
namespace Go.Proofs
open Go Go.Abs Go.Nums
attribute [local irreducible] thenA blockA awp aw Stp EndF EndP EndN EndG aOps aOpsM scopeA
set_option linter.unusedSimpArgs false
set_option linter.unusedVariables false
set_option maxHeartbeats 4000000

theorem l_any (l : List Int) (k : Int) (hl : l.length < 2 ^ 63) (hr : ∀ x ∈ l, -9223372036854775808 ≤ x ∧ x < 9223372036854775808) : AFun Tryd.prog 6 [li l, ivl .i64 k] (bvl true) := by
  by_cases g0 : 40 < l.length
  · refine afun (mu := muF) Tryd.func6 rfl (by decide) rfl (by decide) (Nat.le_of_ble_eq_true rfl) (by simp [nm0, AVal.at, AVal.at1, Cell.at]) (by simp [nm0, AVal.at, AVal.at1, Cell.at]) fun S hS => ?_
    repeat refine gN ?_
    ((first | refine zw1 ?_ | refine zw2 ?_ | refine zw3 ?_); refine s_cmp (fun g => ?_) (fun g => ?_))
    · repeat refine gN ?_
      ((first | refine zw1 ?_ | refine zw2 ?_ | refine zw3 ?_); refine s_call (c_awakeR) ?_)
      repeat refine gN ?_
      (refine endF ttOk (.inr rfl) hS (by exact rfl) ?_ (fl' := [(4, bvl true)]) (by exact rfl) (by exact rfl) (by exact rfl); (repeat' (first | refine fF ?_ ?_ | refine fS ?_ ?_ | exact True.intro); all_goals (try (first | exact kv | exact kQ | exact kQc | exact kIc | exact kFn0 | exact kOac | (refine kW (ov_of lks) rfl ?_ ?_)))))
    · exact absurd g0 (by omega)
  obtain ⟨p, hp⟩ : ∃ p, p = primeK k := ⟨_, rfl⟩
  have ok := primeK_ok k
  rw [← hp] at ok
  obtain ⟨hp1, hp2, hpB, hco⟩ := ok
  have hp0 : 0 < p := by omega
  obtain ⟨low, hlow⟩ : ∃ low, low = l.map (· % p) := ⟨_, rfl⟩
  have hlowl : low.length = l.length := by rw [hlow, List.length_map]
  obtain ⟨b, e, hbe⟩ : ∃ b e, shortF p l = (b, e) := ⟨_, _, rfl⟩
  have hSh1 : AFun Tryd.prog 12 [li l, ivl .i64 p] (.tup [li b, ivl .i64 e]) := by
    have := c_shortrow l p hp1 hp2 hpB hco (by omega) hr
    rw [hbe] at this
    exact this
  have hSh2 : AFun Tryd.prog 12 [li (likeF p l l.length), ivl .i64 p] (.tup [li b, ivl .i64 e]) := by
    have := c_shortrow (likeF p l l.length) p hp1 hp2 hpB hco (by rw [likeF_len]; omega) (likeF_rng hp1 hp2 l.length)
    rw [likeF_short, hbe] at this
    exact this
  have hbl : b.length < 2 ^ 60 := by
    rcases shortF_err p l with h | h
    · rw [hbe] at h
      have h0 : e = 0 := h
      subst h0
      have := (short_makes hp1 hco hbe).1
      omega
    · rw [hbe] at h
      rw [(Prod.mk.inj h).1]
      decide
  have hSame : AFun Tryd.prog 13 [li b, li b] (bvl true) := by
    have := c_samelongs b b hbl hbl
    rw [decide_eq_true rfl] at this
    exact this
  refine afun (mu := muF) Tryd.func6 rfl (by decide) rfl (by decide) (Nat.le_of_ble_eq_true rfl) (by simp [nm0, AVal.at, AVal.at1, Cell.at]) (by simp [nm0, AVal.at, AVal.at1, Cell.at]) fun S hS => ?_
  repeat refine gN ?_
  ((first | refine zw1 ?_ | refine zw2 ?_ | refine zw3 ?_); refine s_cmp (fun g => ?_) (fun g => ?_))
  · exact absurd g (by omega)
  repeat refine gN ?_
  ((first | refine zw1 ?_ | refine zw2 ?_ | refine zw3 ?_); refine s_call (c_primes k) ?_)
  rw [← hp]
  repeat refine gN ?_
  ((first | refine zw1 ?_ | refine zw2 ?_ | refine zw3 ?_); refine s_call (hSh1) ?_)
  repeat refine gN ?_
  refine awp_midB (fun st => Weak st ⟨lk' [(0, li l), (5, ivl .i64 p), (6, li b), (7, ivl .i64 e), (8, li (likeF p l l.length)), (9, li low)], ov [] (pushS S)⟩) ?_ ?_
  · refine awp_rep (fun i : Nat => ⟨lk' [(0, li l), (5, ivl .i64 p), (6, li b), (7, ivl .i64 e), (8, .accv (.loc 54) i), (9, .accv (.loc 45) i), (10, iv i)], ov [(.loc 54, .accI 2 .i64 (likeF p l i)), (.loc 45, .accI 2 .i64 (low.take i))] (pushS S)⟩) (fun i => i ≤ l.length) (fun i => l.length + 1 - i) 0 (Nat.zero_le _) ?_ ?_
    · (refine frz hS (by exact rfl) ?_ ?_; all_goals (repeat' (first | refine fF ?_ ?_ | refine fS ?_ ?_ | exact True.intro)); all_goals (try (first | exact kv | exact kQ | exact kQc | exact kIc | exact kFn0 | exact kOac | (refine kW (ov_of lks) rfl ?_ ?_))))
      · exact ⟨.inr ⟨fun _ h => (by cases (show none = some _ from h)), _, _, rfl⟩, .inr ⟨fun _ h => (by cases (show none = some _ from h)), _, _, rfl⟩, trivial⟩
      · exact .nilA (ov_of rfl)
      · exact .nilA (ov_of rfl)
    intro i hi
    have hL := likeF_len p l i
    have hL2 : (low.take i).length = i := by rw [List.length_take]; omega
    repeat refine gN ?_
    ((first | refine zw1 ?_ | refine zw2 ?_ | refine zw3 ?_); refine s_cmp (fun g2 => ?_) (fun g2 => ?_))
    · obtain ⟨x, hx⟩ : ∃ x, l[i]? = some x := ⟨_, List.getElem?_eq_getElem (by omega)⟩
      have hxr := hr x (List.mem_of_getElem? hx)
      have hxD : l.getD i 0 = x := by rw [List.getD_eq_getElem?_getD, hx]; rfl
      have h3 := Int.tmod_lt_of_pos x hp0
      have h4 := Int.lt_tmod_of_pos x hp0
      have h6 : (x.tmod p + p) % p = x % p := by rw [← Int.tmod_eq_emod_of_nonneg (by omega), tmod2 hp0]
      have h7 : 0 ≤ x % p ∧ x % p < p := ⟨Int.emod_nonneg _ (by omega), Int.emod_lt_of_pos _ hp0⟩
      have hg1 : low.take (i + 1) = low.take i ++ [x % p] := by
        rw [List.take_add_one, hlow, List.getElem?_map, hx]; rfl
      have hg2 : likeF p l (i + 1) = likeF p l i ++ [x % p - p * ((i % 5 : Nat) : Int)] := by rw [likeF, hxD]
      have hm1 : p * ((i % 5 : Nat) : Int) ≤ p * 4 := Int.mul_le_mul_of_nonneg_left (by omega) (by omega)
      have hm2 : 0 ≤ p * ((i % 5 : Nat) : Int) := Int.mul_nonneg (by omega) (by omega)
      repeat refine gN ?_
      rw [show (i : Int).toNat = i by omega, hxD]
      refine zw1 (stp_remI ?_ (h := by omega))
      repeat refine gN ?_
      rw [h6]
      repeat refine gN ?_
      refine zw1 (s_app8 ttOk (Y := [x % p]) ?_ ?_ ?_ (hn := hL2))
      · exact srcE_win (L := [x % p]) lks (by simp)
      · rw [hL2]; simp; omega
      repeat refine gN ?_
      refine zw1 (s_app8 ttOk (Y := [x % p - p * ((i % 5 : Nat) : Int)]) ?_ ?_ ?_ (hn := hL))
      · exact srcE_win (L := [x % p - p * ((i % 5 : Nat) : Int)]) lks (by simp)
      · rw [hL]; simp; omega
      repeat refine gN ?_
      refine ⟨i + 1, ?_, by omega, by omega⟩
      rw [hg1, hg2]
      (refine frz hS (by exact rfl) ?_ ?_; all_goals (repeat' (first | refine fF ?_ ?_ | refine fS ?_ ?_ | exact True.intro)); all_goals (try (first | exact kv | exact kQ | exact kQc | exact kIc | exact kFn0 | exact kOac | (refine kW (ov_of lks) rfl ?_ ?_))))
    · repeat refine gN ?_
      have : i = l.length := by omega
      subst this
      rw [List.take_of_length_le (show low.length ≤ l.length by omega)]
      (refine frz hS (by exact rfl) ?_ ?_; all_goals (repeat' (first | refine fF ?_ ?_ | refine fS ?_ ?_ | exact True.intro)); all_goals (try (first | exact kv | exact kQ | exact kQc | exact kIc | exact kFn0 | exact kOac | (refine kW (ov_of lks) rfl ?_ ?_))))
      · exact .accI (ov_of lks) rfl
      · exact .accI (ov_of lks) rfl
  intro st hst
  refine awp_weak _ hst ?_
  clear hst st
  repeat refine gN ?_
  ((first | refine zw1 ?_ | refine zw2 ?_ | refine zw3 ?_); refine s_call (hSh2) ?_)
  repeat refine gN ?_
  ((first | refine zw1 ?_ | refine zw2 ?_ | refine zw3 ?_); refine s_cmp (fun g3 => ?_) (fun g3 => ?_))
  · exact absurd rfl g3
  repeat refine gN ?_
  try refine stp_gT (by exact rfl) (by exact rfl) ?_
  ((first | refine zw1 ?_ | refine zw2 ?_ | refine zw3 ?_); refine s_call (hSame) ?_)
  repeat refine gN ?_
  try refine stp_gT (by exact rfl) (by exact rfl) ?_
  refine s_cmp (fun g4 => ?_) (fun g4 => ?_)
  · have hbe2 : b = [] ∧ e = 340 := by
      rcases shortF_err p l with h | h
      · rw [hbe] at h
        exact absurd h g4
      · rw [hbe] at h
        exact ⟨(Prod.mk.inj h).1, (Prod.mk.inj h).2⟩
    obtain ⟨rfl, rfl⟩ := hbe2
    repeat refine gN ?_
    refine s_cmp (fun g5 => absurd rfl g5) (fun g5 => ?_)
    repeat refine gN ?_
    refine s_cmp (fun g6 => absurd rfl g6) (fun g6 => ?_)
    repeat refine gN ?_
    ((first | refine zw1 ?_ | refine zw2 ?_ | refine zw3 ?_); refine s_cmp (fun g7 => ?_) (fun g7 => ?_))
    · repeat refine gN ?_
      ((first | refine zw1 ?_ | refine zw2 ?_ | refine zw3 ?_); refine s_call (c_awakeR) ?_)
      repeat refine gN ?_
      (refine endF ttOk (.inr rfl) hS (by exact rfl) ?_ (fl' := [(4, bvl true)]) (by exact rfl) (by exact rfl) (by exact rfl); (repeat' (first | refine fF ?_ ?_ | refine fS ?_ ?_ | exact True.intro); all_goals (try (first | exact kv | exact kQ | exact kQc | exact kIc | exact kFn0 | exact kOac | (refine kW (ov_of lks) rfl ?_ ?_)))))
    · exact absurd g4 g7
  · have he : e = 0 := Decidable.not_not.1 g4
    subst he
    obtain ⟨hb2, hbr, hbg⟩ := short_makes hp1 hco hbe
    rw [← hlow] at hbg
    repeat refine gN ?_
    ((first | refine zw1 ?_ | refine zw2 ?_ | refine zw3 ?_); refine s_cmp (fun g5 => ?_) (fun g5 => ?_))
    · exact absurd rfl g5
    repeat refine gN ?_
    ((first | refine zw1 ?_ | refine zw2 ?_ | refine zw3 ?_); refine s_cmp (fun g6 => ?_) (fun g6 => ?_))
    rotate_left
    · exact absurd g6 (by omega)
    repeat refine gN ?_
    have hlr : inR p low := fun x hx => by
      rw [hlow] at hx
      obtain ⟨y, -, rfl⟩ := List.mem_map.1 hx
      exact ⟨Int.emod_nonneg _ (by omega), Int.emod_lt_of_pos _ hp0⟩
    have hG : AFun Tryd.prog 19 [li (low.take b.length), li b, iv l.length, ivl .i64 p] (li low) := by
      have := c_goes (low.take b.length) b l.length p hp1 hp2 (fun x hx => by have := hlr x (List.mem_of_mem_take hx); omega) (fun x hx => by have := hbr x hx; omega) (.inl (by rw [List.length_take]; omega)) (by omega) (by omega)
      rw [hbg] at this
      exact this
    have hSame2 : AFun Tryd.prog 13 [li low, li low] (bvl true) := by
      have := c_samelongs low low (by omega) (by omega)
      rw [decide_eq_true rfl] at this
      exact this
    rw [show List.take ((b.length : Int).toNat - 0) (List.drop 0 low) = low.take b.length by simp]
    try refine stp_gT (by exact rfl) (by exact rfl) ?_
    ((first | refine zw1 ?_ | refine zw2 ?_ | refine zw3 ?_); refine s_call (hG) ?_)
    repeat refine gN ?_
    try refine stp_gT (by exact rfl) (by exact rfl) ?_
    ((first | refine zw1 ?_ | refine zw2 ?_ | refine zw3 ?_); refine s_call (hSame2) ?_)
    repeat refine gN ?_
    try refine stp_gT (by exact rfl) (by exact rfl) ?_
    ((first | refine zw1 ?_ | refine zw2 ?_ | refine zw3 ?_); refine s_call (c_awakeR) ?_)
    repeat refine gN ?_
    (refine endF ttOk (.inr rfl) hS (by exact rfl) ?_ (fl' := [(4, bvl true)]) (by exact rfl) (by exact rfl) (by exact rfl); (repeat' (first | refine fF ?_ ?_ | refine fS ?_ ?_ | exact True.intro); all_goals (try (first | exact kv | exact kQ | exact kQc | exact kIc | exact kFn0 | exact kOac | (refine kW (ov_of lks) rfl ?_ ?_)))))
end Go.Proofs

/-
  RecurAny is true of every input.
-/
namespace Go.Proofs.YtdbjhcgogmfghaaDoor
open Go Go.Abs Go.Nums Go.Proofs
open Go.ChangeShapes Go.WideShapes Go.ChangeAt Go.RowKit Go.Joins

set_option maxRecDepth 100000 in
theorem recurAny_lifted (os : Os) (started : os.Started) (H : Type) (enc : TypeId × Value → H) :
    ReturnsInHanded {} Tryd.checked os 6 .any (fun w args => (Rows.recurAnySpec.pre enc Tryd.prog Tryd.f6 Rows.recurAnyRow.domain false w args ∧ laidMetH Tryd.prog laidT w) ∧ sizedMet enc Tryd.prog Tryd.f6 (OpenSpec.ofChange Rows.recurAnySpec) false w args)
      (Rows.recurAnySpec.post enc Tryd.prog Tryd.f6 false true false false) := by
  refine returnsInHanded_of_change_and (C := Tryd.checked) (X := fun w _ => laidMetH Tryd.prog laidT w) (fun _ _ _ hh h => h.of_heap hh) own started (by kernel_rfl) Tryd.func6
    (ChangeSpec.witness_shaped (enc := enc) (C := Tryd.checked) (os := os) (X := fun w _ => laidMetH Tryd.prog laidT w) false (World.doorLaid Tryd.prog 14 os) #[.slice none 0 0, .int .i64 0] 8 rfl (World.shaped_of_RefB (by kernel_rfl) (by kernel_rfl)) (by kernel_rfl) (by kernel_rfl) (by kernel_rfl) (door_met os _)) ?_
  intro W base args ds gs before hval0 hW _ _ hLaid _
  have hval : ∀ (j : Nat) t v, Tryd.f6.params[j]? = some t → args[j]? = some v → Value.okWide Tryd.prog W .any base t v := hval0
  have hW' := hW
  obtain ⟨p, q, hA0, hV, rfl, _, _⟩ := hW
  have hA : DataW.TrodAll enc Tryd.prog W 0 (fun _ => true) true Tryd.f6.params.toList args.toList ds p := hA0
  rw [Tryd.params6] at hA hval
  obtain ⟨v0, v1, d0, d1, p0, p1, rfl, rfl, rfl, h0, h1⟩ := trodAll_two hA
  obtain ⟨rfl, rfl⟩ := trodVars_none hV
  clear hA0 hval0
  simp only [List.append_nil] at hW'
  have hlt : ∀ x ∈ p0 ++ p1, x.block < W.heap.size := fun x hx => by simpa using hW'.lt x hx
  have hargs : ∀ (W' : World), Below W.heap.size W W' → DataW.TrodAll enc Tryd.prog W' 0 (fun b => decide (b < W.heap.size)) true [38, 3] [v0, v1] [d0, d1] (p0 ++ p1) := fun W' hn =>
    trodAll_mk2 (Below.trod laidOut (by kernel_rfl) (of_decide_eq_true (by kernel_rfl)) h0 hn fun x hx => hlt x (by simp [hx])) (Below.trod laidOut (by kernel_rfl) (of_decide_eq_true (by kernel_rfl)) h1 hn fun x hx => hlt x (by simp [hx]))
  obtain ⟨l0, hr0, hl0, a0⟩ := longs_in (hval 0 38 v0 rfl rfl) h0
  obtain ⟨n1, rfl, rfl, rfl, wn1⟩ := open_int Tryd.underlying3 (hval 1 3 v1 rfl rfl) h1
  refine (calls_top (l_any l0 n1 hl0 hr0) Tryd.func6 rfl (by decide) W (of_laid hLaid) #[v0, .int .i64 n1] (vss_cons a0 (vss_cons vs_int vss_nil))).mono fun e W' => ?_
  rintro ⟨rfl, hn⟩
  exact ⟨_, rfl, ⟨_, _, _, [], _, [], hW', trodAll_mk1 (shut_bool Tryd.underlying4 true), hargs _ hn, rfl, hn.frame _, fun h => by cases h⟩⟩

theorem recurAny_said : Rows.RecurAnySaid :=
  OpenClaim.holds_of_wide 6 Tryd.f6 rfl rfl rfl rfl rfl rfl rfl ⟨rfl, rfl, rfl, rfl, rfl⟩ rfl rfl rfl rfl rfl (by kernel_rfl) Tryd.func6 (by kernel_rfl)
    (of_decide_eq_true (by kernel_rfl)) (by unfold Func.isWrapper; rw [if_neg (of_decide_eq_false (by kernel_rfl))]; exact ⟨rfl, rfl⟩)
    (fun os started H enc _ => recurAny_lifted os started H enc)

theorem recurAny_holds : Rows.RecurAnyCardSaid :=
  Claim7.holds_tied_plain_at .later [] [.data] true (true, "6ef568d098669fae83a391f1247587913aca55cf635e0f0967008a2575707201") false
    recurAny_said (fun _ h => by cases h) (by kernel_rfl) (fun _ h => by cases h) recurAny_row_tie rfl ⟨rfl, rfl⟩ (by kernel_rfl) rfl
    (fun f fn hf hfn => by
      obtain rfl : f = 6 := Option.some.inj ((show Tryd.prog.funcNamed "rosette/rosettelaw25.RecurAny" = some 6 by kernel_rfl).symm.trans hf) |>.symm
      obtain rfl : fn = Tryd.f6 := (Option.some.inj (Tryd.func6.symm.trans hfn)).symm
      exact ⟨by kernel_rfl, fun j t ht => by
        rw [Tryd.params6] at ht
        have hm : t ∈ [38, 3] := by simpa using Array.mem_of_getElem? ht
        have hall : ([38, 3].all fun u => !Tryd.prog.wantsStandIn u) = true := by kernel_rfl
        exact (show Tryd.prog.wantsStandIn t = false by simpa using List.all_eq_true.1 hall t hm)⟩)
    (by kernel_rfl)
end Go.Proofs.YtdbjhcgogmfghaaDoor
