/-
  The statement that is named at its end, proved of every input.
-/
import Derived.Test.YtkhnekfipbbppaaQB
import Derived.Test.YtkhnekfipbbppaaMF
import Derived.SizedLaws
set_option linter.unusedVariables false
set_option linter.unusedSimpArgs false

/-
  RecipTells.
-/
namespace Go.Proofs
open Go Go.Abs Go.Nums
attribute [local irreducible] thenA blockA awp aw Stp EndF EndP EndN EndG EndT aOps
set_option linter.unusedSimpArgs false
set_option maxHeartbeats 4000000

theorem c_large (s : Bool) (l : List Nat) (hl : l.length < 2 ^ 60) : AFun Try.prog 14 [wi s l] (bvl (decide (64 < l.length ∧ l.length ≤ 4096))) := by
  refine afun (mu := muF) Try.func14 rfl (by decide) rfl (by decide) (Nat.le_of_ble_eq_true rfl) (by simp [nm0, AVal.at, AVal.at1, Cell.at]) (by simp [nm0, AVal.at, AVal.at1, Cell.at]) fun S hS => ?_
  repeat refine gN ?_
  ((first | refine zw1 ?_ | refine zw2 ?_ | refine zw3 ?_); refine s_cmp (fun g1 => ?_) (fun g1 => ?_))
  · repeat refine gN ?_
    ((first | refine zw1 ?_ | refine zw2 ?_ | refine zw3 ?_); refine s_cmp (fun g2 => ?_) (fun g2 => ?_))
    · repeat refine gN ?_
      (refine endF ttOk (.inr rfl) hS (by exact rfl) ?_ (fl' := [(2, bvl (decide (64 < l.length ∧ l.length ≤ 4096)))]) (by exact rfl) (by exact rfl) (by exact rfl); (repeat' (first | refine fF ?_ ?_ | refine fS ?_ ?_ | exact True.intro); all_goals (try (first | exact kv | (refine kW (ov_of lks) rfl ?_ ?_)))))
      all_goals exact kB (by simp; omega)
    · repeat refine gN ?_
      (refine endF ttOk (.inr rfl) hS (by exact rfl) ?_ (fl' := [(2, bvl (decide (64 < l.length ∧ l.length ≤ 4096)))]) (by exact rfl) (by exact rfl) (by exact rfl); (repeat' (first | refine fF ?_ ?_ | refine fS ?_ ?_ | exact True.intro); all_goals (try (first | exact kv | (refine kW (ov_of lks) rfl ?_ ?_)))))
      all_goals exact kB (by simp; omega)
  · repeat refine gN ?_
    (refine endF ttOk (.inr rfl) hS (by exact rfl) ?_ (fl' := [(2, bvl (decide (64 < l.length ∧ l.length ≤ 4096)))]) (by exact rfl) (by exact rfl) (by exact rfl); (repeat' (first | refine fF ?_ ?_ | refine fS ?_ ?_ | exact True.intro); all_goals (try (first | exact kv | (refine kW (ov_of lks) rfl ?_ ?_)))))
    all_goals exact kB (by simp; omega)

theorem right_is {s : Bool} {l : List Nat} (hr : rng B l) (h : rightB s l = true) : wi s l = wz (sg s (val B l)) ∧ l.length ≤ 4096 ∧ digs B (val B l) = l := by
  unfold rightB at h
  split at h
  · rename_i h0
    have := List.eq_nil_of_length_eq_zero h0
    subst this
    have : s = false := by cases s <;> simp at h ⊢
    subst this
    refine ⟨?_, by simp, by simp [val, digs_zero]⟩
    rw [wz_pos (by simp [sg, val])]
    simp [sg, val, digs_zero]
  · rename_i h0
    simp only [decide_eq_true_eq] at h
    have hne : l ≠ [] := fun q => h0 (by rw [q]; rfl)
    have hd : digs B (val B l) = l := digs_val hB hr (fun _ => by rw [getLast_getD hne]; exact h.2)
    have hv : val B l ≠ 0 := fun q => hne (by rw [← hd, q, digs_zero])
    refine ⟨?_, h.1, hd⟩
    have e : (sg s (val B l)).natAbs = val B l := sg_abs _ _
    have e2 : decide (sg s (val B l) < 0) = s := by
      cases s
      · exact decide_eq_false (by simp [sg])
      · exact decide_eq_true (by simp [sg]; omega)
    show wi s l = wi _ (digs B _)
    rw [e, e2, hd]

theorem wrong_0 {s : Bool} {l : List Nat} {b : Int} (hr : rng B l) (h : wrongN s l b = 0) : ∃ d c : Nat, wi s l = w1 d ∧ b = c ∧ 0 < d ∧ (digs B d).length ≤ 4096 ∧ c ≤ 262144 := by
  unfold wrongN at h
  split at h
  · cases h
  rename_i h1
  split at h
  · cases h
  rename_i h2
  split at h
  · cases h
  rename_i h3
  have h4 : rightB s l = true := by cases q : rightB s l with | true => rfl | false => exact absurd (.inl q) h1
  obtain ⟨e1, e2, e3⟩ := right_is hr h4
  have hs : s = false := by cases s; rfl; exact absurd rfl h3
  subst hs
  refine ⟨val B l, b.toNat, by show wi false l = wi false _; rw [e3], by omega, ?_, by rw [e3]; exact e2, by omega⟩
  refine Nat.pos_of_ne_zero fun q => h2 ?_
  rw [← e3, q, digs_zero]; rfl

theorem of_pair (s : Bool) (l : List Nat) (b : Int) (hr : rng B l) (hl : l.length < 2 ^ 60) : ∃ s' l' e, AFun Try.prog 16 [wi s l, ivl .i64 b] (.tup [wi s' l', ivl .i64 e]) ∧ AFun Try.prog 9 [wi s l, ivl .i64 b] (.tup [wi s' l', ivl .i64 e]) ∧ l'.length ≤ 4096 := by
  by_cases h : wrongN s l b = 0
  · obtain ⟨d, c, e1, rfl, h2, h3, h4⟩ := wrong_0 hr h
    rw [e1]
    obtain ⟨x, e, g1, g2, s', l', rfl, g3⟩ := c_rof d c h2 h3 h4
    exact ⟨s', l', e, g1, g2, g3⟩
  · exact ⟨false, [], _, c_rofw s l b hl h, c_ofw s l b hl h, by simp⟩

theorem step_pair (s : Bool) (l : List Nat) (s2 : Bool) (l2 : List Nat) (b : Int) (hr : rng B l) (hl : l.length < 2 ^ 60) (hr2 : rng B l2) (hl2 : l2.length < 2 ^ 60) : ∃ s' l' e, AFun Try.prog 17 [wi s l, wi s2 l2, ivl .i64 b] (.tup [wi s' l', ivl .i64 e]) ∧ AFun Try.prog 11 [wi s l, wi s2 l2, ivl .i64 b] (.tup [wi s' l', ivl .i64 e]) ∧ l'.length ≤ 4096 := by
  by_cases h : stepN s l s2 l2 b = 0
  · have h0 := h
    unfold stepN at h
    split at h
    · cases h
    rename_i h5
    obtain ⟨d, c, e1, rfl, h2, h3, h4⟩ := wrong_0 hr h
    obtain ⟨e2, h6, h7⟩ := right_is (s := s2) (l := l2) hr2 (by cases q : rightB s2 l2 with | true => rfl | false => exact absurd q h5)
    rw [e1, e2]
    obtain ⟨x, e, g1, g2, s', l', rfl, g3⟩ := c_rstep d c (sg s2 (val B l2)) h2 h3 (by rw [sg_abs, h7]; exact h6) h4
    exact ⟨s', l', e, g1, g2, g3⟩
  · exact ⟨false, [], _, c_rstepw s l s2 l2 b hl hl2 h, c_stepw s l s2 l2 b hl hl2 h, by simp⟩

theorem l_tells (s1 s2 : Bool) (l1 l2 : List Nat) (hr1 : rng B l1) (hr2 : rng B l2) (hl1 : l1.length ≤ 17592186043904) (hl2 : l2.length ≤ 17592186043904) (bits : Int) : AFun Try.prog 4 [wi s1 l1, wi s2 l2, ivl .i64 bits] (bvl true) := by
  have hg1 := c_large s1 l1 (by omega)
  have hg2 := c_large s2 l2 (by omega)
  by_cases p1 : 64 < l1.length ∧ l1.length ≤ 4096
  · rw [decide_eq_true p1] at hg1
    refine afun (mu := muF) Try.func4 rfl (by decide) rfl (by decide) (Nat.le_of_ble_eq_true rfl) (by simp [nm0, AVal.at, AVal.at1, Cell.at]) (by simp [nm0, AVal.at, AVal.at1, Cell.at]) fun S hS => ?_
    repeat refine gN ?_
    ((first | refine zw1 ?_ | refine zw2 ?_ | refine zw3 ?_); refine s_call (hg1) ?_)
    repeat refine gN ?_
    ((first | refine zw1 ?_ | refine zw2 ?_ | refine zw3 ?_); refine s_call (c_awake) ?_)
    repeat refine gN ?_
    (refine endF ttOk (.inr rfl) hS (by exact rfl) ?_ (fl' := [(6, bvl true)]) (by exact rfl) (by exact rfl) (by exact rfl); (repeat' (first | refine fF ?_ ?_ | refine fS ?_ ?_ | exact True.intro); all_goals (try (first | exact kv | (refine kW (ov_of lks) rfl ?_ ?_)))))
  rw [decide_eq_false p1] at hg1
  by_cases p2 : 64 < l2.length ∧ l2.length ≤ 4096
  · rw [decide_eq_true p2] at hg2
    refine afun (mu := muF) Try.func4 rfl (by decide) rfl (by decide) (Nat.le_of_ble_eq_true rfl) (by simp [nm0, AVal.at, AVal.at1, Cell.at]) (by simp [nm0, AVal.at, AVal.at1, Cell.at]) fun S hS => ?_
    repeat refine gN ?_
    ((first | refine zw1 ?_ | refine zw2 ?_ | refine zw3 ?_); refine s_call (hg1) ?_)
    repeat refine gN ?_
    ((first | refine zw1 ?_ | refine zw2 ?_ | refine zw3 ?_); refine s_call (hg2) ?_)
    repeat refine gN ?_
    ((first | refine zw1 ?_ | refine zw2 ?_ | refine zw3 ?_); refine s_call (c_awake) ?_)
    repeat refine gN ?_
    (refine endF ttOk (.inr rfl) hS (by exact rfl) ?_ (fl' := [(6, bvl true)]) (by exact rfl) (by exact rfl) (by exact rfl); (repeat' (first | refine fF ?_ ?_ | refine fS ?_ ?_ | exact True.intro); all_goals (try (first | exact kv | (refine kW (ov_of lks) rfl ?_ ?_)))))
  rw [decide_eq_false p2] at hg2
  obtain ⟨s3, l3, e3, ha1, ha2, ha3⟩ := of_pair s1 l1 bits hr1 (by omega)
  obtain ⟨s4, l4, e4, hb1, hb2, hb3⟩ := step_pair s1 l1 s2 l2 bits hr1 (by omega) hr2 (by omega)
  refine afun (mu := muF) Try.func4 rfl (by decide) rfl (by decide) (Nat.le_of_ble_eq_true rfl) (by simp [nm0, AVal.at, AVal.at1, Cell.at]) (by simp [nm0, AVal.at, AVal.at1, Cell.at]) fun S hS => ?_
  repeat refine gOR ?_
  iterate 1 (refine awp_seq ?_; repeat refine gOR ?_)
  refine awp_seq ?_
  refine awp_mid (fun st => Weak st ⟨lk' [(2, ivl .i64 bits), (3, .c (.ptr (.loc 3) 0)), (4, .c (.ptr (.loc 4) 0))], ov [(.loc 3, .cells 24 [.sc (.bool s1), .ints .u64 (U l1)]), (.loc 4, .cells 24 [.sc (.bool s2), .ints .u64 (U l2)])] (pushS S)⟩) ?_ ?_
  · repeat refine gN ?_
    ((first | refine zw1 ?_ | refine zw2 ?_ | refine zw3 ?_); refine s_call (hg1) ?_)
    repeat refine gN ?_
    ((first | refine zw1 ?_ | refine zw2 ?_ | refine zw3 ?_); refine s_call (hg2) ?_)
    repeat refine gN ?_
    ((first | refine zw1 ?_ | refine zw2 ?_ | refine zw3 ?_); refine s_cmp (fun g1 => ?_) (fun g1 => ?_))
    · repeat refine gN ?_
      ((first | refine zw1 ?_ | refine zw2 ?_ | refine zw3 ?_); refine s_cmp (fun g2 => ?_) (fun g2 => ?_))
      · repeat refine gN ?_
        ((first | refine zw1 ?_ | refine zw2 ?_ | refine zw3 ?_); refine s_call (c_awake) ?_)
        repeat refine gN ?_
        (refine endF ttOk (.inr rfl) hS (by exact rfl) ?_ (fl' := [(6, bvl true)]) (by exact rfl) (by exact rfl) (by exact rfl); (repeat' (first | refine fF ?_ ?_ | refine fS ?_ ?_ | exact True.intro); all_goals (try (first | exact kv | (refine kW (ov_of lks) rfl ?_ ?_)))))
      · repeat refine gN ?_
        (refine frz hS (by exact rfl) ?_ ?_; all_goals (repeat' (first | refine fF ?_ ?_ | refine fS ?_ ?_ | exact True.intro)); all_goals (try (first | exact kv | (refine kW (ov_of lks) rfl ?_ ?_))))
    · repeat refine gN ?_
      (refine frz hS (by exact rfl) ?_ ?_; all_goals (repeat' (first | refine fF ?_ ?_ | refine fS ?_ ?_ | exact True.intro)); all_goals (try (first | exact kv | (refine kW (ov_of lks) rfl ?_ ?_))))
  rintro st hw
  refine awp_weak _ hw ?_
  clear hw st
  repeat refine gN ?_
  ((first | refine zw1 ?_ | refine zw2 ?_ | refine zw3 ?_); refine s_call (c_lentint s1 l1 hl1) ?_)
  repeat refine gN ?_
  ((first | refine zw1 ?_ | refine zw2 ?_ | refine zw3 ?_); refine s_call (c_lentint s2 l2 hl2) ?_)
  repeat refine gN ?_
  ((first | refine zw1 ?_ | refine zw2 ?_ | refine zw3 ?_); refine s_call (ha2) ?_ (hle := by repeat (first | exact trivial | refine ⟨ALe.refl _, ?_⟩ | refine ⟨aleLent _ _, ?_⟩)))
  repeat refine gN ?_
  ((first | refine zw1 ?_ | refine zw2 ?_ | refine zw3 ?_); refine s_call (ha1) ?_)
  repeat refine gN ?_
  refine aw_weak ⟨lk' [(49, .agg [.sc (.bool s1), .intc .u64 (U (l1 ++ mks 12)) l1.length]), (50, .agg [.sc (.bool s2), .intc .u64 (U (l2 ++ mks 12)) l2.length]), (51, ivl .i64 bits), (2, ivl .i64 bits), (7, .c (.ptr (.loc 7) 0)), (8, .c (.ptr (.loc 8) 0)), (3, .c (.ptr (.loc 3) 0)), (4, .c (.ptr (.loc 4) 0)), (9, .c (.ptr (.loc 9) 0)), (10, ivl .i64 e3), (11, .c (.ptr (.loc 11) 0)), (12, ivl .i64 e3)],
    ov [(.loc 3, .cells 24 [.sc (.bool s1), .ints .u64 (U l1)]), (.loc 4, .cells 24 [.sc (.bool s2), .ints .u64 (U l2)]), (.loc 7, .cells 24 [.sc (.bool s1), .intc .u64 (U (l1 ++ mks 12)) l1.length]), (.loc 8, .cells 24 [.sc (.bool s2), .intc .u64 (U (l2 ++ mks 12)) l2.length]),
      (.loc 9, .cells 24 [.sc (.bool s3), .ints .u64 (U l3)]), (.loc 11, .cells 24 [.sc (.bool s3), .ints .u64 (U l3)])] (pushS S)⟩ ?_ ?_
  · (refine frz hS (by exact rfl) ?_ ?_; all_goals (repeat' (first | refine fF ?_ ?_ | refine fS ?_ ?_ | exact True.intro)); all_goals (try (first | exact kv | (refine kW (ov_of lks) rfl ?_ ?_))))
    all_goals exact kAgg rfl ⟨cS rfl, .base (.keep fun q h => h.elim), trivial⟩
  ((first | refine zw1 ?_ | refine zw2 ?_ | refine zw3 ?_); refine s_call (hb2) ?_ (hle := by repeat (first | exact trivial | refine ⟨ALe.refl _, ?_⟩ | refine ⟨aleLent _ _, ?_⟩)))
  repeat refine gN ?_
  ((first | refine zw1 ?_ | refine zw2 ?_ | refine zw3 ?_); refine s_call (hb1) ?_)
  repeat refine gN ?_
  ((first | refine zw1 ?_ | refine zw2 ?_ | refine zw3 ?_); refine s_call (c_is_same s3 l3 e3 (by omega)) ?_)
  repeat refine gN ?_
  ((first | refine zw1 ?_ | refine zw2 ?_ | refine zw3 ?_); refine s_call (c_is_same s4 l4 e4 (by omega)) ?_)
  repeat refine gN ?_
  ((first | refine zw1 ?_ | refine zw2 ?_ | refine zw3 ?_); refine s_call (c_keptint s1 l1 (by omega)) ?_)
  repeat refine gN ?_
  ((first | refine zw1 ?_ | refine zw2 ?_ | refine zw3 ?_); refine s_call (c_keptint s2 l2 (by omega)) ?_)
  repeat refine gN ?_
  ((first | refine zw1 ?_ | refine zw2 ?_ | refine zw3 ?_); refine s_call (c_awake) ?_)
  repeat refine gN ?_
  (refine endF ttOk (.inr rfl) hS (by exact rfl) ?_ (fl' := [(6, bvl true)]) (by exact rfl) (by exact rfl) (by exact rfl); (repeat' (first | refine fF ?_ ?_ | refine fS ?_ ?_ | exact True.intro); all_goals (try (first | exact kv | (refine kW (ov_of lks) rfl ?_ ?_)))))
end Go.Proofs

/-
  An api.Int that was handed in, with what its list weighs.
-/
namespace Go.Proofs
open Go Go.Abs Go.Nums
open Go.ChangeShapes Go.WideShapes Go.ChangeAt Go.RowKit

theorem limbs_sz {H : Type} {enc : TypeId × Value → H} {P : Program} {w : World} {t e : TypeId} {n R : Nat} {v : Value} {x : DataW H × List MemPlace} {l : List Nat} (ht : P.underlying t = some (.slice e)) (he : P.underlying e = some (.int .u64)) (hc : P.cellsOf e = 1)
    (h : DataW.trod enc P w 0 (fun _ => true) true n t [v] = some x) (hw : ∀ n ∈ x.1.weights P t, n ≤ R) (hv : IntsS w (Fr w ρ0 S0) .u64 (U l) (U l).length v) : l.length * P.bytesOf e ≤ R := by
  obtain ⟨A, cap, rfl, -, -, -⟩ := hv
  rw [U_len] at h
  rcases open_ints ht he hc h with ⟨hcs, hx⟩ | ⟨a, len, cap', zs, hcs, -, hl, -, hz, hx, -, -⟩
  · simp only [List.cons.injEq, Value.slice.injEq, and_true] at hcs
    rw [hcs.2.1, Nat.zero_mul]; exact Nat.zero_le _
  · simp only [List.cons.injEq, Value.slice.injEq, and_true] at hcs
    rw [hcs.2.1]
    simp only [if_true] at hz
    have := hw ((zs.take len).length * 1 + (zs.drop len).length * 1 |> (· * P.bytesOf e)) (by
      rw [hx]; simp [DataW.weights, ht, lits])
    simp only [Nat.mul_one, List.length_take, List.length_drop] at this
    refine Nat.le_trans (Nat.mul_le_mul_right _ ?_) this
    omega
end Go.Proofs

namespace Go.Proofs.Ytkhnekfipbbppaa
open Go Go.Abs Go.Nums Go.Proofs
open Go.ChangeShapes Go.WideShapes Go.ChangeAt Go.RowKit Go.Joins

theorem cells24 : Try.prog.cellsOf 24 = 2 := by kernel_rfl
theorem bytes26 : Try.prog.bytesOf 26 = 8 := by kernel_rfl

set_option maxRecDepth 100000 in
theorem whole_inX {H : Type} {enc : TypeId × Value → H} {W : World} {base : Nat} {v : Value} {d : DataW H} {p : List MemPlace} (hv : Value.okWide Try.prog W .any base 24 v) (h : DataW.Trod enc Try.prog W 0 (fun _ => true) true 24 v d p)
    (hw : ∀ n ∈ d.weights Try.prog 24, n ≤ reachBytes) : ∃ (s : Bool) (l : List Nat), rng B l ∧ l.length ≤ 17592186043904 ∧ VS W ρ0 S0 (wi s l) v := by
  obtain ⟨c0, c1, y0, y1, m, rfl, rfl, rfl, hy0, hy1⟩ := open_agg2 Try.underlying24 (by kernel_rfl) cells24 hv h
  obtain ⟨s, e0, rfl⟩ := DataW.trod_bool Try.underlying4 hy0
  simp only [List.cons.injEq, and_true] at e0
  subst e0
  obtain ⟨l, hr, hl, ho, hi⟩ := limbs_in Try.underlying22 Try.underlying26 cells26 hy1
  have hsz := limbs_sz (R := reachBytes) (l := l) Try.underlying22 Try.underlying26 cells26 hy1 (fun n hn => hw n (by
    simp only [DataW.weights, Try.underlying24]
    simp [DataW.weightsEach]
    exact .inr hn)) hi
  rw [bytes26] at hsz
  exact ⟨s, l, hr, by unfold reachBytes at hsz; omega, vs_whole ho hi⟩
end Go.Proofs.Ytkhnekfipbbppaa

/-
  RecipTells is true of every input.
-/
namespace Go.Proofs.Ytkhnekfipbbppaa
open Go Go.Abs Go.Nums Go.Proofs
open Go.ChangeShapes Go.WideShapes Go.ChangeAt Go.RowKit Go.Joins

set_option maxRecDepth 100000 in
theorem recipTells_lifted (os : Os) (started : os.Started) (H : Type) (enc : TypeId × Value → H) :
    ReturnsInHanded {} Try.checked os 4 .any (Rows.recipTellsSpec.pre6 enc Try.prog Try.f4 Rows.recipTellsRow.domain false) (Rows.recipTellsSpec.post enc Try.prog Try.f4 false true false false) := by
  refine returnsInHanded_of_change_sized (C := Try.checked) own started (by kernel_rfl) Try.func4
    (ChangeSpec.witness6 (enc := enc) (C := Try.checked) false ⟨#[], #[.agg #[.bool false, .slice none 0 0], .agg #[.bool false, .slice none 0 0], .int .i64 0], []⟩ 8 (by kernel_rfl) (by kernel_rfl) (by kernel_rfl) (by kernel_rfl)) ?_
  intro W base args ds gs before hval0 hW _ hsz _
  have hval : ∀ (j : Nat) t v, Try.f4.params[j]? = some t → args[j]? = some v → Value.okWide Try.prog W .any base t v := hval0
  have hW' := hW
  obtain ⟨p, q, hA0, hV, rfl, _, _⟩ := hW
  have hA : DataW.TrodAll enc Try.prog W 0 (fun _ => true) true Try.f4.params.toList args.toList ds p := hA0
  rw [Try.params4] at hA hval
  obtain ⟨v0, v1, v2, d0, d1, d2, p0, p1, p2, rfl, rfl, rfl, h0, h1, h2⟩ := trodAll_three hA
  obtain ⟨rfl, rfl⟩ := trodVars_none hV
  clear hA0 hval0
  simp only [List.append_nil] at hW'
  have hlt : ∀ x ∈ p0 ++ p1 ++ p2, x.block < W.heap.size := fun x hx => by simpa using hW'.lt x hx
  have hargs : ∀ (W' : World), Below W.heap.size W W' → DataW.TrodAll enc Try.prog W' 0 (fun b => decide (b < W.heap.size)) true [24, 24, 3] [v0, v1, v2] [d0, d1, d2] (p0 ++ p1 ++ p2) := fun W' hn =>
    List.append_assoc p0 p1 p2 ▸ trodAll_mk3 (Below.trod laidOut (by kernel_rfl) (of_decide_eq_true (by kernel_rfl)) h0 hn fun x hx => hlt x (by simp [hx])) (Below.trod laidOut (by kernel_rfl) (of_decide_eq_true (by kernel_rfl)) h1 hn fun x hx => hlt x (by simp [hx])) (Below.trod laidOut (by kernel_rfl) (of_decide_eq_true (by kernel_rfl)) h2 hn fun x hx => hlt x (by simp [hx]))
  obtain ⟨s0, l0, hr0, hl0, a0⟩ := whole_inX (hval 0 24 v0 rfl rfl) h0 (fun n hn => by simpa using List.all_eq_true.1 hsz _ (DataW.weights_mem_each (j := 0) rfl rfl n hn))
  obtain ⟨s1, l1, hr1, hl1, a1⟩ := whole_inX (hval 1 24 v1 rfl rfl) h1 (fun n hn => by simpa using List.all_eq_true.1 hsz _ (DataW.weights_mem_each (j := 1) rfl rfl n hn))
  obtain ⟨n2, rfl, rfl, rfl, wn2⟩ := open_int Try.underlying3 (hval 2 3 v2 rfl rfl) h2
  refine (calls_top (l_tells s0 s1 l0 l1 hr0 hr1 hl0 hl1 n2) Try.func4 rfl (by decide) W #[v0, v1, .int .i64 n2] (vss_cons a0 (vss_cons a1 (vss_cons vs_int vss_nil)))).mono fun e W' => ?_
  rintro ⟨rfl, hn⟩
  exact ⟨_, rfl, ⟨_, _, _, [], _, [], hW', trodAll_mk1 (shut_bool Try.underlying4 true), hargs _ hn, rfl, hn.frame _, fun h => by cases h⟩⟩

theorem recipTells_holds : Rows.RecipTellsSaid :=
  OpenClaim.holds_of_wide 4 Try.f4 rfl rfl rfl rfl rfl rfl rfl ⟨rfl, rfl, rfl, rfl, rfl⟩ rfl rfl rfl rfl rfl (by kernel_rfl) Try.func4 (by kernel_rfl)
    (of_decide_eq_true (by kernel_rfl)) (by unfold Func.isWrapper; rw [if_neg (of_decide_eq_false (by kernel_rfl))]; exact ⟨rfl, rfl⟩)
    (fun os started H enc _ => recipTells_lifted os started H enc)
end Go.Proofs.Ytkhnekfipbbppaa
