/-
  An abstract machine for this program, contracts of its functions: part MDc (no statement by itself).
-/
import Derived.Test.YtkhnekfipbbppaaMDb
set_option linter.unusedVariables false
set_option linter.unusedSimpArgs false

/-
  exact: Told, of a number in a tracked block; recip: told.
-/
namespace Go.Proofs
open Go Go.Abs Go.Nums
attribute [local irreducible] thenA blockA awp aw Stp EndF EndP EndN EndG aOps
set_option linter.unusedSimpArgs false
set_option maxHeartbeats 4000000

/-- A number as a struct. -/
abbrev wz (n : Int) : AVal := wi (decide (n < 0)) (digs B n.natAbs)
abbrev w0 : AVal := .agg [.sc (.bool false), .ints .u64 []]

theorem wz_neg {n : Int} (h : n < 0) : wz n = wi true (digs B n.natAbs) := by simp [h]
theorem wz_pos {n : Int} (h : ¬ n < 0) : wz n = wi false (digs B n.natAbs) := by simp [h]

theorem c_extold1 (z : Nm) (n : Int) (hn : (digs B n.natAbs).length ≤ 4096) : AProc Try.prog 62 [ptr z] [(z, bo n)] [(z, bo n)] (.tup [wz n, bvl true]) := by
  (refine aproc1 (mu := muF) Try.func62 rfl (by decide) rfl (by decide) (Nat.le_of_ble_eq_true rfl) (by simp [AVal.at, AVal.at1, Cell.at]) (by simp [AVal.at, AVal.at1, Cell.at]) (by simp [AVal.at, AVal.at1, Cell.at]) (by first | exact cells_nm0 | exact trivial | (intro x hx m; simp at hx; rcases hx with rfl | rfl <;> first | exact fun h => h | exact Leaf.cell_nm _ _)) (by first | exact cells_nm0 | exact trivial | (intro x hx m; simp at hx; rcases hx with rfl | rfl <;> first | exact fun h => h | exact Leaf.cell_nm _ _)) fun S hS => ?_; simp only [List.map_cons, List.map_nil, AVal.map, AVal.map1, Cell.map])
  have hU := U_len (digs B n.natAbs)
  have hs : (Int.sign n < 0) ↔ n < 0 := Int.sign_neg_iff
  repeat refine gO ?_
  ((first | refine zw1 ?_ | refine zw2 ?_ | refine zw3 ?_); refine s_read (c_signR (.out z) n) ?_ (by intro p hp; first | (simp only [List.mem_singleton] at hp; subst hp; exact lks) | (simp only [List.mem_cons, List.not_mem_nil, or_false] at hp; rcases hp with rfl | rfl <;> exact lks)))
  repeat refine gO ?_
  ((first | refine zw1 ?_ | refine zw2 ?_ | refine zw3 ?_); refine s_cmp (fun h => ?_) (fun h => ?_))
  · rw [wz_neg (hs.1 h)]
    repeat refine gO ?_
    ((first | refine zw1 ?_ | refine zw2 ?_ | refine zw3 ?_); refine s_read (c_limbsR (.out z) n (by omega)) ?_ (by intro p hp; first | (simp only [List.mem_singleton] at hp; subst hp; exact lks) | (simp only [List.mem_cons, List.not_mem_nil, or_false] at hp; rcases hp with rfl | rfl <;> exact lks)))
    repeat refine gO ?_
    ((first | refine zw1 ?_ | refine zw2 ?_ | refine zw3 ?_); refine s_cmp (fun h2 => ?_) (fun h2 => ?_))
    · omega
    repeat refine gO ?_
    (refine endP1 ttOk (fl' := [(2, .c (.pim [.sc (.bool true), .ints .u64 (U (digs B n.natAbs))])), (3, bvl true)]) (.inr rfl) hS lks (by first | exact cells_nm0 | exact trivial | (intro x hx m; simp at hx; rcases hx with rfl | rfl <;> first | exact fun h => h | exact Leaf.cell_nm _ _)) (by intro m hm; simp [lkS, addL, delL, Nm.isLoc, hm]) ?_ ?_ (by exact rfl) (by exact rfl) (by exact rfl))
    · rfl
    · (repeat' (first | refine fF ?_ ?_ | refine fS ?_ ?_ | exact True.intro); all_goals (try (first | exact kv | (refine kW (ov_of lks) rfl ?_ ?_))))
  · rw [wz_pos (fun q => h (hs.2 q))]
    repeat refine gO ?_
    ((first | refine zw1 ?_ | refine zw2 ?_ | refine zw3 ?_); refine s_read (c_limbsR (.out z) n (by omega)) ?_ (by intro p hp; first | (simp only [List.mem_singleton] at hp; subst hp; exact lks) | (simp only [List.mem_cons, List.not_mem_nil, or_false] at hp; rcases hp with rfl | rfl <;> exact lks)))
    repeat refine gO ?_
    ((first | refine zw1 ?_ | refine zw2 ?_ | refine zw3 ?_); refine s_cmp (fun h2 => ?_) (fun h2 => ?_))
    · omega
    repeat refine gO ?_
    (refine endP1 ttOk (fl' := [(2, .c (.pim [.sc (.bool false), .ints .u64 (U (digs B n.natAbs))])), (3, bvl true)]) (.inr rfl) hS lks (by first | exact cells_nm0 | exact trivial | (intro x hx m; simp at hx; rcases hx with rfl | rfl <;> first | exact fun h => h | exact Leaf.cell_nm _ _)) (by intro m hm; simp [lkS, addL, delL, Nm.isLoc, hm]) ?_ ?_ (by exact rfl) (by exact rfl) (by exact rfl))
    · rfl
    · (repeat' (first | refine fF ?_ ?_ | refine fS ?_ ?_ | exact True.intro); all_goals (try (first | exact kv | (refine kW (ov_of lks) rfl ?_ ?_))))

theorem c_extold2 (z : Nm) (n : Int) (hn : 4096 < (digs B n.natAbs).length) (hn2 : (digs B n.natAbs).length < 2 ^ 37) : AProc Try.prog 62 [ptr z] [(z, bo n)] [(z, bo n)] (.tup [w0, bvl false]) := by
  (refine aproc1 (mu := muF) Try.func62 rfl (by decide) rfl (by decide) (Nat.le_of_ble_eq_true rfl) (by simp [AVal.at, AVal.at1, Cell.at]) (by simp [AVal.at, AVal.at1, Cell.at]) (by simp [AVal.at, AVal.at1, Cell.at]) (by first | exact cells_nm0 | exact trivial | (intro x hx m; simp at hx; rcases hx with rfl | rfl <;> first | exact fun h => h | exact Leaf.cell_nm _ _)) (by first | exact cells_nm0 | exact trivial | (intro x hx m; simp at hx; rcases hx with rfl | rfl <;> first | exact fun h => h | exact Leaf.cell_nm _ _)) fun S hS => ?_; simp only [List.map_cons, List.map_nil, AVal.map, AVal.map1, Cell.map])
  have hU := U_len (digs B n.natAbs)
  repeat refine gO ?_
  ((first | refine zw1 ?_ | refine zw2 ?_ | refine zw3 ?_); refine s_read (c_signR (.out z) n) ?_ (by intro p hp; first | (simp only [List.mem_singleton] at hp; subst hp; exact lks) | (simp only [List.mem_cons, List.not_mem_nil, or_false] at hp; rcases hp with rfl | rfl <;> exact lks)))
  repeat refine gO ?_
  ((first | refine zw1 ?_ | refine zw2 ?_ | refine zw3 ?_); refine s_cmp (fun h => ?_) (fun h => ?_))
  all_goals
    repeat refine gO ?_
    ((first | refine zw1 ?_ | refine zw2 ?_ | refine zw3 ?_); refine s_read (c_limbsR (.out z) n (by omega)) ?_ (by intro p hp; first | (simp only [List.mem_singleton] at hp; subst hp; exact lks) | (simp only [List.mem_cons, List.not_mem_nil, or_false] at hp; rcases hp with rfl | rfl <;> exact lks)))
    repeat refine gO ?_
    ((first | refine zw1 ?_ | refine zw2 ?_ | refine zw3 ?_); refine s_cmp (fun h2 => ?_) (fun h2 => ?_))
    · repeat refine gO ?_
      (refine endP1 ttOk (fl' := [(2, .c (.pim [.sc (.bool false), .ints .u64 []])), (3, bvl false)]) (.inr rfl) hS lks (by first | exact cells_nm0 | exact trivial | (intro x hx m; simp at hx; rcases hx with rfl | rfl <;> first | exact fun h => h | exact Leaf.cell_nm _ _)) (by intro m hm; simp [lkS, addL, delL, Nm.isLoc, hm]) ?_ ?_ (by exact rfl) (by exact rfl) (by exact rfl))
      · rfl
      · (repeat' (first | refine fF ?_ ?_ | refine fS ?_ ?_ | exact True.intro); all_goals (try (first | exact kv | (refine kW (ov_of lks) rfl ?_ ?_))))
    · omega

theorem c_told1 (z : Nm) (n : Int) (hn : (digs B n.natAbs).length ≤ 4096) : AProc Try.prog 33 [ptr z] [(z, bo n)] [(z, bo n)] (.tup [wz n, ivl .i64 0]) := by
  (refine aproc1 (mu := muF) Try.func33 rfl (by decide) rfl (by decide) (Nat.le_of_ble_eq_true rfl) (by simp [AVal.at, AVal.at1, Cell.at]) (by simp [AVal.at, AVal.at1, Cell.at]) (by simp [AVal.at, AVal.at1, Cell.at]) (by first | exact cells_nm0 | exact trivial | (intro x hx m; simp at hx; rcases hx with rfl | rfl <;> first | exact fun h => h | exact Leaf.cell_nm _ _)) (by first | exact cells_nm0 | exact trivial | (intro x hx m; simp at hx; rcases hx with rfl | rfl <;> first | exact fun h => h | exact Leaf.cell_nm _ _)) fun S hS => ?_; simp only [List.map_cons, List.map_nil, AVal.map, AVal.map1, Cell.map])
  repeat refine gO ?_
  ((first | refine zw1 ?_ | refine zw2 ?_ | refine zw3 ?_); refine s_read ((c_extold1 (.out z) n hn).read ⟨_, List.mem_singleton_self _, rfl⟩) ?_ (by intro p hp; first | (simp only [List.mem_singleton] at hp; subst hp; exact lks) | (simp only [List.mem_cons, List.not_mem_nil, or_false] at hp; rcases hp with rfl | rfl <;> exact lks)))
  repeat refine gO ?_
  (refine endP1 ttOk (fl' := [(2, bp n), (3, ivl .i64 0)]) (.inr rfl) hS lks (by first | exact cells_nm0 | exact trivial | (intro x hx m; simp at hx; rcases hx with rfl | rfl <;> first | exact fun h => h | exact Leaf.cell_nm _ _)) (by intro m hm; simp [lkS, addL, delL, Nm.isLoc, hm]) ?_ ?_ (by exact rfl) (by exact rfl) (by exact rfl))
  · rfl
  · (repeat' (first | refine fF ?_ ?_ | refine fS ?_ ?_ | exact True.intro); all_goals (try (first | exact kv | (refine kW (ov_of lks) rfl ?_ ?_))))

theorem c_told2 (z : Nm) (n : Int) (hn : 4096 < (digs B n.natAbs).length) (hn2 : (digs B n.natAbs).length < 2 ^ 37) : AProc Try.prog 33 [ptr z] [(z, bo n)] [(z, bo n)] (.tup [w0, ivl .i64 3]) := by
  (refine aproc1 (mu := muF) Try.func33 rfl (by decide) rfl (by decide) (Nat.le_of_ble_eq_true rfl) (by simp [AVal.at, AVal.at1, Cell.at]) (by simp [AVal.at, AVal.at1, Cell.at]) (by simp [AVal.at, AVal.at1, Cell.at]) (by first | exact cells_nm0 | exact trivial | (intro x hx m; simp at hx; rcases hx with rfl | rfl <;> first | exact fun h => h | exact Leaf.cell_nm _ _)) (by first | exact cells_nm0 | exact trivial | (intro x hx m; simp at hx; rcases hx with rfl | rfl <;> first | exact fun h => h | exact Leaf.cell_nm _ _)) fun S hS => ?_; simp only [List.map_cons, List.map_nil, AVal.map, AVal.map1, Cell.map])
  repeat refine gO ?_
  ((first | refine zw1 ?_ | refine zw2 ?_ | refine zw3 ?_); refine s_read ((c_extold2 (.out z) n hn hn2).read ⟨_, List.mem_singleton_self _, rfl⟩) ?_ (by intro p hp; first | (simp only [List.mem_singleton] at hp; subst hp; exact lks) | (simp only [List.mem_cons, List.not_mem_nil, or_false] at hp; rcases hp with rfl | rfl <;> exact lks)))
  repeat refine gO ?_
  (refine endP1 ttOk (fl' := [(2, .c (.pim [.sc (.bool false), .ints .u64 []])), (3, ivl .i64 3)]) (.inr rfl) hS lks (by first | exact cells_nm0 | exact trivial | (intro x hx m; simp at hx; rcases hx with rfl | rfl <;> first | exact fun h => h | exact Leaf.cell_nm _ _)) (by intro m hm; simp [lkS, addL, delL, Nm.isLoc, hm]) ?_ ?_ (by exact rfl) (by exact rfl) (by exact rfl))
  · rfl
  · (repeat' (first | refine fF ?_ ?_ | refine fS ?_ ?_ | exact True.intro); all_goals (try (first | exact kv | (refine kW (ov_of lks) rfl ?_ ?_))))
end Go.Proofs

/-
  recip: Of; keep.
-/
namespace Go.Proofs
open Go Go.Abs Go.Nums
attribute [local irreducible] thenA blockA awp aw Stp EndF EndP EndN EndG aOps
set_option linter.unusedSimpArgs false
set_option maxHeartbeats 4000000

abbrev w1 (n : Nat) : AVal := wi false (digs B n)

theorem right_digs (s : Bool) (n : Nat) (hn : (digs B n).length ≤ 4096) (hs : s = true → n ≠ 0) : rightB s (digs B n) = true := by
  unfold rightB
  split
  · rename_i h
    have h0 : n = 0 := (digs_nil hB).1 (List.eq_nil_of_length_eq_zero h)
    cases s with
    | false => rfl
    | true => exact absurd h0 (hs rfl)
  · rename_i h
    have hne : digs B n ≠ [] := fun q => h (by rw [q]; rfl)
    have := digs_top hB hne
    rw [getLast_getD hne] at this
    simp only [decide_eq_true_eq]
    exact ⟨hn, this⟩
theorem wrong_ok (d b : Nat) (hd0 : 0 < d) (hd : (digs B d).length ≤ 4096) (hb : b ≤ 262144) : wrongN false (digs B d) b = 0 := by
  have h1 := right_digs false d hd (by simp)
  unfold wrongN
  rw [if_neg (by rw [h1]; simp; omega), if_neg (fun h => by have := (digs_nil hB).1 (List.eq_nil_of_length_eq_zero h); omega)]; rfl

theorem c_ofw (s : Bool) (l : List Nat) (b : Int) (hl : l.length < 2 ^ 60) (hw : wrongN s l b ≠ 0) : AFun Try.prog 9 [wi s l, ivl .i64 b] (.tup [w0, ivl .i64 (wrongN s l b)]) := by
  refine afun (mu := muF) Try.func9 rfl (by decide) rfl (by decide) (Nat.le_of_ble_eq_true rfl) (by simp [nm0, AVal.at, AVal.at1, Cell.at]) (by simp [nm0, AVal.at, AVal.at1, Cell.at]) fun S hS => ?_
  repeat refine gO ?_
  ((first | refine zw1 ?_ | refine zw2 ?_ | refine zw3 ?_); refine s_call (c_wrong s l b hl) ?_)
  repeat refine gO ?_
  ((first | refine zw1 ?_ | refine zw2 ?_ | refine zw3 ?_); refine s_cmp (fun h => ?_) (fun h => ?_))
  · repeat refine gO ?_
    (refine endF ttOk (.inr rfl) hS (by exact rfl) ?_ (fl' := [(4, .c (.pim [.sc (.bool false), .ints .u64 []])), (5, ivl .i64 (wrongN s l b))]) (by exact rfl) (by exact rfl) (by exact rfl); (repeat' (first | refine fF ?_ ?_ | refine fS ?_ ?_ | exact True.intro); all_goals (try (first | exact kv | (refine kW (ov_of lks) rfl ?_ ?_)))))
  · exact absurd hw h

theorem quo_nat (a d : Nat) : (a : Int).tdiv d = ((a / d : Nat) : Int) := by rw [Int.tdiv_eq_ediv_of_nonneg (by omega)]; rfl
theorem pow_len (b : Nat) (hb : b ≤ 262144) : (digs B (2 ^ b)).length ≤ 4097 := by
  obtain ⟨k, hk⟩ : ∃ k, k = 4097 := ⟨_, rfl⟩
  rw [← hk, digs_len hB, show B = 2 ^ 64 from rfl, ← Nat.pow_mul]; exact Nat.pow_lt_pow_right (by decide) (by omega)

theorem wz_nat (n : Nat) : wz (n : Int) = w1 n := by rw [wz_pos (by omega)]; rfl

theorem c_of1 (d b : Nat) (hd0 : 0 < d) (hd : (digs B d).length ≤ 4096) (hb : b ≤ 262144) (hq : (digs B (2 ^ b / d)).length ≤ 4096) : AFun Try.prog 9 [w1 d, iv b] (.tup [w1 (2 ^ b / d), ivl .i64 0]) := by
  have hp := pow_len b hb
  refine afun (mu := muF) Try.func9 rfl (by decide) rfl (by decide) (Nat.le_of_ble_eq_true rfl) (by simp [nm0, AVal.at, AVal.at1, Cell.at]) (by simp [nm0, AVal.at, AVal.at1, Cell.at]) fun S hS => ?_
  repeat refine gO ?_
  ((first | refine zw1 ?_ | refine zw2 ?_ | refine zw3 ?_); refine s_call (c_wrong false (digs B d) b (by omega)) ?_)
  rw [wrong_ok d b hd0 hd hb]
  repeat refine gO ?_
  ((first | refine zw1 ?_ | refine zw2 ?_ | refine zw3 ?_); refine s_cmp (fun h => ?_) (fun h => ?_))
  · exact absurd rfl h
  repeat refine gO ?_
  ((first | refine zw1 ?_ | refine zw2 ?_ | refine zw3 ?_); refine s_call ((c_one b hb).pim) ?_)
  repeat refine gO ?_
  ((first | refine zw1 ?_ | refine zw2 ?_ | refine zw3 ?_); refine s_call ((c_exint false (digs B d) (rng_digs hB d) (by omega) (by simp)).pim) ?_)
  rw [show sg false (val B (digs B d)) = (d : Int) by rw [val_digs hB]; rfl]
  repeat refine gO ?_
  ((first | refine zw1 ?_ | refine zw2 ?_ | refine zw3 ?_); refine s_proc (c_quo (.loc 14) (.sc (.bool false)) (.sc (.slice none 0 0)) _ (2 ^ b) d (.im _) (by omega) (by rw [show ((2 : Int) ^ b).natAbs = 2 ^ b by simp [Int.natAbs_pow]]; omega) (by rw [Int.natAbs_natCast]; omega)) ?_ (by intro p hp; first | (simp only [List.mem_singleton] at hp; subst hp; exact lks) | (simp only [List.mem_cons, List.not_mem_nil, or_false] at hp; rcases hp with rfl | rfl <;> exact lks)))
  rw [show ((2 : Int) ^ b).tdiv d = ((2 ^ b / d : Nat) : Int) by rw [← quo_nat]; simp]
  repeat refine gO ?_
  ((first | refine zw1 ?_ | refine zw2 ?_ | refine zw3 ?_); refine s_read ((c_told1 (.loc 14) ((2 ^ b / d : Nat) : Int) (by rw [Int.natAbs_natCast]; exact hq)).read ⟨_, List.mem_singleton_self _, rfl⟩) ?_ (by intro p hp; first | (simp only [List.mem_singleton] at hp; subst hp; exact lks) | (simp only [List.mem_cons, List.not_mem_nil, or_false] at hp; rcases hp with rfl | rfl <;> exact lks)))
  rw [wz_nat]
  repeat refine gO ?_
  (refine endF ttOk (.inr rfl) hS (by exact rfl) ?_ (fl' := [(4, .c (.pim [.sc (.bool false), .ints .u64 (U (digs B (2 ^ b / d)))])), (5, ivl .i64 0)]) (by exact rfl) (by exact rfl) (by exact rfl); (repeat' (first | refine fF ?_ ?_ | refine fS ?_ ?_ | exact True.intro); all_goals (try (first | exact kv | (refine kW (ov_of lks) rfl ?_ ?_)))))

theorem c_of2 (d b : Nat) (hd0 : 0 < d) (hd : (digs B d).length ≤ 4096) (hb : b ≤ 262144) (hq : 4096 < (digs B (2 ^ b / d)).length) : AFun Try.prog 9 [w1 d, iv b] (.tup [w0, ivl .i64 3]) := by
  have hp := pow_len b hb
  refine afun (mu := muF) Try.func9 rfl (by decide) rfl (by decide) (Nat.le_of_ble_eq_true rfl) (by simp [nm0, AVal.at, AVal.at1, Cell.at]) (by simp [nm0, AVal.at, AVal.at1, Cell.at]) fun S hS => ?_
  repeat refine gO ?_
  ((first | refine zw1 ?_ | refine zw2 ?_ | refine zw3 ?_); refine s_call (c_wrong false (digs B d) b (by omega)) ?_)
  rw [wrong_ok d b hd0 hd hb]
  repeat refine gO ?_
  ((first | refine zw1 ?_ | refine zw2 ?_ | refine zw3 ?_); refine s_cmp (fun h => ?_) (fun h => ?_))
  · exact absurd rfl h
  repeat refine gO ?_
  ((first | refine zw1 ?_ | refine zw2 ?_ | refine zw3 ?_); refine s_call ((c_one b hb).pim) ?_)
  repeat refine gO ?_
  ((first | refine zw1 ?_ | refine zw2 ?_ | refine zw3 ?_); refine s_call ((c_exint false (digs B d) (rng_digs hB d) (by omega) (by simp)).pim) ?_)
  rw [show sg false (val B (digs B d)) = (d : Int) by rw [val_digs hB]; rfl]
  repeat refine gO ?_
  ((first | refine zw1 ?_ | refine zw2 ?_ | refine zw3 ?_); refine s_proc (c_quo (.loc 14) (.sc (.bool false)) (.sc (.slice none 0 0)) _ (2 ^ b) d (.im _) (by omega) (by rw [show ((2 : Int) ^ b).natAbs = 2 ^ b by simp [Int.natAbs_pow]]; omega) (by rw [Int.natAbs_natCast]; omega)) ?_ (by intro p hp; first | (simp only [List.mem_singleton] at hp; subst hp; exact lks) | (simp only [List.mem_cons, List.not_mem_nil, or_false] at hp; rcases hp with rfl | rfl <;> exact lks)))
  rw [show ((2 : Int) ^ b).tdiv d = ((2 ^ b / d : Nat) : Int) by rw [← quo_nat]; simp]
  repeat refine gO ?_
  have hqm := len_mono hB (Nat.div_le_self (2 ^ b) d)
  ((first | refine zw1 ?_ | refine zw2 ?_ | refine zw3 ?_); refine s_read ((c_told2 (.loc 14) ((2 ^ b / d : Nat) : Int) (by rw [Int.natAbs_natCast]; exact hq) (by rw [Int.natAbs_natCast]; omega)).read ⟨_, List.mem_singleton_self _, rfl⟩) ?_ (by intro p hp; first | (simp only [List.mem_singleton] at hp; subst hp; exact lks) | (simp only [List.mem_cons, List.not_mem_nil, or_false] at hp; rcases hp with rfl | rfl <;> exact lks)))
  repeat refine gO ?_
  (refine endF ttOk (.inr rfl) hS (by exact rfl) ?_ (fl' := [(4, .c (.pim [.sc (.bool false), .ints .u64 []])), (5, ivl .i64 3)]) (by exact rfl) (by exact rfl) (by exact rfl); (repeat' (first | refine fF ?_ ?_ | refine fS ?_ ?_ | exact True.intro); all_goals (try (first | exact kv | (refine kW (ov_of lks) rfl ?_ ?_)))))

abbrev eo (x : Int) : AObj := .cells 27 [.sc (.int .i64 x)]
theorem c_keep1 (z : Nm) (x f : Int) (hx : x = 0) : AProc Try.prog 38 [ivl .i64 f, ptr z] [(z, eo x)] [(z, eo f)] (.tup []) := by
  (refine aproc1 (mu := muF) Try.func38 rfl (by decide) rfl (by decide) (Nat.le_of_ble_eq_true rfl) (by simp [AVal.at, AVal.at1, Cell.at]) (by simp [AVal.at, AVal.at1, Cell.at]) (by simp [AVal.at, AVal.at1, Cell.at]) (by first | exact cells_nm0 | exact trivial | (intro x hx m; simp at hx; rcases hx with rfl | rfl <;> first | exact fun h => h | exact Leaf.cell_nm _ _)) (by first | exact cells_nm0 | exact trivial | (intro x hx m; simp at hx; rcases hx with rfl | rfl <;> first | exact fun h => h | exact Leaf.cell_nm _ _)) fun S hS => ?_; simp only [List.map_cons, List.map_nil, AVal.map, AVal.map1, Cell.map])
  repeat refine gO ?_
  ((first | refine zw1 ?_ | refine zw2 ?_ | refine zw3 ?_); refine s_cmp (fun h => ?_) (fun h => ?_))
  · repeat refine gO ?_
    (refine endP1 ttOk (fl' := []) (.inl rfl) hS lks (by first | exact cells_nm0 | exact trivial | (intro x hx m; simp at hx; rcases hx with rfl | rfl <;> first | exact fun h => h | exact Leaf.cell_nm _ _)) (by intro m hm; simp [lkS, addL, delL, Nm.isLoc, hm]) ?_ ?_ (by exact rfl) (by exact rfl) (by exact rfl))
    · rfl
    · (repeat' (first | refine fF ?_ ?_ | refine fS ?_ ?_ | exact True.intro); all_goals (try (first | exact kv | (refine kW (ov_of lks) rfl ?_ ?_))))
  · exact absurd hx h
theorem c_keep2 (z : Nm) (x f : Int) (hx : x ≠ 0) : AProc Try.prog 38 [ivl .i64 f, ptr z] [(z, eo x)] [(z, eo x)] (.tup []) := by
  (refine aproc1 (mu := muF) Try.func38 rfl (by decide) rfl (by decide) (Nat.le_of_ble_eq_true rfl) (by simp [AVal.at, AVal.at1, Cell.at]) (by simp [AVal.at, AVal.at1, Cell.at]) (by simp [AVal.at, AVal.at1, Cell.at]) (by first | exact cells_nm0 | exact trivial | (intro x hx m; simp at hx; rcases hx with rfl | rfl <;> first | exact fun h => h | exact Leaf.cell_nm _ _)) (by first | exact cells_nm0 | exact trivial | (intro x hx m; simp at hx; rcases hx with rfl | rfl <;> first | exact fun h => h | exact Leaf.cell_nm _ _)) fun S hS => ?_; simp only [List.map_cons, List.map_nil, AVal.map, AVal.map1, Cell.map])
  repeat refine gO ?_
  ((first | refine zw1 ?_ | refine zw2 ?_ | refine zw3 ?_); refine s_cmp (fun h => ?_) (fun h => ?_))
  · exact absurd h hx
  · repeat refine gO ?_
    (refine endP1 ttOk (fl' := []) (.inl rfl) hS lks (by first | exact cells_nm0 | exact trivial | (intro x hx m; simp at hx; rcases hx with rfl | rfl <;> first | exact fun h => h | exact Leaf.cell_nm _ _)) (by intro m hm; simp [lkS, addL, delL, Nm.isLoc, hm]) ?_ ?_ (by exact rfl) (by exact rfl) (by exact rfl))
    · rfl
    · (repeat' (first | refine fF ?_ ?_ | refine fS ?_ ?_ | exact True.intro); all_goals (try (first | exact kv | (refine kW (ov_of lks) rfl ?_ ?_))))
end Go.Proofs

/-
  recip: Step.
-/
namespace Go.Proofs
open Go Go.Abs Go.Nums
attribute [local irreducible] thenA blockA awp aw Stp EndF EndP EndN EndG aOps
set_option linter.unusedSimpArgs false
set_option maxHeartbeats 4000000

def stepN (s : Bool) (l : List Nat) (s2 : Bool) (l2 : List Nat) (b : Int) : Int := if rightB s2 l2 = false then 2 else wrongN s l b

theorem c_stepw (s : Bool) (l : List Nat) (s2 : Bool) (l2 : List Nat) (b : Int) (hl : l.length < 2 ^ 60) (hl2 : l2.length < 2 ^ 60) (hw : stepN s l s2 l2 b ≠ 0) : AFun Try.prog 11 [wi s l, wi s2 l2, ivl .i64 b] (.tup [w0, ivl .i64 (stepN s l s2 l2 b)]) := by
  refine afun (mu := muF) Try.func11 rfl (by decide) rfl (by decide) (Nat.le_of_ble_eq_true rfl) (by simp [nm0, AVal.at, AVal.at1, Cell.at]) (by simp [nm0, AVal.at, AVal.at1, Cell.at]) fun S hS => ?_
  repeat refine gO ?_
  ((first | refine zw1 ?_ | refine zw2 ?_ | refine zw3 ?_); refine s_call (c_right13 s2 l2 hl2) ?_)
  unfold stepN at *
  cases hr : rightB s2 l2 with
  | false =>
    repeat refine gO ?_
    ((first | refine zw1 ?_ | refine zw2 ?_ | refine zw3 ?_); refine s_proc (c_keep1 (.loc 8) 0 2 rfl) ?_ (by intro p hp; first | (simp only [List.mem_singleton] at hp; subst hp; exact lks) | (simp only [List.mem_cons, List.not_mem_nil, or_false] at hp; rcases hp with rfl | rfl <;> exact lks)))
    repeat refine gO ?_
    ((first | refine zw1 ?_ | refine zw2 ?_ | refine zw3 ?_); refine s_call (c_wrong s l b hl) ?_)
    repeat refine gO ?_
    ((first | refine zw1 ?_ | refine zw2 ?_ | refine zw3 ?_); refine s_proc (c_keep2 (.loc 8) 2 (wrongN s l b) (by decide)) ?_ (by intro p hp; first | (simp only [List.mem_singleton] at hp; subst hp; exact lks) | (simp only [List.mem_cons, List.not_mem_nil, or_false] at hp; rcases hp with rfl | rfl <;> exact lks)))
    repeat refine gO ?_
    ((first | refine zw1 ?_ | refine zw2 ?_ | refine zw3 ?_); refine s_cmp (fun h => ?_) (fun h => ?_))
    · repeat refine gO ?_
      refine awp_any ?_
      refine any2 (i := 0) (j := 1) (fuel := 3) (by decide +kernel) (by exact rfl) (by exact rfl) ?_ ?_
      · repeat refine gO ?_
        refine any2 (i := 1) (j := 2) (fuel := 2) (by decide +kernel) (by exact rfl) (by exact rfl) ?_ ?_
        · repeat refine gO ?_
          refine any1 (i := 2) (fuel := 1) (by decide +kernel) (by exact rfl) ?_
          repeat refine gO ?_
          refine any1 (i := 3) (fuel := 0) (by decide +kernel) (by exact rfl) ?_
          repeat refine gO ?_
          refine any0 (by decide +kernel) ?_
          repeat refine gO ?_
          (refine endF ttOk (.inr rfl) hS (by exact rfl) ?_ (fl' := [(6, .c (.pim [.sc (.bool false), .ints .u64 []])), (7, ivl .i64 2)]) (by exact rfl) (by exact rfl) (by exact rfl); (repeat' (first | refine fF ?_ ?_ | refine fS ?_ ?_ | exact True.intro); all_goals (try (first | exact kv | (refine kW (ov_of lks) rfl ?_ ?_)))))
        · repeat refine gO ?_
          refine any1 (i := 1) (fuel := 1) (by decide +kernel) (by exact rfl) ?_
          repeat refine gO ?_
          refine any1 (i := 3) (fuel := 0) (by decide +kernel) (by exact rfl) ?_
          repeat refine gO ?_
          refine any0 (by decide +kernel) ?_
          repeat refine gO ?_
          (refine endF ttOk (.inr rfl) hS (by exact rfl) ?_ (fl' := [(6, .c (.pim [.sc (.bool false), .ints .u64 []])), (7, ivl .i64 2)]) (by exact rfl) (by exact rfl) (by exact rfl); (repeat' (first | refine fF ?_ ?_ | refine fS ?_ ?_ | exact True.intro); all_goals (try (first | exact kv | (refine kW (ov_of lks) rfl ?_ ?_)))))
      · repeat refine gO ?_
        refine any1 (i := 0) (fuel := 2) (by decide +kernel) (by exact rfl) ?_
        repeat refine gO ?_
        refine any1 (i := 2) (fuel := 1) (by decide +kernel) (by exact rfl) ?_
        repeat refine gO ?_
        refine any1 (i := 3) (fuel := 0) (by decide +kernel) (by exact rfl) ?_
        repeat refine gO ?_
        refine any0 (by decide +kernel) ?_
        repeat refine gO ?_
        (refine endF ttOk (.inr rfl) hS (by exact rfl) ?_ (fl' := [(6, .c (.pim [.sc (.bool false), .ints .u64 []])), (7, ivl .i64 2)]) (by exact rfl) (by exact rfl) (by exact rfl); (repeat' (first | refine fF ?_ ?_ | refine fS ?_ ?_ | exact True.intro); all_goals (try (first | exact kv | (refine kW (ov_of lks) rfl ?_ ?_)))))
    · exact absurd (by decide) h
  | true =>
    rw [hr, if_neg (by decide)] at hw
    repeat refine gO ?_
    ((first | refine zw1 ?_ | refine zw2 ?_ | refine zw3 ?_); refine s_call (c_wrong s l b hl) ?_)
    repeat refine gO ?_
    ((first | refine zw1 ?_ | refine zw2 ?_ | refine zw3 ?_); refine s_proc (c_keep1 (.loc 8) 0 (wrongN s l b) rfl) ?_ (by intro p hp; first | (simp only [List.mem_singleton] at hp; subst hp; exact lks) | (simp only [List.mem_cons, List.not_mem_nil, or_false] at hp; rcases hp with rfl | rfl <;> exact lks)))
    repeat refine gO ?_
    ((first | refine zw1 ?_ | refine zw2 ?_ | refine zw3 ?_); refine s_cmp (fun h => ?_) (fun h => ?_))
    · repeat refine gO ?_
      refine awp_any ?_
      refine any2 (i := 0) (j := 1) (fuel := 3) (by decide +kernel) (by exact rfl) (by exact rfl) ?_ ?_
      · repeat refine gO ?_
        refine any2 (i := 1) (j := 2) (fuel := 2) (by decide +kernel) (by exact rfl) (by exact rfl) ?_ ?_
        · repeat refine gO ?_
          refine any1 (i := 2) (fuel := 1) (by decide +kernel) (by exact rfl) ?_
          repeat refine gO ?_
          refine any1 (i := 3) (fuel := 0) (by decide +kernel) (by exact rfl) ?_
          repeat refine gO ?_
          refine any0 (by decide +kernel) ?_
          repeat refine gO ?_
          (refine endF ttOk (.inr rfl) hS (by exact rfl) ?_ (fl' := [(6, .c (.pim [.sc (.bool false), .ints .u64 []])), (7, ivl .i64 (wrongN s l b))]) (by exact rfl) (by exact rfl) (by exact rfl); (repeat' (first | refine fF ?_ ?_ | refine fS ?_ ?_ | exact True.intro); all_goals (try (first | exact kv | (refine kW (ov_of lks) rfl ?_ ?_)))))
        · repeat refine gO ?_
          refine any1 (i := 1) (fuel := 1) (by decide +kernel) (by exact rfl) ?_
          repeat refine gO ?_
          refine any1 (i := 3) (fuel := 0) (by decide +kernel) (by exact rfl) ?_
          repeat refine gO ?_
          refine any0 (by decide +kernel) ?_
          repeat refine gO ?_
          (refine endF ttOk (.inr rfl) hS (by exact rfl) ?_ (fl' := [(6, .c (.pim [.sc (.bool false), .ints .u64 []])), (7, ivl .i64 (wrongN s l b))]) (by exact rfl) (by exact rfl) (by exact rfl); (repeat' (first | refine fF ?_ ?_ | refine fS ?_ ?_ | exact True.intro); all_goals (try (first | exact kv | (refine kW (ov_of lks) rfl ?_ ?_)))))
      · repeat refine gO ?_
        refine any1 (i := 0) (fuel := 2) (by decide +kernel) (by exact rfl) ?_
        repeat refine gO ?_
        refine any1 (i := 2) (fuel := 1) (by decide +kernel) (by exact rfl) ?_
        repeat refine gO ?_
        refine any1 (i := 3) (fuel := 0) (by decide +kernel) (by exact rfl) ?_
        repeat refine gO ?_
        refine any0 (by decide +kernel) ?_
        repeat refine gO ?_
        (refine endF ttOk (.inr rfl) hS (by exact rfl) ?_ (fl' := [(6, .c (.pim [.sc (.bool false), .ints .u64 []])), (7, ivl .i64 (wrongN s l b))]) (by exact rfl) (by exact rfl) (by exact rfl); (repeat' (first | refine fF ?_ ?_ | refine fS ?_ ?_ | exact True.intro); all_goals (try (first | exact kv | (refine kW (ov_of lks) rfl ?_ ?_)))))
    · exact absurd hw h

/-- What a step yields. -/
def stepV (d : Nat) (r : Int) (b : Nat) : Int := ((2 : Int) ^ b - d * r) * r / 2 ^ b + r

theorem sub_len (n m : Int) : (digs B (n - m).natAbs).length ≤ max (digs B n.natAbs).length (digs B m.natAbs).length + 1 :=
  Nat.le_trans (len_mono hB (show (n - m).natAbs ≤ n.natAbs + m.natAbs by omega)) (digs_add_le _ _)
theorem add_len (n m : Int) : (digs B (n + m).natAbs).length ≤ max (digs B n.natAbs).length (digs B m.natAbs).length + 1 :=
  Nat.le_trans (len_mono hB (show (n + m).natAbs ≤ n.natAbs + m.natAbs by omega)) (digs_add_le _ _)
theorem mul_len (n m : Int) : (digs B (n * m).natAbs).length ≤ (digs B n.natAbs).length + (digs B m.natAbs).length := by
  rw [Int.natAbs_mul]; exact digs_mul_le _ _
theorem shr_len (n : Int) (k : Nat) : (digs B (n / 2 ^ k).natAbs).length ≤ (digs B n.natAbs).length + 2 := by
  refine Nat.le_trans (len_mono hB (m := n.natAbs + 1) ?_) (Nat.le_trans (digs_add_le n.natAbs 1) ?_)
  · have h : (0 : Int) < 2 ^ k := Int.pow_pos (by decide)
    rcases Int.le_total 0 n with q | q
    · have h1 := Int.ediv_nonneg q (Int.le_of_lt h)
      have h2 := Int.ediv_le_self (2 ^ k) q
      omega
    · have h1 : n ≤ n / 2 ^ k := by
        rw [Int.le_ediv_iff_mul_le h]
        have : n * 2 ^ k ≤ n * 1 := Int.mul_le_mul_of_nonpos_left q (by omega)
        omega
      have h2 : n / 2 ^ k ≤ 0 := by
        have := Int.ediv_le_ediv h q
        simpa using this
      omega
  · rw [digs_one]; show max _ 1 + 1 ≤ _; omega

theorem c_step1 (d b : Nat) (r : Int) (hd0 : 0 < d) (hd : (digs B d).length ≤ 4096) (hr : (digs B r.natAbs).length ≤ 4096) (hb : b ≤ 262144) (hv : (digs B (stepV d r b).natAbs).length ≤ 4096) : AFun Try.prog 11 [w1 d, wz r, iv b] (.tup [wz (stepV d r b), ivl .i64 0]) := by
  have hp : (digs B ((2 : Int) ^ b).natAbs).length ≤ 4097 := by
    rw [show ((2 : Int) ^ b).natAbs = 2 ^ b by simp [Int.natAbs_pow]]; exact pow_len b hb
  refine afun (mu := muF) Try.func11 rfl (by decide) rfl (by decide) (Nat.le_of_ble_eq_true rfl) (by simp [nm0, AVal.at, AVal.at1, Cell.at]) (by simp [nm0, AVal.at, AVal.at1, Cell.at]) fun S hS => ?_
  repeat refine gO ?_
  ((first | refine zw1 ?_ | refine zw2 ?_ | refine zw3 ?_); refine s_call (c_right13 (decide (r < 0)) (digs B r.natAbs) (by omega)) ?_)
  rw [right_digs _ _ hr (by simp; omega)]
  repeat refine gO ?_
  ((first | refine zw1 ?_ | refine zw2 ?_ | refine zw3 ?_); refine s_call (c_wrong false (digs B d) b (by omega)) ?_)
  rw [wrong_ok d b hd0 hd hb]
  repeat refine gO ?_
  ((first | refine zw1 ?_ | refine zw2 ?_ | refine zw3 ?_); refine s_proc (c_keep1 (.loc 8) 0 0 rfl) ?_ (by intro p hp; first | (simp only [List.mem_singleton] at hp; subst hp; exact lks) | (simp only [List.mem_cons, List.not_mem_nil, or_false] at hp; rcases hp with rfl | rfl <;> exact lks)))
  repeat refine gO ?_
  ((first | refine zw1 ?_ | refine zw2 ?_ | refine zw3 ?_); refine s_cmp (fun h => ?_) (fun h => ?_))
  · exact absurd rfl h
  repeat refine gO ?_
  ((first | refine zw1 ?_ | refine zw2 ?_ | refine zw3 ?_); refine s_call ((c_exint (decide (r < 0)) (digs B r.natAbs) (rng_digs hB _) (by omega) (by rw [val_digs hB]; simp; omega)).pim) ?_)
  rw [show sg (decide (r < 0)) (val B (digs B r.natAbs)) = r by rw [val_digs hB, sg_same]]
  repeat refine gO ?_
  ((first | refine zw1 ?_ | refine zw2 ?_ | refine zw3 ?_); refine s_new (c_one b hb) ?_)
  repeat refine gO ?_
  ((first | refine zw1 ?_ | refine zw2 ?_ | refine zw3 ?_); refine s_call ((c_exint false (digs B d) (rng_digs hB d) (by omega) (by simp)).pim) ?_)
  rw [show sg false (val B (digs B d)) = (d : Int) by rw [val_digs hB]; rfl]
  repeat refine gO ?_
  ((first | refine zw1 ?_ | refine zw2 ?_ | refine zw3 ?_); refine s_proc (c_mul (.loc 33) (.sc (.bool false)) (.sc (.slice none 0 0)) _ _ d r (.im _) (.im _) (by rw [Int.natAbs_natCast]; omega) (by omega)) ?_ (by intro p hp; first | (simp only [List.mem_singleton] at hp; subst hp; exact lks) | (simp only [List.mem_cons, List.not_mem_nil, or_false] at hp; rcases hp with rfl | rfl <;> exact lks)))
  ((first | refine aw_fz 33 ?_ ?_ | refine awp_fz 33 ?_ ?_); rotate_left; · (repeat' (first | exact True.intro | refine And.intro ?_ ?_)) <;> first | (show _ ≤ _; simp; done) | (show _ ≤ _; simp; omega) | (show _ ≤ _; omega))
  have h1 := mul_len d r
  rw [Int.natAbs_natCast] at h1
  ((first | refine zw1 ?_ | refine zw2 ?_ | refine zw3 ?_); refine s_proc (c_sub (.loc 30) _ _ _ _ (2 ^ b) (d * r) (.self _ rfl rfl) rfl (by omega) (by omega)) ?_ (by intro p hp; first | (simp only [List.mem_singleton] at hp; subst hp; exact lks) | (simp only [List.mem_cons, List.not_mem_nil, or_false] at hp; rcases hp with rfl | rfl <;> exact lks)))
  repeat refine gO ?_
  have h2 := sub_len (2 ^ b) (d * r)
  ((first | refine zw1 ?_ | refine zw2 ?_ | refine zw3 ?_); refine s_proc (c_mul (.loc 30) _ _ _ _ (2 ^ b - d * r) r (.self _ rfl rfl) (.im _) (by omega) (by omega)) ?_ (by intro p hp; first | (simp only [List.mem_singleton] at hp; subst hp; exact lks) | (simp only [List.mem_cons, List.not_mem_nil, or_false] at hp; rcases hp with rfl | rfl <;> exact lks)))
  repeat refine gO ?_
  have h3 := mul_len (2 ^ b - d * r) r
  ((first | refine zw1 ?_ | refine zw2 ?_ | refine zw3 ?_); refine s_proc (c_rsh (.loc 30) _ _ _ ((2 ^ b - d * r) * r) b (.self _ rfl rfl) (by omega) (by omega)) ?_ (by intro p hp; first | (simp only [List.mem_singleton] at hp; subst hp; exact lks) | (simp only [List.mem_cons, List.not_mem_nil, or_false] at hp; rcases hp with rfl | rfl <;> exact lks)))
  repeat refine gO ?_
  have h4 := shr_len ((2 ^ b - d * r) * r) b
  have h5 := add_len ((2 ^ b - d * r) * r / 2 ^ b) r
  ((first | refine zw1 ?_ | refine zw2 ?_ | refine zw3 ?_); refine s_proc (c_add (.loc 30) _ _ _ _ ((2 ^ b - d * r) * r / 2 ^ b) r (.self _ rfl rfl) (.im _) (by omega) (by omega)) ?_ (by intro p hp; first | (simp only [List.mem_singleton] at hp; subst hp; exact lks) | (simp only [List.mem_cons, List.not_mem_nil, or_false] at hp; rcases hp with rfl | rfl <;> exact lks)))
  repeat refine gO ?_
  ((first | refine zw1 ?_ | refine zw2 ?_ | refine zw3 ?_); refine s_read ((c_told1 (.loc 30) (stepV d r b) hv).read ⟨_, List.mem_singleton_self _, rfl⟩) ?_ (by intro p hp; first | (simp only [List.mem_singleton] at hp; subst hp; exact lks) | (simp only [List.mem_cons, List.not_mem_nil, or_false] at hp; rcases hp with rfl | rfl <;> exact lks)))
  repeat refine gO ?_
  (refine endF ttOk (.inr rfl) hS (by exact rfl) ?_ (fl' := [(6, bp (stepV d r b)), (7, ivl .i64 0)]) (by exact rfl) (by exact rfl) (by exact rfl); (repeat' (first | refine fF ?_ ?_ | refine fS ?_ ?_ | exact True.intro); all_goals (try (first | exact kv | (refine kW (ov_of lks) rfl ?_ ?_)))))

theorem c_step2 (d b : Nat) (r : Int) (hd0 : 0 < d) (hd : (digs B d).length ≤ 4096) (hr : (digs B r.natAbs).length ≤ 4096) (hb : b ≤ 262144) (hv : 4096 < (digs B (stepV d r b).natAbs).length) : AFun Try.prog 11 [w1 d, wz r, iv b] (.tup [w0, ivl .i64 3]) := by
  have hp : (digs B ((2 : Int) ^ b).natAbs).length ≤ 4097 := by
    rw [show ((2 : Int) ^ b).natAbs = 2 ^ b by simp [Int.natAbs_pow]]; exact pow_len b hb
  refine afun (mu := muF) Try.func11 rfl (by decide) rfl (by decide) (Nat.le_of_ble_eq_true rfl) (by simp [nm0, AVal.at, AVal.at1, Cell.at]) (by simp [nm0, AVal.at, AVal.at1, Cell.at]) fun S hS => ?_
  repeat refine gO ?_
  ((first | refine zw1 ?_ | refine zw2 ?_ | refine zw3 ?_); refine s_call (c_right13 (decide (r < 0)) (digs B r.natAbs) (by omega)) ?_)
  rw [right_digs _ _ hr (by simp; omega)]
  repeat refine gO ?_
  ((first | refine zw1 ?_ | refine zw2 ?_ | refine zw3 ?_); refine s_call (c_wrong false (digs B d) b (by omega)) ?_)
  rw [wrong_ok d b hd0 hd hb]
  repeat refine gO ?_
  ((first | refine zw1 ?_ | refine zw2 ?_ | refine zw3 ?_); refine s_proc (c_keep1 (.loc 8) 0 0 rfl) ?_ (by intro p hp; first | (simp only [List.mem_singleton] at hp; subst hp; exact lks) | (simp only [List.mem_cons, List.not_mem_nil, or_false] at hp; rcases hp with rfl | rfl <;> exact lks)))
  repeat refine gO ?_
  ((first | refine zw1 ?_ | refine zw2 ?_ | refine zw3 ?_); refine s_cmp (fun h => ?_) (fun h => ?_))
  · exact absurd rfl h
  repeat refine gO ?_
  ((first | refine zw1 ?_ | refine zw2 ?_ | refine zw3 ?_); refine s_call ((c_exint (decide (r < 0)) (digs B r.natAbs) (rng_digs hB _) (by omega) (by rw [val_digs hB]; simp; omega)).pim) ?_)
  rw [show sg (decide (r < 0)) (val B (digs B r.natAbs)) = r by rw [val_digs hB, sg_same]]
  repeat refine gO ?_
  ((first | refine zw1 ?_ | refine zw2 ?_ | refine zw3 ?_); refine s_new (c_one b hb) ?_)
  repeat refine gO ?_
  ((first | refine zw1 ?_ | refine zw2 ?_ | refine zw3 ?_); refine s_call ((c_exint false (digs B d) (rng_digs hB d) (by omega) (by simp)).pim) ?_)
  rw [show sg false (val B (digs B d)) = (d : Int) by rw [val_digs hB]; rfl]
  repeat refine gO ?_
  ((first | refine zw1 ?_ | refine zw2 ?_ | refine zw3 ?_); refine s_proc (c_mul (.loc 33) (.sc (.bool false)) (.sc (.slice none 0 0)) _ _ d r (.im _) (.im _) (by rw [Int.natAbs_natCast]; omega) (by omega)) ?_ (by intro p hp; first | (simp only [List.mem_singleton] at hp; subst hp; exact lks) | (simp only [List.mem_cons, List.not_mem_nil, or_false] at hp; rcases hp with rfl | rfl <;> exact lks)))
  ((first | refine aw_fz 33 ?_ ?_ | refine awp_fz 33 ?_ ?_); rotate_left; · (repeat' (first | exact True.intro | refine And.intro ?_ ?_)) <;> first | (show _ ≤ _; simp; done) | (show _ ≤ _; simp; omega) | (show _ ≤ _; omega))
  have h1 := mul_len d r
  rw [Int.natAbs_natCast] at h1
  ((first | refine zw1 ?_ | refine zw2 ?_ | refine zw3 ?_); refine s_proc (c_sub (.loc 30) _ _ _ _ (2 ^ b) (d * r) (.self _ rfl rfl) rfl (by omega) (by omega)) ?_ (by intro p hp; first | (simp only [List.mem_singleton] at hp; subst hp; exact lks) | (simp only [List.mem_cons, List.not_mem_nil, or_false] at hp; rcases hp with rfl | rfl <;> exact lks)))
  repeat refine gO ?_
  have h2 := sub_len (2 ^ b) (d * r)
  ((first | refine zw1 ?_ | refine zw2 ?_ | refine zw3 ?_); refine s_proc (c_mul (.loc 30) _ _ _ _ (2 ^ b - d * r) r (.self _ rfl rfl) (.im _) (by omega) (by omega)) ?_ (by intro p hp; first | (simp only [List.mem_singleton] at hp; subst hp; exact lks) | (simp only [List.mem_cons, List.not_mem_nil, or_false] at hp; rcases hp with rfl | rfl <;> exact lks)))
  repeat refine gO ?_
  have h3 := mul_len (2 ^ b - d * r) r
  ((first | refine zw1 ?_ | refine zw2 ?_ | refine zw3 ?_); refine s_proc (c_rsh (.loc 30) _ _ _ ((2 ^ b - d * r) * r) b (.self _ rfl rfl) (by omega) (by omega)) ?_ (by intro p hp; first | (simp only [List.mem_singleton] at hp; subst hp; exact lks) | (simp only [List.mem_cons, List.not_mem_nil, or_false] at hp; rcases hp with rfl | rfl <;> exact lks)))
  repeat refine gO ?_
  have h4 := shr_len ((2 ^ b - d * r) * r) b
  have h5 := add_len ((2 ^ b - d * r) * r / 2 ^ b) r
  ((first | refine zw1 ?_ | refine zw2 ?_ | refine zw3 ?_); refine s_proc (c_add (.loc 30) _ _ _ _ ((2 ^ b - d * r) * r / 2 ^ b) r (.self _ rfl rfl) (.im _) (by omega) (by omega)) ?_ (by intro p hp; first | (simp only [List.mem_singleton] at hp; subst hp; exact lks) | (simp only [List.mem_cons, List.not_mem_nil, or_false] at hp; rcases hp with rfl | rfl <;> exact lks)))
  repeat refine gO ?_
  ((first | refine zw1 ?_ | refine zw2 ?_ | refine zw3 ?_); refine s_read ((c_told2 (.loc 30) (stepV d r b) hv (by unfold stepV; omega)).read ⟨_, List.mem_singleton_self _, rfl⟩) ?_ (by intro p hp; first | (simp only [List.mem_singleton] at hp; subst hp; exact lks) | (simp only [List.mem_cons, List.not_mem_nil, or_false] at hp; rcases hp with rfl | rfl <;> exact lks)))
  repeat refine gO ?_
  (refine endF ttOk (.inr rfl) hS (by exact rfl) ?_ (fl' := [(6, .c (.pim [.sc (.bool false), .ints .u64 []])), (7, ivl .i64 3)]) (by exact rfl) (by exact rfl) (by exact rfl); (repeat' (first | refine fF ?_ ?_ | refine fS ?_ ?_ | exact True.intro); all_goals (try (first | exact kv | (refine kW (ov_of lks) rfl ?_ ?_)))))
end Go.Proofs
