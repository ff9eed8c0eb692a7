/-
  An abstract machine for this program, and contracts of its functions: part Mak (no statement by itself).
-/
import Derived.Test.YtdbjhcgogmfghaaDoorMaj
set_option linter.unusedVariables false
set_option linter.unusedSimpArgs false
set_option linter.unnecessarySimpa false

/-
  big: trim and left where the lists are somebody's own.
-/
namespace Go.Proofs
open Go Go.Abs Go.Nums
attribute [local irreducible] thenA blockA awp aw Stp EndF EndP EndN EndG aOps
set_option linter.unusedSimpArgs false

abbrev oi (l : List Nat) : AObj := .ints 30 .u64 (U l)

theorem c_trimP (z : Nm) (l : List Nat) (len cm : Nat) (hl : rng B l) (hs : len < 2 ^ 62) (hle : len ≤ l.length) (hcm : len ≤ cm) :
    AProc Tryd.prog 74 [.c (.win z 0 len cm)] [(z, oi l)] [(z, oi l)] (.c (.win z 0 (digs B (val B (l.take len))).length cm)) := by
  (refine aproc1 (mu := muF) Tryd.func74 rfl (by decide) rfl (by decide) (Nat.le_of_ble_eq_true rfl) (by simp [AVal.at, AVal.at1, Cell.at]) (by simp [AVal.at, AVal.at1, Cell.at]) (by simp [AVal.at, AVal.at1, Cell.at]) (by first | exact cells_nmZ | exact cells_nmF | exact cells_nm0 | exact ints_nm0 | (intro x hx m; simp [AObj.cls] at hx; rcases hx with rfl | rfl <;> first | exact fun h => h | exact Leaf.cell_nm _ _)) (by first | exact cells_nmZ | exact cells_nmF | exact cells_nm0 | exact ints_nm0 | (intro x hx m; simp [AObj.cls] at hx; rcases hx with rfl | rfl <;> first | exact fun h => h | exact Leaf.cell_nm _ _)) fun S hS => ?_; simp only [List.map_cons, List.map_nil, AVal.map, AVal.map1, Cell.map])
  repeat refine gO ?_
  have hU := U_len l
  refine awp_rep (ι := Nat) (fun i => ⟨lk' [(0, .c (.win (.out z) 0 i cm))], ov [(.out z, oi l)] (pushS S)⟩) (fun i => i ≤ len ∧ val B (l.take i) = val B (l.take len)) (fun i => i) len ⟨Nat.le_refl _, rfl⟩ (by (refine frz hS (by exact rfl) ?_ ?_; all_goals (repeat' (first | refine fF ?_ ?_ | refine fS ?_ ?_ | exact True.intro)); all_goals (try (first | exact kv | (refine kW (ov_of lks) rfl ?_ ?_))))) ?_
  rintro i ⟨hi, hv⟩
  have fin : (∀ h : l.take i ≠ [], (l.take i).getLast h ≠ 0) → i = (digs B (val B (l.take len))).length := fun h => by
    rw [← hv, digs_val hB (rng_take hl _) h]; simp; omega
  repeat refine gO ?_
  ((first | refine zw1 ?_ | refine zw2 ?_ | refine zw3 ?_); refine s_cmp (fun h1 => ?_) (fun h1 => ?_))
  · repeat refine gO ?_
    have e : ((i : Int) - 1).toNat = i - 1 := by omega
    rw [e, Nat.zero_add, U_get]
    ((first | refine zw1 ?_ | refine zw2 ?_ | refine zw3 ?_); refine s_cmp (fun h2 => ?_) (fun h2 => ?_))
    · repeat refine gO ?_
      refine ⟨i - 1, ?_, ⟨by omega, ?_⟩, by omega⟩
      · (refine frz hS (by exact rfl) ?_ ?_; all_goals (repeat' (first | refine fF ?_ ?_ | refine fS ?_ ?_ | exact True.intro)); all_goals (try (first | exact kv | (refine kW (ov_of lks) rfl ?_ ?_))))
      · rw [← hv, show i = (i - 1) + 1 by omega, val_take_succ, show l.getD (i - 1) 0 = 0 by omega]; simp
    · repeat refine gO ?_
      (refine endP1 ttOk (fl' := [(2, .c (.win (.out z) 0 (digs B (val B (l.take len))).length cm))]) (.inr rfl) hS lks (by first | exact cells_nmZ | exact cells_nmF | exact cells_nm0 | exact ints_nm0 | (intro x hx m; simp [AObj.cls] at hx; rcases hx with rfl | rfl <;> first | exact fun h => h | exact Leaf.cell_nm _ _)) (by intro m hm; simp [lkS, addL, delL, Nm.isLoc, hm]) ?_ ?_ (by exact rfl) (by exact rfl) (by exact rfl))
      · rfl
      · (repeat' (first | refine fF ?_ ?_ | refine fS ?_ ?_ | exact True.intro); all_goals (try (first | exact kv | (refine kW (ov_of lks) rfl ?_ ?_))))
        refine kWin (by simp [ov, lkS]) rfl (fin fun hne => ?_) rfl
        rw [getLast_getD hne]
        have e2 : (l.take i).length = i := by simp; omega
        rw [e2, List.getD_eq_getElem?_getD, List.getElem?_take_of_lt (by omega), ← List.getD_eq_getElem?_getD]
        omega
  · repeat refine gO ?_
    (refine endP1 ttOk (fl' := [(2, .c (.win (.out z) 0 (digs B (val B (l.take len))).length cm))]) (.inr rfl) hS lks (by first | exact cells_nmZ | exact cells_nmF | exact cells_nm0 | exact ints_nm0 | (intro x hx m; simp [AObj.cls] at hx; rcases hx with rfl | rfl <;> first | exact fun h => h | exact Leaf.cell_nm _ _)) (by intro m hm; simp [lkS, addL, delL, Nm.isLoc, hm]) ?_ ?_ (by exact rfl) (by exact rfl) (by exact rfl))
    · rfl
    · (repeat' (first | refine fF ?_ ?_ | refine fS ?_ ?_ | exact True.intro); all_goals (try (first | exact kv | (refine kW (ov_of lks) rfl ?_ ?_))))
      refine kWin (by simp [ov, lkS]) rfl (fin fun hne => ?_) rfl
      exfalso
      have : i = 0 := by omega
      subst this
      exact hne rfl

theorem c_trimW (z : Nm) (l : List Nat) (len cm : Nat) (hl : rng B l) (hs : len < 2 ^ 62) (hle : len ≤ l.length) (hcm : len ≤ cm) :
    ARead Tryd.prog 74 [.c (.win z 0 len cm)] [(z, oi l)] (.c (.win z 0 (digs B (val B (l.take len))).length cm)) :=
  (c_trimP z l len cm hl hs hle hcm).read ⟨_, List.mem_singleton_self _, rfl⟩

def padd (k n : Nat) : List Nat := digs B n ++ List.replicate (k - (digs B n).length) 0
theorem val_padd (k n : Nat) : val B (padd k n) = n := by rw [padd, val_append, val_digs hB, val_rep0]; simp
theorem len_padd {k n : Nat} (h : n < B ^ k) : (padd k n).length = k := by
  have := (digs_len hB).2 h
  simp [padd]; omega
theorem rng_padd (k n : Nat) : rng B (padd k n) := rng_append.2 ⟨rng_digs hB n, rng_rep (by decide) _⟩
theorem val_inj {b : Nat} (hb : 0 < b) : ∀ {l m : List Nat}, rng b l → rng b m → l.length = m.length → val b l = val b m → l = m
  | [], [], _, _, _, _ => rfl
  | x :: l, y :: m, h1, h2, h3, h4 => by
    rw [rng_cons] at h1 h2
    simp only [val_cons] at h4
    have e1 : x = y := by
      have := congrArg (· % b) h4
      simp only [Nat.add_mul_mod_self_left, Nat.mod_eq_of_lt h1.1, Nat.mod_eq_of_lt h2.1] at this
      exact this
    subst e1
    have e2 := Nat.eq_of_mul_eq_mul_left hb (Nat.add_left_cancel h4)
    rw [val_inj hb h1.2 h2.2 (by simpa using h3) e2]
  | [], _ :: _, _, _, h, _ => by simp at h
  | _ :: _, [], _, _, h, _ => by simp at h
theorem padd_eq {l : List Nat} (hr : rng B l) : l = padd l.length (val B l) :=
  val_inj (by decide) hr (rng_padd _ _) (len_padd (val_lt hr)).symm (val_padd _ _).symm

theorem c_leftW (p n : Nat) (hp0 : 0 < p) (hp : (digs B p).length < 2 ^ 38) (hn : n < 64) : AMade Tryd.prog 96 [us (digs B p), uv n] (fun z => .c (.win z 0 (digs B (p * 2 ^ n)).length ((digs B p).length + 1))) (oi (padd ((digs B p).length + 1) (p * 2 ^ n))) := by
  refine amade (mu := muF) Tryd.func96 rfl (by decide) rfl (by decide) (Nat.le_of_ble_eq_true rfl) (by simp [nm0, AVal.at, AVal.at1, Cell.at]) (by intros; rfl) (by intro n m h; exact (show n = m from h).symm) (by first | exact cells_nmZ | exact cells_nmF | exact cells_nm0 | exact ints_nm0 | (intro x hx m; simp [AObj.cls] at hx; rcases hx with rfl | rfl <;> first | exact fun h => h | exact Leaf.cell_nm _ _)) fun S hS => ?_
  have hlp := U_len (digs B p)
  have hl0 : 0 < (digs B p).length := Nat.pos_of_ne_zero fun h => by have := (digs_nil hB).1 (List.eq_nil_of_length_eq_zero h); omega
  repeat refine gO ?_
  ((first | refine zw1 ?_ | refine zw2 ?_ | refine zw3 ?_); refine s_cmp (fun g1 => ?_) (fun g1 => ?_))
  · exact absurd g1 (by omega)
  repeat refine gO ?_
  obtain ⟨m, hm⟩ : ∃ m, m = (digs B p).length := ⟨_, rfl⟩
  obtain ⟨s, hs⟩ : ∃ s, s = n % 64 := ⟨_, rfl⟩
  have hs64 : s < 64 := by omega
  have e1 : ((n / 64 : Nat) : Int).toNat = 0 := by omega
  have e2 : (((n / 64 : Nat) : Int) + ((U (digs B p)).length : Int) + 1).toNat = m + 1 := by omega
  refine awp_rep3 (fun (i : Nat) (o : List Nat) (low : Nat) => ⟨lk' [(0, us (digs B p)), (1, uv n), (5, .c (.win (.loc 21) 0 i (m + 1))), (6, uv low), (22, us (digs B p)), (23, iv m), (24, iv i)],
      ov [(.loc 21, .ints 30 .u64 (U (o ++ List.replicate (m + 1 - i) 0)))] (pushS S)⟩)
    (fun i o low => i ≤ m ∧ o.length = i ∧ rng B o ∧ low < 2 ^ s ∧ val B o + B ^ i * low = val B ((digs B p).take i) * 2 ^ s) (fun i _ _ => m - i)
    0 [] 0 ⟨Nat.zero_le _, rfl, rng_nil, Nat.two_pow_pos _, by simp [val]⟩ ?_ ?_
  · (refine frz hS (by exact rfl) ?_ ?_; all_goals (repeat' (first | refine fF ?_ ?_ | refine fS ?_ ?_ | exact True.intro)); all_goals (try (first | exact kv | (refine kW (ov_of lks) rfl ?_ ?_))))
    · rw [e2]; exact kO (U_rep _ 0)
  rintro i o low ⟨h1, h2, h3, h4, h5⟩
  have hfill : ∀ w : Nat, List.take i (U (o ++ List.replicate (m + 1 - i) 0)) ++ [(w : Int)] ++ List.drop (i + [(w : Int)].length) (U (o ++ List.replicate (m + 1 - i) 0)) = U ((o ++ [w]) ++ List.replicate (m + 1 - (i + 1)) 0) := fun w => by
    have := fill_next 0 m (w := w) h2 h1
    simpa using this
  repeat refine gO ?_
  ((first | refine zw1 ?_ | refine zw2 ?_ | refine zw3 ?_); refine s_cmp (fun h6 => ?_) (fun h6 => ?_))
  · repeat refine gO ?_
    have ei : (i : Int).toNat = i := by omega
    have hx := getD_lt (b := B) (by decide) (rng_digs hB p) i
    rw [ei, U_get]
    obtain ⟨x, hxe⟩ : ∃ x, x = (digs B p).getD i 0 := ⟨_, rfl⟩
    rw [← hxe] at hx ⊢
    have hx' : x < 18446744073709551616 := hx
    obtain ⟨q1, q2, q3⟩ := push_up hx' hs64 h4
    have hl64 : low < 18446744073709551616 := Nat.lt_of_lt_of_le h4 (Nat.pow_le_pow_right (by decide) (show s ≤ 64 by omega))
    (first | refine stp_shlN (x) (s) (by exact rfl) (by exact rfl) (by first | exact True.intro | omega | (simp only [and_true, List.length_map, List.length_replicate, List.length_set, List.length_append, List.length_cons, List.length_nil, List.length_take, List.length_drop] at *; omega)) (by first | exact True.intro | omega | (simp only [and_true, List.length_map, List.length_replicate, List.length_set, List.length_append, List.length_cons, List.length_nil, List.length_take, List.length_drop] at *; omega)) ?_ | refine aw_cons (stp_shlN (x) (s) (by exact rfl) (by exact rfl) (by first | exact True.intro | omega | (simp only [and_true, List.length_map, List.length_replicate, List.length_set, List.length_append, List.length_cons, List.length_nil, List.length_take, List.length_drop] at *; omega)) (by first | exact True.intro | omega | (simp only [and_true, List.length_map, List.length_replicate, List.length_set, List.length_append, List.length_cons, List.length_nil, List.length_take, List.length_drop] at *; omega)) ?_) | refine aOps_cons (stp_shlN (x) (s) (by exact rfl) (by exact rfl) (by first | exact True.intro | omega | (simp only [and_true, List.length_map, List.length_replicate, List.length_set, List.length_append, List.length_cons, List.length_nil, List.length_take, List.length_drop] at *; omega)) (by first | exact True.intro | omega | (simp only [and_true, List.length_map, List.length_replicate, List.length_set, List.length_append, List.length_cons, List.length_nil, List.length_take, List.length_drop] at *; omega)) ?_))
    repeat refine gO ?_
    (first | refine stp_orN (x * 2 ^ s % 18446744073709551616) (low) (by exact rfl) (by exact rfl) (by first | exact True.intro | omega | (simp only [and_true, List.length_map, List.length_replicate, List.length_set, List.length_append, List.length_cons, List.length_nil, List.length_take, List.length_drop] at *; omega)) (by first | exact True.intro | omega | (simp only [and_true, List.length_map, List.length_replicate, List.length_set, List.length_append, List.length_cons, List.length_nil, List.length_take, List.length_drop] at *; omega)) (by first | exact True.intro | omega | (simp only [and_true, List.length_map, List.length_replicate, List.length_set, List.length_append, List.length_cons, List.length_nil, List.length_take, List.length_drop] at *; omega)) (by first | exact True.intro | omega | (simp only [and_true, List.length_map, List.length_replicate, List.length_set, List.length_append, List.length_cons, List.length_nil, List.length_take, List.length_drop] at *; omega)) ?_ | refine aw_cons (stp_orN (x * 2 ^ s % 18446744073709551616) (low) (by exact rfl) (by exact rfl) (by first | exact True.intro | omega | (simp only [and_true, List.length_map, List.length_replicate, List.length_set, List.length_append, List.length_cons, List.length_nil, List.length_take, List.length_drop] at *; omega)) (by first | exact True.intro | omega | (simp only [and_true, List.length_map, List.length_replicate, List.length_set, List.length_append, List.length_cons, List.length_nil, List.length_take, List.length_drop] at *; omega)) (by first | exact True.intro | omega | (simp only [and_true, List.length_map, List.length_replicate, List.length_set, List.length_append, List.length_cons, List.length_nil, List.length_take, List.length_drop] at *; omega)) (by first | exact True.intro | omega | (simp only [and_true, List.length_map, List.length_replicate, List.length_set, List.length_append, List.length_cons, List.length_nil, List.length_take, List.length_drop] at *; omega)) ?_) | refine aOps_cons (stp_orN (x * 2 ^ s % 18446744073709551616) (low) (by exact rfl) (by exact rfl) (by first | exact True.intro | omega | (simp only [and_true, List.length_map, List.length_replicate, List.length_set, List.length_append, List.length_cons, List.length_nil, List.length_take, List.length_drop] at *; omega)) (by first | exact True.intro | omega | (simp only [and_true, List.length_map, List.length_replicate, List.length_set, List.length_append, List.length_cons, List.length_nil, List.length_take, List.length_drop] at *; omega)) (by first | exact True.intro | omega | (simp only [and_true, List.length_map, List.length_replicate, List.length_set, List.length_append, List.length_cons, List.length_nil, List.length_take, List.length_drop] at *; omega)) (by first | exact True.intro | omega | (simp only [and_true, List.length_map, List.length_replicate, List.length_set, List.length_append, List.length_cons, List.length_nil, List.length_take, List.length_drop] at *; omega)) ?_))
    repeat refine gO ?_
    obtain ⟨w, hw⟩ : ∃ w, w = (x * 2 ^ s % 18446744073709551616 ||| low) := ⟨_, rfl⟩
    rw [← hw] at q1 q3 ⊢
    have hL : (U (o ++ List.replicate (m + 1 - i) 0)).length = m + 1 := by rw [U_len]; simp; omega
    refine zw1 (s_appR ttOk (Y := [(w : Int)]) ?_ ⟨?_, ?_⟩ ?_)
    · exact srcE_win (L := [(w : Int)]) lks (by simp)
    · simp; omega
    · rw [hL]; simp; omega
    repeat refine gO ?_
    (first | refine stp_shrN (x) (64 - s) (by exact rfl) (by exact rfl) (by first | exact True.intro | omega | (simp only [and_true, List.length_map, List.length_replicate, List.length_set, List.length_append, List.length_cons, List.length_nil, List.length_take, List.length_drop] at *; omega)) (by first | exact True.intro | omega | (simp only [and_true, List.length_map, List.length_replicate, List.length_set, List.length_append, List.length_cons, List.length_nil, List.length_take, List.length_drop] at *; omega)) (by first | exact True.intro | omega | (simp only [and_true, List.length_map, List.length_replicate, List.length_set, List.length_append, List.length_cons, List.length_nil, List.length_take, List.length_drop] at *; omega)) ?_ | refine aw_cons (stp_shrN (x) (64 - s) (by exact rfl) (by exact rfl) (by first | exact True.intro | omega | (simp only [and_true, List.length_map, List.length_replicate, List.length_set, List.length_append, List.length_cons, List.length_nil, List.length_take, List.length_drop] at *; omega)) (by first | exact True.intro | omega | (simp only [and_true, List.length_map, List.length_replicate, List.length_set, List.length_append, List.length_cons, List.length_nil, List.length_take, List.length_drop] at *; omega)) (by first | exact True.intro | omega | (simp only [and_true, List.length_map, List.length_replicate, List.length_set, List.length_append, List.length_cons, List.length_nil, List.length_take, List.length_drop] at *; omega)) ?_) | refine aOps_cons (stp_shrN (x) (64 - s) (by exact rfl) (by exact rfl) (by first | exact True.intro | omega | (simp only [and_true, List.length_map, List.length_replicate, List.length_set, List.length_append, List.length_cons, List.length_nil, List.length_take, List.length_drop] at *; omega)) (by first | exact True.intro | omega | (simp only [and_true, List.length_map, List.length_replicate, List.length_set, List.length_append, List.length_cons, List.length_nil, List.length_take, List.length_drop] at *; omega)) (by first | exact True.intro | omega | (simp only [and_true, List.length_map, List.length_replicate, List.length_set, List.length_append, List.length_cons, List.length_nil, List.length_take, List.length_drop] at *; omega)) ?_))
    repeat refine gO ?_
    refine ⟨i + 1, o ++ [w], x / 2 ^ (64 - s), ?_,
      ⟨by omega, by simp; omega, rng_append.2 ⟨h3, by simp [rng]; exact q3⟩, q2, ?_⟩, by omega⟩
    · (refine frz hS (by exact rfl) ?_ ?_; all_goals (repeat' (first | refine fF ?_ ?_ | refine fS ?_ ?_ | exact True.intro)); all_goals (try (first | exact kv | (refine kW (ov_of lks) rfl ?_ ?_))))
      exact kO (hfill w)
    · rw [val_snoc, val_take_succ, ← hxe, h2, Nat.add_mul, ← h5, powS, Nat.mul_assoc (B ^ i) B, Nat.add_assoc, ← Nat.mul_add, show w + B * (x / 2 ^ (64 - s)) = x * 2 ^ s + low from q1, Nat.mul_add, Nat.mul_assoc]
      omega
  · repeat refine gO ?_
    have hi : i = m := by omega
    subst hi
    have hL : (U (o ++ List.replicate (i + 1 - i) 0)).length = i + 1 := by rw [U_len]; simp; omega
    refine zw1 (s_appR ttOk (Y := [(low : Int)]) ?_ ⟨?_, ?_⟩ ?_)
    · exact srcE_win (L := [(low : Int)]) lks (by simp)
    · simp
    · rw [hL]; simp
    have hl64 : low < B := Nat.lt_of_lt_of_le h4 (Nat.pow_le_pow_right (by decide) (show s ≤ 64 by omega))
    have hr : rng B (o ++ [low]) := rng_append.2 ⟨h3, by simp [rng]; exact hl64⟩
    rw [hfill low, Nat.sub_self, List.replicate_zero, List.append_nil]
    have hv : val B (o ++ [low]) = p * 2 ^ n := by
      rw [take_all (by omega), val_digs hB] at h5
      rw [val_snoc, h2, h5, hs, Nat.mod_eq_of_lt hn]
    have hlen : (o ++ [low]).length = i + 1 := by simp; omega
    have hc := c_trimW (.loc 21) (o ++ [low]) (i + 1) (i + 1) hr (by omega) (by omega) (Nat.le_refl _)
    rw [take_all (by omega), hv] at hc
    ((first | refine zw1 ?_ | refine zw2 ?_ | refine zw3 ?_); refine s_read (hc) ?_ (by intro p hp; first | (simp only [List.mem_singleton] at hp; subst hp; exact lks) | (simp only [List.mem_cons, List.not_mem_nil, or_false] at hp; rcases hp with rfl | rfl <;> exact lks)))
    repeat refine gO ?_
    (refine endG ttOk (l := (.loc 21)) (fl' := [(4, .c (.win (.loc 21) 0 (digs B (p * 2 ^ n)).length ((digs B p).length + 1)))]) (.inr rfl) hS (by exact rfl) (by exact rfl) ?_ ?_ (by exact rfl) (by exact rfl) (by exact rfl); all_goals (repeat' (first | refine fF ?_ ?_ | refine fS ?_ ?_ | exact True.intro); all_goals (try (first | exact kv | (refine kW (ov_of lks) rfl ?_ ?_)))))
    · refine kO (congrArg U ?_)
      have := padd_eq hr
      rw [hv, hlen] at this
      rw [this, hm]
end Go.Proofs
