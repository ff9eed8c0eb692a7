/-
  The statement that is named at its end, proved of every input.
-/
import Derived.Test.YtkhnekfipbbppaaMF
set_option linter.unusedVariables false
set_option linter.unusedSimpArgs false

/-
  RecipNumbers: lists of structs.
-/
namespace Go.Abs
open Go

def takeF : List Cell → Nat → Nat → Option (List Cell)
  | _, 0, 0 => some []
  | c :: cs, 0, n + 1 => match takeF cs 0 n with | some r => some (c :: r) | none => none
  | _ :: cs, k + 1, n => takeF cs k n
  | [], _, _ => none
theorem takeF_spec : ∀ {cs : List Cell} {off n : Nat} {ys : List Cell}, takeF cs off n = some ys → (cs.drop off).take n = ys ∧ off + n ≤ cs.length
  | cs, 0, 0, ys, h => by
    have : some [] = some ys := by cases cs <;> exact h
    simp only [Option.some.injEq] at this
    subst this; simp
  | [], 0, n + 1, ys, h => by simp [takeF] at h
  | [], k + 1, n, ys, h => by simp [takeF] at h
  | c :: cs, 0, n + 1, ys, h => by
    simp only [takeF] at h
    split at h
    · rename_i r hr
      obtain ⟨h1, h2⟩ := takeF_spec hr
      simp only [Option.some.injEq] at h
      subst h
      simp at h1 h2 ⊢
      exact ⟨h1, h2⟩
    · cases h
  | c :: cs, k + 1, n, ys, h => by
    simp only [takeF] at h
    obtain ⟨h1, h2⟩ := takeF_spec h
    simp at h1 h2 ⊢
    exact ⟨h1, by omega⟩

def fillG (fl : FL) (sz : Nat) : List Cell → List (Nat × Operand) → Option (List Cell)
  | cs, [] => some cs
  | cs, (i, x) :: r => match opO fl x with
    | some (.agg ys) => match Nat.beq ys.length sz, splF cs (i * sz) ys with
      | true, some cs' => fillG fl sz cs' r
      | _, _ => none
    | _ => none
theorem fillG_spec {fl : FL} {sz : Nat} : ∀ {ps : List (Nat × Operand)} {cs out : List Cell}, fillG fl sz cs ps = some out → fillE (fun i => some (i * sz, sz)) (look (lk' fl)) cs ps out
  | [], cs, out, h => by simp only [fillG, Option.some.injEq] at h; exact h.symm
  | (i, x) :: r, cs, out, h => by
    simp only [fillG] at h
    split at h
    · rename_i ys h1
      split at h
      · rename_i cs' h2 h3
        obtain ⟨h4, h5⟩ := splF_spec h3
        have h2 := Nat.eq_of_beq_eq_true h2
        have ih := fillG_spec h
        exact ⟨i * sz, sz, rfl, by rw [opO_look h1]; trivial, by rw [opO_look h1]; exact h2, by omega, by rw [opO_look h1]; show fillE _ _ (spl cs (i * sz) ys) r out; rw [h4]; exact ih⟩
      · cases h
    · cases h

theorem aleNil (s : Bool) : ALe (.agg [.sc (.bool s), .sc (.slice none 0 0)]) (.agg [.sc (.bool s), .ints .u64 []]) := by
  refine ⟨rfl, fun i x y h1 h2 => ?_⟩
  match i with
  | 0 => simp only [List.getElem?_cons_zero, Option.some.injEq] at h1 h2; subst h1; subst h2; exact CLe.refl _
  | 1 => simp only [List.getElem?_cons_succ, List.getElem?_cons_zero, Option.some.injEq] at h1 h2; subst h1; subst h2; exact .inr (.inl ⟨_, rfl, rfl⟩)
  | i + 2 => simp at h1

theorem kCells {A B : Store} {ty : TypeId} {xs ys : List Cell} (h : FrzCs A B xs ys) : FrzO A B (.cells ty xs) (.cells ty ys) := .cells fun i y hi => h.at i y hi

section
variable {P : Program} {T : TT} {mu : FuncId → Bool} {N : Nat} {ops : Array Oper} {fl : FL} {sl : SL} {S S' : Store} {K : St → Prop}
  {d : Nat} {ty : TypeId} {pos : String} {after : Array Edge}

theorem zb1 {t : TypeId} {x : Operand} {m : Nm} {off n : Nat} {ty' : TypeId} {cs ys : List Cell} (hT : TOk P T) (k : K ⟨lk' ((d, .agg ys) :: fl), ov sl S⟩) (hx : opO fl x = some (.c (.ptr m off)) := by exact rfl) (ha : agT T t = some true := by exact rfl) (hn : celT T t = n + 1 := by exact rfl)
    (hm : lkS sl m = some (.cells ty' cs) := by exact rfl) (hl : takeF cs off (n + 1) = some ys := by exact rfl) : Stp P mu ops ⟨some d, .load t x, ty, pos, after, none⟩ ⟨lk' fl, ov sl S⟩ K := by
  obtain ⟨h1, h2⟩ := takeF_spec hl
  exact stp_loada hT hx ha hn hm h2 (by rw [h1]; exact k)

theorem zb2 {t e : TypeId} {n sz : Nat} {ps : Array (Nat × Operand)} {z out : List Cell} (hT : TOk P T) (kk : K ⟨lk' ((d, .c (.win (.loc d) 0 n n)) :: fl), ov ((.loc d, .cells e out) :: sl) (pushS S)⟩)
    (ht : undT T t = some (.slice e) := by exact rfl) (hc : celT T e = sz + 2 := by exact rfl) (hz : zerF T e = some z := by exact rfl) (hzl : Nat.beq z.length (sz + 2) = true := by exact rfl) (hs : Nat.ble (n * (sz + 2)) 1000 = true := by exact rfl)
    (hf : fillG fl (sz + 2) (rep n z) ps.toList = some out := by exact rfl) (hfr : freeO sl d = true := by exact rfl) :
    Stp P mu ops ⟨some d, .buildSlice t n ps, ty, pos, after, none⟩ ⟨lk' fl, ov sl (pushS S)⟩ K := by
  have hc := hT.cel hc (by simp)
  obtain ⟨h1, h2⟩ := zerF_spec hT hz
  have hzl := Nat.eq_of_beq_eq_true hzl
  have hs := Nat.le_of_ble_eq_true hs
  exact ⟨_, ⟨_, _, ⟨d, .cells e out, rfl, freeO_spec hfr, ⟨e, z, out, hT.und ht, by omega, by rw [hc]; omega, h1, by rw [hc]; exact hzl, h2, by rw [hc]; exact fillG_spec hf, .inl ⟨rfl, .inl rfl⟩⟩, rfl⟩, rfl⟩, by rw [putF_lk, upd_ov]; exact kk⟩
end
end Go.Abs

namespace Go.Proofs
open Go Go.Abs Go.Nums
attribute [local irreducible] thenA blockA awp aw Stp EndF EndP EndN EndG aOps
set_option linter.unusedSimpArgs false
set_option maxHeartbeats 4000000

noncomputable def tt2 : TT := (31, tiOf Try.t31 Try.t31) :: (32, tiOf Try.t32 Try.t32) :: tt
theorem ttOk2 : TOk Try.prog tt2 := ⟨tiOk Try.type31 rfl rfl, tiOk Try.type32 rfl rfl, ttOk⟩
theorem gB {A C : Prop} (h : C) (t : Wr C → A := by intro h; (first | refine zr1 ?_ | refine zr2 ?_ | refine zr3 ?_ | refine zr4 ?_ | refine zr5 ?_ | refine zr6 ?_ | refine zr7 ?_ | refine zr8 ?_ | refine zr9 ?_ | refine zr10 ?_ | refine zr11 ?_ | refine zr12 ?_ | refine zr13 ?_ | refine zr14 ?_ | refine zr15 ?_ | refine zr16 ?_ | refine zr17 ?_ | refine zr18 ?_ | refine zr19 ?_ | ((first | refine zw1 ?_ | refine zw2 ?_ | refine zw3 ?_); first | refine zg1 ttOk2 ?_ | refine zg2 ttOk2 ?_ | refine zg3 ttOk2 ?_ | refine zc1 ttOk2 ?_ | refine zc2 ttOk2 ?_ | refine zc3 ttOk2 ?_ | refine zc4 ttOk2 ?_ | refine zc5 ttOk2 ?_ | refine zc6 ttOk2 ?_ | refine zc7 ttOk2 ?_ | refine zc8 ttOk2 ?_ | refine zc9 ttOk2 ?_ | refine zc10 ttOk2 ?_ | refine zc11 ttOk2 ?_ | refine zc12 ttOk2 ?_ | refine zn1 ttOk2 ?_ | refine zn2 ttOk2 ?_ | refine zn3 ttOk2 ?_ | refine zn4 ttOk2 ?_ | refine zn5 ttOk2 ?_ | refine zn6 ttOk2 ?_ | refine zn7 ttOk2 ?_ | refine zn8 ttOk2 ?_ | refine zn9 ttOk2 ?_ | refine zn10 ttOk2 ?_ | refine zn11 ttOk2 ?_ | refine zn12 ttOk2 ?_ | refine zb1 ttOk2 ?_ | refine zb2 ttOk2 ?_ | refine zg4 ttOk2 ?_ | refine zg5 ttOk2 ?_ | refine zg6 ttOk2 ?_ | refine zg7 ttOk2 ?_ | refine zg8 ttOk2 ?_ | refine zg9 ttOk2 ?_ | refine zg10 ttOk2 ?_ | refine zg22 ttOk2 ?_ | refine zg11 ttOk2 ?_ | refine zg12 ttOk2 ?_ | refine zg13 ttOk2 ?_ | refine zg14 ttOk2 ?_ | refine zg15 ttOk2 ?_ | refine zg16 ttOk2 ?_ | refine zg17 ttOk2 ?_ | refine zg18 ttOk2 ?_ | refine zg19 ttOk2 ?_ | refine zg20 ttOk2 ?_ | refine zg21 ttOk2 ?_)); exact h.p) : A := t ⟨h⟩

theorem one_bits (b : Nat) : blen (2 ^ b) = b + 1 := by
  have h := blen_shl' (a := 1) (by decide) b
  rw [Nat.one_mul] at h; rw [h, Nat.add_comm]; rfl

theorem far_digs (m : Nat) : digs B (B ^ m) = List.replicate m 0 ++ [1] := by
  have h := digs_val hB (l := List.replicate m 0 ++ [1]) (rng_append.2 ⟨rng_rep (by decide) _, by intro x hx; simp only [List.mem_singleton] at hx; subst hx; decide⟩) (fun h => by simp)
  rw [val_zeros, show val B [1] = 1 by simp [val], Nat.mul_one] at h; exact h
theorem far_long {n k : Nat} (hk : k ≤ 2 * n) : k < (digs B (stepV 3 ((B ^ (n + 1) : Nat) : Int) 4).natAbs).length := by
  obtain ⟨t, ht, ht2⟩ : ∃ t, B ^ (n + 1) = 16 * t ∧ B ^ n ≤ t := ⟨1152921504606846976 * B ^ n, by rw [Nat.pow_succ, ← Nat.mul_assoc, Nat.mul_comm], Nat.le_mul_of_pos_left _ (by decide)⟩
  have hB0 : 0 < B ^ n := Nat.pow_pos (by decide)
  have hv : stepV 3 ((B ^ (n + 1) : Nat) : Int) 4 = 32 * (t : Int) - 48 * ((t * t : Nat) : Int) := by
    rw [ht]
    unfold stepV
    rw [show ((2 : Int) ^ 4 - (3 : Nat) * ((16 * t : Nat) : Int)) * ((16 * t : Nat) : Int) = (16 * (t : Int) - 48 * ((t * t : Nat) : Int)) * 2 ^ 4 by
      push_cast
      rw [Int.sub_mul, Int.sub_mul]
      have h768 : (3 : Int) * (16 * t) * (16 * t) = 768 * ((t : Int) * t) := by rw [show (768 : Int) = 3 * 16 * 16 by decide]; ac_rfl
      omega, Int.mul_ediv_cancel _ (by decide)]
    push_cast; omega
  have ht1 : 1 ≤ t := by omega
  have htt : t ≤ t * t := Nat.le_mul_of_pos_left _ (by omega)
  have hn : t * t ≤ (stepV 3 ((B ^ (n + 1) : Nat) : Int) 4).natAbs := by rw [hv]; omega
  refine Nat.lt_of_not_le fun h => ?_
  have h2 := (digs_len hB).1 h
  have h3 : B ^ n * B ^ n ≤ t * t := Nat.mul_le_mul ht2 ht2
  rw [← Nat.pow_add] at h3
  have h4 : B ^ k ≤ B ^ (n + n) := Nat.pow_le_pow_right (by decide) (by omega)
  omega
theorem set_last : ∀ n : Nat, (List.replicate (n + 1) (0 : Int)).set n 1 = U (List.replicate n 0 ++ [1])
  | 0 => rfl
  | n + 1 => by
    rw [List.replicate_succ, List.set_cons_succ, set_last n]; rfl

theorem l_numbers : AFun Try.prog 3 [] (bvl true) := by
  have d1 : digs B 1 = [1] := digs_one' (by decide) (by decide)
  have d2 : digs B 2 = [2] := digs_one' (by decide) (by decide)
  have d3 : digs B 3 = [3] := digs_one' (by decide) (by decide)
  have d5 : digs B 5 = [5] := digs_one' (by decide) (by decide)
  have d7 : digs B 7 = [7] := digs_one' (by decide) (by decide)
  obtain ⟨big, hbig⟩ : ∃ b : Nat, b = 262143 := ⟨_, rfl⟩
  obtain ⟨top, htop⟩ : ∃ l, l = digs B (2 ^ big) := ⟨_, rfl⟩
  have hlen : top.length = 4096 := by
    refine Nat.le_antisymm ?_ ?_
    · rw [htop]; exact pow2_len big 4096 (by omega)
    · have h1 := len_blen (2 ^ big)
      have h2 : ¬ (digs B (2 ^ big)).length ≤ 4095 := by
        obtain ⟨k, hk⟩ : ∃ k, k = 4095 := ⟨_, rfl⟩
        rw [← hk, digs_len hB, show B = 2 ^ 64 from rfl, ← Nat.pow_mul]
        exact Nat.not_lt.2 (Nat.pow_le_pow_right (by decide) (by omega))
      rw [htop]; omega
  have hlast : top.getD 4095 0 = 9223372036854775808 := by
    obtain ⟨k, hk⟩ : ∃ k, k = 4095 := ⟨_, rfl⟩
    rw [htop, ← hk, getD_val (b := B) (by decide) _ (rng_digs hB _), val_digs hB, show B = 2 ^ 64 from rfl, ← Nat.pow_mul, show big = 63 + 64 * k by omega, Nat.pow_add, Nat.mul_div_cancel _ (Nat.two_pow_pos _)]
  have of1 : AFun Try.prog 9 [wi false [1], iv 262143] (.tup [wi false top, ivl .i64 0]) := by
    have h := c_of1 1 big (by decide) (by rw [d1]; decide) (by omega) (by rw [Nat.div_one, ← htop]; omega)
    rw [Nat.div_one] at h
    unfold w1 at h
    rw [d1, ← htop, hbig] at h; exact h
  have of2 : AFun Try.prog 9 [wi false [1], iv 262144] (.tup [wi false [], ivl .i64 3]) := by
    have h := c_of2 1 (big + 1) (by decide) (by rw [d1]; decide) (by omega) (by
      rw [Nat.div_one]
      have h2 : ¬ (digs B (2 ^ (big + 1))).length ≤ 4096 := by
        obtain ⟨k, hk⟩ : ∃ k, k = 4096 := ⟨_, rfl⟩
        rw [← hk, digs_len hB, show B = 2 ^ 64 from rfl, ← Nat.pow_mul]
        exact Nat.not_lt.2 (Nat.pow_le_pow_right (by decide) (by omega))
      omega)
    unfold w1 at h
    rw [d1, hbig] at h; exact h
  have of3 : AFun Try.prog 9 [wi false [2], iv 262144] (.tup [wi false top, ivl .i64 0]) := by
    have e : 2 ^ (big + 1) / 2 = 2 ^ big := by rw [Nat.pow_succ]; exact Nat.mul_div_cancel _ (by decide)
    have h := c_of1 2 (big + 1) (by decide) (by rw [d2]; decide) (by omega) (by rw [e, ← htop]; omega)
    rw [e] at h
    unfold w1 at h
    rw [d2, ← htop, hbig] at h; exact h
  have of4 : AFun Try.prog 9 [wi false [7], iv 0] (.tup [wi false [], ivl .i64 0]) := by
    have h := c_of1 7 0 (by decide) (by rw [d7]; decide) (by decide) (by rw [show 2 ^ 0 / 7 = 0 from rfl, digs_zero]; decide)
    rw [show 2 ^ 0 / 7 = 0 from rfl] at h
    unfold w1 at h
    rw [d7, digs_zero] at h; exact h
  clear htop hbig
  have hsame : ∀ l : List Nat, l.length < 2 ^ 60 → AFun Try.prog 10 [wi false l, wi false l] (bvl true) := fun l hl => by
    have h := c_sameint false false l l hl hl
    rwa [show decide (false = false ∧ l = l) = true by simp] at h
  have sml : ∀ n : Nat, n ≠ 0 → n < 2 ^ 62 → AFun Try.prog 8 [ivl .i64 n] (wi false [n]) := c_smallN
  have st0 : AFun Try.prog 11 [wi false [], wi false [1], ivl .i64 4] (.tup [wi false [], ivl .i64 7]) := by
    have h := c_stepw false [] false [1] 4 (by decide) (by decide) (by decide)
    rw [show stepN false [] false [1] 4 = 7 by decide] at h; exact h
  have of10 : AFun Try.prog 9 [wi false [], ivl .i64 4] (.tup [wi false [], ivl .i64 7]) := by
    have h := c_ofw false [] 4 (by decide) (by decide)
    rw [show wrongN false [] 4 = 7 by decide] at h; exact h
  have st1 : AFun Try.prog 11 [wi true [3], wi false [1], ivl .i64 4] (.tup [wi false [], ivl .i64 2]) := by
    have h := c_stepw true [3] false [1] 4 (by decide) (by decide) (by decide)
    rw [show stepN true [3] false [1] 4 = 2 by decide] at h; exact h
  have of11 : AFun Try.prog 9 [wi true [3], ivl .i64 4] (.tup [wi false [], ivl .i64 2]) := by
    have h := c_ofw true [3] 4 (by decide) (by decide)
    rw [show wrongN true [3] 4 = 2 by decide] at h; exact h
  have st2 : AFun Try.prog 11 [wi false [3], wi false [1], ivl .i64 (-1)] (.tup [wi false [], ivl .i64 2]) := by
    have h := c_stepw false [3] false [1] (-1) (by decide) (by decide) (by decide)
    rw [show stepN false [3] false [1] (-1) = 2 by decide] at h; exact h
  have of12 : AFun Try.prog 9 [wi false [3], ivl .i64 (-1)] (.tup [wi false [], ivl .i64 2]) := by
    have h := c_ofw false [3] (-1) (by decide) (by decide)
    rw [show wrongN false [3] (-1) = 2 by decide] at h; exact h
  have st3 : AFun Try.prog 11 [wi false [3], wi false [1], ivl .i64 262145] (.tup [wi false [], ivl .i64 2]) := by
    have h := c_stepw false [3] false [1] 262145 (by decide) (by decide) (by decide)
    rw [show stepN false [3] false [1] 262145 = 2 by decide] at h; exact h
  have of13 : AFun Try.prog 9 [wi false [3], ivl .i64 262145] (.tup [wi false [], ivl .i64 2]) := by
    have h := c_ofw false [3] 262145 (by decide) (by decide)
    rw [show wrongN false [3] 262145 = 2 by decide] at h; exact h
  have st4 : AFun Try.prog 11 [wi false [1, 0], wi false [1], ivl .i64 4] (.tup [wi false [], ivl .i64 2]) := by
    have h := c_stepw false [1, 0] false [1] 4 (by decide) (by decide) (by decide)
    rw [show stepN false [1, 0] false [1] 4 = 2 by decide] at h; exact h
  have of14 : AFun Try.prog 9 [wi false [1, 0], ivl .i64 4] (.tup [wi false [], ivl .i64 2]) := by
    have h := c_ofw false [1, 0] 4 (by decide) (by decide)
    rw [show wrongN false [1, 0] 4 = 2 by decide] at h; exact h
  have st5 : AFun Try.prog 11 [wi false [], wi false [1], ivl .i64 (-1)] (.tup [wi false [], ivl .i64 2]) := by
    have h := c_stepw false [] false [1] (-1) (by decide) (by decide) (by decide)
    rw [show stepN false [] false [1] (-1) = 2 by decide] at h; exact h
  have of15 : AFun Try.prog 9 [wi false [], ivl .i64 (-1)] (.tup [wi false [], ivl .i64 2]) := by
    have h := c_ofw false [] (-1) (by decide) (by decide)
    rw [show wrongN false [] (-1) = 2 by decide] at h; exact h
  have st6 : AFun Try.prog 11 [wi false [3], wi false [1, 0], ivl .i64 4] (.tup [wi false [], ivl .i64 2]) := by
    have h := c_stepw false [3] false [1, 0] 4 (by decide) (by decide) (by decide)
    rw [show stepN false [3] false [1, 0] 4 = 2 by decide] at h; exact h
  have of16 : AFun Try.prog 9 [wi false [3], ivl .i64 4] (.tup [wi false [5], ivl .i64 0]) := by
    have h := c_of1 3 4 (by decide) (by rw [d3]; decide) (by decide) (by show (digs B 5).length ≤ 4096; rw [d5]; decide)
    rw [show 2 ^ 4 / 3 = 5 from rfl] at h
    unfold w1 at h
    rw [d3, d5] at h; exact h
  have st7 : AFun Try.prog 11 [wi false [], wi false [1, 0], ivl .i64 4] (.tup [wi false [], ivl .i64 2]) := by
    have h := c_stepw false [] false [1, 0] 4 (by decide) (by decide) (by decide)
    rw [show stepN false [] false [1, 0] 4 = 2 by decide] at h; exact h
  have of17 : AFun Try.prog 9 [wi false [], ivl .i64 4] (.tup [wi false [], ivl .i64 7]) := by
    have h := c_ofw false [] 4 (by decide) (by decide)
    rw [show wrongN false [] 4 = 7 by decide] at h; exact h
  have st8 : AFun Try.prog 11 [wi false [3], wi false [1], ivl .i64 9223372036854775807] (.tup [wi false [], ivl .i64 2]) := by
    have h := c_stepw false [3] false [1] 9223372036854775807 (by decide) (by decide) (by decide)
    rw [show stepN false [3] false [1] 9223372036854775807 = 2 by decide] at h; exact h
  have of18 : AFun Try.prog 9 [wi false [3], ivl .i64 9223372036854775807] (.tup [wi false [], ivl .i64 2]) := by
    have h := c_ofw false [3] 9223372036854775807 (by decide) (by decide)
    rw [show wrongN false [3] 9223372036854775807 = 2 by decide] at h; exact h
  have hdiff : AFun Try.prog 10 [wi false [1, 0], wi false [1]] (bvl false) := by
    have h := c_sameint false false [1, 0] [1] (by decide) (by decide)
    rwa [show decide (false = false ∧ [1, 0] = [1]) = false by decide] at h
  obtain ⟨m, hm⟩ : ∃ m : Nat, m = 2099 := ⟨_, rfl⟩
  have hfar : AFun Try.prog 11 [wi false [3], wi false (List.replicate m 0 ++ [1]), ivl .i64 4] (.tup [wi false [], ivl .i64 3]) := by
    obtain ⟨n, hn⟩ : ∃ n, m = n + 1 := ⟨2098, by omega⟩
    have hl : (digs B (((B ^ m : Nat) : Int)).natAbs).length ≤ 4096 := by
      rw [Int.natAbs_natCast, far_digs]; simp; omega
    have h := c_step2 3 4 ((B ^ m : Nat) : Int) (by decide) (by rw [d3]; decide) hl (by decide) (by rw [hn]; exact far_long (by omega))
    rw [wz_nat] at h
    unfold w1 at h
    rw [far_digs, d3] at h; exact h
  refine afun (mu := muF) Try.func3 rfl (by decide) rfl (by decide) (Nat.le_of_ble_eq_true rfl) (by simp [nm0, AVal.at, AVal.at1, Cell.at]) (by simp [nm0, AVal.at, AVal.at1, Cell.at]) fun S hS => ?_
  repeat refine gB ?_
  ((first | refine zw1 ?_ | refine zw2 ?_ | refine zw3 ?_); refine s_call (sml 1 (by decide) (by decide)) ?_)
  repeat refine gB ?_
  ((first | refine zw1 ?_ | refine zw2 ?_ | refine zw3 ?_); refine s_call (sml 2 (by decide) (by decide)) ?_)
  repeat refine gB ?_
  ((first | refine zw1 ?_ | refine zw2 ?_ | refine zw3 ?_); refine s_call (sml 3 (by decide) (by decide)) ?_)
  repeat refine gB ?_
  refine aw_weak ⟨lk' [(29, wi false [1]), (1, .c (.ptr (.loc 1) 0)), (2, .c (.ptr (.loc 2) 0)), (3, .c (.ptr (.loc 3) 0)), (4, .c (.ptr (.loc 4) 0))],
    ov [(.loc 1, .cells 24 [.sc (.bool false), .ints .u64 (U [1])]), (.loc 2, .cells 24 [.sc (.bool false), .ints .u64 (U [2])]), (.loc 3, .cells 24 [.sc (.bool false), .ints .u64 (U [3])]), (.loc 4, .cells 24 [.sc (.bool false), .ints .u64 (U [1, 0])])] (pushS S)⟩ ?_ ?_
  · (refine frz hS (by exact rfl) ?_ ?_; all_goals (repeat' (first | refine fF ?_ ?_ | refine fS ?_ ?_ | exact True.intro)); all_goals (try (first | exact kv | (refine kW (ov_of lks) rfl ?_ ?_))))
    · exact kCells ⟨cS rfl, .base (.win (ov_of (by exact rfl)) rfl (by simp) rfl), trivial⟩
    · exact kAgg rfl ⟨cS rfl, .base (.keep fun q h => h.elim), trivial⟩
  ((first | refine zw1 ?_ | refine zw2 ?_ | refine zw3 ?_); refine s_call (of1) ?_)
  repeat refine gB ?_
  ((first | refine zw1 ?_ | refine zw2 ?_ | refine zw3 ?_); refine s_call (of2) ?_)
  repeat refine gB ?_
  ((first | refine zw1 ?_ | refine zw2 ?_ | refine zw3 ?_); refine s_call (of3) ?_)
  repeat refine gB ?_
  ((first | refine zw1 ?_ | refine zw2 ?_ | refine zw3 ?_); refine s_call (sml 7 (by decide) (by decide)) ?_)
  repeat refine gB ?_
  refine aw_weak ⟨lk' [(44, wi false [7]), (6, ivl .i64 0), (8, ivl .i64 3), (10, ivl .i64 0), (1, .c (.ptr (.loc 1) 0)), (3, .c (.ptr (.loc 3) 0)), (4, .c (.ptr (.loc 4) 0)), (5, .c (.ptr (.loc 5) 0)), (7, .c (.ptr (.loc 7) 0)), (9, .c (.ptr (.loc 9) 0))],
    ov [(.loc 1, .cells 24 [.sc (.bool false), .ints .u64 (U [1])]), (.loc 3, .cells 24 [.sc (.bool false), .ints .u64 (U [3])]), (.loc 4, .cells 24 [.sc (.bool false), .ints .u64 (U [1, 0])]), (.loc 5, .cells 24 [.sc (.bool false), .ints .u64 (U top)]), (.loc 7, .cells 24 [.sc (.bool false), .ints .u64 (U [])]), (.loc 9, .cells 24 [.sc (.bool false), .ints .u64 (U top)])] (pushS S)⟩ ?_ ?_
  · (refine frz hS (by exact rfl) ?_ ?_; all_goals (repeat' (first | refine fF ?_ ?_ | refine fS ?_ ?_ | exact True.intro)); all_goals (try (first | exact kv | (refine kW (ov_of lks) rfl ?_ ?_))))
    all_goals exact kAgg rfl ⟨cS rfl, .base (.keep fun q h => h.elim), trivial⟩
  ((first | refine zw1 ?_ | refine zw2 ?_ | refine zw3 ?_); refine s_call (of4) ?_)
  repeat refine gB ?_
  ((first | refine zw1 ?_ | refine zw2 ?_ | refine zw3 ?_); refine s_cmp (fun g1 => ?_) (fun g1 => ?_))
  rotate_left
  · exact absurd (rfl) g1
  repeat refine gB ?_
  ((first | refine zw1 ?_ | refine zw2 ?_ | refine zw3 ?_); refine s_cmp (fun g2 => ?_) (fun g2 => ?_))
  rotate_left
  · omega
  repeat refine gB ?_
  ((first | refine zw1 ?_ | refine zw2 ?_ | refine zw3 ?_); refine s_cmp (fun g3 => ?_) (fun g3 => ?_))
  rotate_left
  · exact absurd (by rw [hlast]; rfl) g3
  repeat refine gB ?_
  ((first | refine zw1 ?_ | refine zw2 ?_ | refine zw3 ?_); refine s_cmp (fun g4 => ?_) (fun g4 => ?_))
  rotate_left
  · exact absurd (rfl) g4
  repeat refine gB ?_
  ((first | refine zw1 ?_ | refine zw2 ?_ | refine zw3 ?_); refine s_cmp (fun g5 => ?_) (fun g5 => ?_))
  rotate_left
  · exact absurd (rfl) g5
  repeat refine gB ?_
  ((first | refine zw1 ?_ | refine zw2 ?_ | refine zw3 ?_); refine s_call (hsame top (by omega)) ?_)
  repeat refine gB ?_
  ((first | refine zw1 ?_ | refine zw2 ?_ | refine zw3 ?_); refine s_cmp (fun g6 => ?_) (fun g6 => ?_))
  rotate_left
  · exact absurd (rfl) g6
  repeat refine gB ?_
  ((first | refine zw1 ?_ | refine zw2 ?_ | refine zw3 ?_); refine s_call (c_smallM 3 (by decide) (by decide)) ?_)
  repeat refine gB ?_
  refine awp_midB (fun st => Weak st ⟨lk' [(3, .c (.ptr (.loc 3) 0)), (13, bvl true)], ov [(.loc 3, .cells 24 [.sc (.bool false), .ints .u64 (U [3])])] (pushS S)⟩) ?_ ?_
  · refine awp_rep (ι := Nat) (fun k => ⟨lk' [(1, .c (.ptr (.loc 1) 0)), (3, .c (.ptr (.loc 3) 0)), (13, bvl true), (115, .c (.win (.loc 115) 0 9 9)), (116, ivl .i64 9), (117, iv k)],
        ov [(.loc 1, .cells 24 [.sc (.bool false), .ints .u64 (U [1])]), (.loc 3, .cells 24 [.sc (.bool false), .ints .u64 (U [3])]), (.loc 115, .cells 31 [.sc (.bool false), .ints .u64 (U []), .sc (.bool false), .ints .u64 (U [1]), .sc (.int .i64 4), .sc (.int .i64 7), .sc (.bool true), .ints .u64 (U [3]), .sc (.bool false), .ints .u64 (U [1]), .sc (.int .i64 4), .sc (.int .i64 2), .sc (.bool false), .ints .u64 (U [3]), .sc (.bool false), .ints .u64 (U [1]), .sc (.int .i64 (-1)), .sc (.int .i64 2), .sc (.bool false), .ints .u64 (U [3]), .sc (.bool false), .ints .u64 (U [1]), .sc (.int .i64 262145), .sc (.int .i64 2), .sc (.bool false), .ints .u64 (U [1, 0]), .sc (.bool false), .ints .u64 (U [1]), .sc (.int .i64 4), .sc (.int .i64 2), .sc (.bool false), .ints .u64 (U []), .sc (.bool false), .ints .u64 (U [1]), .sc (.int .i64 (-1)), .sc (.int .i64 2), .sc (.bool false), .ints .u64 (U [3]), .sc (.bool false), .ints .u64 (U [1, 0]), .sc (.int .i64 4), .sc (.int .i64 2), .sc (.bool false), .ints .u64 (U []), .sc (.bool false), .ints .u64 (U [1, 0]), .sc (.int .i64 4), .sc (.int .i64 2), .sc (.bool false), .ints .u64 (U [3]), .sc (.bool false), .ints .u64 (U [1]), .sc (.int .i64 9223372036854775807), .sc (.int .i64 2)])] (pushS S)⟩) (fun k => k ≤ 9) (fun k => 9 - k) 0 (Nat.zero_le _) ?_ ?_
    · (refine frz hS (by exact rfl) ?_ ?_; all_goals (repeat' (first | refine fF ?_ ?_ | refine fS ?_ ?_ | exact True.intro)); all_goals (try (first | exact kv | (refine kW (ov_of lks) rfl ?_ ?_))))
      all_goals (refine kCells ?_; repeat' (first | exact True.intro | refine And.intro ?_ ?_))
      all_goals first | exact cS rfl | exact .base .nilI | exact .base (.keep fun q h => h.elim)
    intro k hk
    repeat refine gB ?_
    ((first | refine zw1 ?_ | refine zw2 ?_ | refine zw3 ?_); refine s_cmp (fun g7 => ?_) (fun g7 => ?_))
    · have hk9 : k < 9 := by omega
      match k, hk9 with
      | 0, _ =>
        repeat refine gB ?_
        ((first | refine zw1 ?_ | refine zw2 ?_ | refine zw3 ?_); refine s_call (st0) ?_)
        repeat refine gB ?_
        ((first | refine zw1 ?_ | refine zw2 ?_ | refine zw3 ?_); refine s_call (c_is_same false [] 7 (by decide)) ?_ (hle := by repeat (first | exact trivial | refine ⟨ALe.refl _, ?_⟩ | refine ⟨aleNil _, ?_⟩)))
        repeat refine gB ?_
        ((first | refine zw1 ?_ | refine zw2 ?_ | refine zw3 ?_); refine s_call (of10) ?_)
        repeat refine gB ?_
        ((first | refine zw1 ?_ | refine zw2 ?_ | refine zw3 ?_); refine s_call (hsame [1] (by decide)) ?_)
        repeat refine gB ?_
        ((first | refine zw1 ?_ | refine zw2 ?_ | refine zw3 ?_); refine s_call (c_is_same false [] 7 (by decide)) ?_ (hle := by repeat (first | exact trivial | refine ⟨ALe.refl _, ?_⟩ | refine ⟨aleNil _, ?_⟩)))
        repeat refine gB ?_
        refine ⟨1, ?_, by decide, by decide⟩
        (refine frz hS (by exact rfl) ?_ ?_; all_goals (repeat' (first | refine fF ?_ ?_ | refine fS ?_ ?_ | exact True.intro)); all_goals (try (first | exact kv | (refine kW (ov_of lks) rfl ?_ ?_))))
        all_goals (refine kCells ?_; repeat' (first | exact True.intro | refine And.intro ?_ ?_))
        all_goals first | exact cS rfl | exact .base .nilI | exact .base (.keep fun q h => h.elim)
      | 1, _ =>
        repeat refine gB ?_
        ((first | refine zw1 ?_ | refine zw2 ?_ | refine zw3 ?_); refine s_call (st1) ?_)
        repeat refine gB ?_
        ((first | refine zw1 ?_ | refine zw2 ?_ | refine zw3 ?_); refine s_call (c_is_same false [] 2 (by decide)) ?_ (hle := by repeat (first | exact trivial | refine ⟨ALe.refl _, ?_⟩ | refine ⟨aleNil _, ?_⟩)))
        repeat refine gB ?_
        ((first | refine zw1 ?_ | refine zw2 ?_ | refine zw3 ?_); refine s_call (of11) ?_)
        repeat refine gB ?_
        ((first | refine zw1 ?_ | refine zw2 ?_ | refine zw3 ?_); refine s_call (hsame [1] (by decide)) ?_)
        repeat refine gB ?_
        ((first | refine zw1 ?_ | refine zw2 ?_ | refine zw3 ?_); refine s_call (c_is_same false [] 2 (by decide)) ?_ (hle := by repeat (first | exact trivial | refine ⟨ALe.refl _, ?_⟩ | refine ⟨aleNil _, ?_⟩)))
        repeat refine gB ?_
        refine ⟨2, ?_, by decide, by decide⟩
        (refine frz hS (by exact rfl) ?_ ?_; all_goals (repeat' (first | refine fF ?_ ?_ | refine fS ?_ ?_ | exact True.intro)); all_goals (try (first | exact kv | (refine kW (ov_of lks) rfl ?_ ?_))))
        all_goals (refine kCells ?_; repeat' (first | exact True.intro | refine And.intro ?_ ?_))
        all_goals first | exact cS rfl | exact .base .nilI | exact .base (.keep fun q h => h.elim)
      | 2, _ =>
        repeat refine gB ?_
        ((first | refine zw1 ?_ | refine zw2 ?_ | refine zw3 ?_); refine s_call (st2) ?_)
        repeat refine gB ?_
        ((first | refine zw1 ?_ | refine zw2 ?_ | refine zw3 ?_); refine s_call (c_is_same false [] 2 (by decide)) ?_ (hle := by repeat (first | exact trivial | refine ⟨ALe.refl _, ?_⟩ | refine ⟨aleNil _, ?_⟩)))
        repeat refine gB ?_
        ((first | refine zw1 ?_ | refine zw2 ?_ | refine zw3 ?_); refine s_call (of12) ?_)
        repeat refine gB ?_
        ((first | refine zw1 ?_ | refine zw2 ?_ | refine zw3 ?_); refine s_call (hsame [1] (by decide)) ?_)
        repeat refine gB ?_
        ((first | refine zw1 ?_ | refine zw2 ?_ | refine zw3 ?_); refine s_call (c_is_same false [] 2 (by decide)) ?_ (hle := by repeat (first | exact trivial | refine ⟨ALe.refl _, ?_⟩ | refine ⟨aleNil _, ?_⟩)))
        repeat refine gB ?_
        refine ⟨3, ?_, by decide, by decide⟩
        (refine frz hS (by exact rfl) ?_ ?_; all_goals (repeat' (first | refine fF ?_ ?_ | refine fS ?_ ?_ | exact True.intro)); all_goals (try (first | exact kv | (refine kW (ov_of lks) rfl ?_ ?_))))
        all_goals (refine kCells ?_; repeat' (first | exact True.intro | refine And.intro ?_ ?_))
        all_goals first | exact cS rfl | exact .base .nilI | exact .base (.keep fun q h => h.elim)
      | 3, _ =>
        repeat refine gB ?_
        ((first | refine zw1 ?_ | refine zw2 ?_ | refine zw3 ?_); refine s_call (st3) ?_)
        repeat refine gB ?_
        ((first | refine zw1 ?_ | refine zw2 ?_ | refine zw3 ?_); refine s_call (c_is_same false [] 2 (by decide)) ?_ (hle := by repeat (first | exact trivial | refine ⟨ALe.refl _, ?_⟩ | refine ⟨aleNil _, ?_⟩)))
        repeat refine gB ?_
        ((first | refine zw1 ?_ | refine zw2 ?_ | refine zw3 ?_); refine s_call (of13) ?_)
        repeat refine gB ?_
        ((first | refine zw1 ?_ | refine zw2 ?_ | refine zw3 ?_); refine s_call (hsame [1] (by decide)) ?_)
        repeat refine gB ?_
        ((first | refine zw1 ?_ | refine zw2 ?_ | refine zw3 ?_); refine s_call (c_is_same false [] 2 (by decide)) ?_ (hle := by repeat (first | exact trivial | refine ⟨ALe.refl _, ?_⟩ | refine ⟨aleNil _, ?_⟩)))
        repeat refine gB ?_
        refine ⟨4, ?_, by decide, by decide⟩
        (refine frz hS (by exact rfl) ?_ ?_; all_goals (repeat' (first | refine fF ?_ ?_ | refine fS ?_ ?_ | exact True.intro)); all_goals (try (first | exact kv | (refine kW (ov_of lks) rfl ?_ ?_))))
        all_goals (refine kCells ?_; repeat' (first | exact True.intro | refine And.intro ?_ ?_))
        all_goals first | exact cS rfl | exact .base .nilI | exact .base (.keep fun q h => h.elim)
      | 4, _ =>
        repeat refine gB ?_
        ((first | refine zw1 ?_ | refine zw2 ?_ | refine zw3 ?_); refine s_call (st4) ?_)
        repeat refine gB ?_
        ((first | refine zw1 ?_ | refine zw2 ?_ | refine zw3 ?_); refine s_call (c_is_same false [] 2 (by decide)) ?_ (hle := by repeat (first | exact trivial | refine ⟨ALe.refl _, ?_⟩ | refine ⟨aleNil _, ?_⟩)))
        repeat refine gB ?_
        ((first | refine zw1 ?_ | refine zw2 ?_ | refine zw3 ?_); refine s_call (of14) ?_)
        repeat refine gB ?_
        ((first | refine zw1 ?_ | refine zw2 ?_ | refine zw3 ?_); refine s_call (hsame [1] (by decide)) ?_)
        repeat refine gB ?_
        ((first | refine zw1 ?_ | refine zw2 ?_ | refine zw3 ?_); refine s_call (c_is_same false [] 2 (by decide)) ?_ (hle := by repeat (first | exact trivial | refine ⟨ALe.refl _, ?_⟩ | refine ⟨aleNil _, ?_⟩)))
        repeat refine gB ?_
        refine ⟨5, ?_, by decide, by decide⟩
        (refine frz hS (by exact rfl) ?_ ?_; all_goals (repeat' (first | refine fF ?_ ?_ | refine fS ?_ ?_ | exact True.intro)); all_goals (try (first | exact kv | (refine kW (ov_of lks) rfl ?_ ?_))))
        all_goals (refine kCells ?_; repeat' (first | exact True.intro | refine And.intro ?_ ?_))
        all_goals first | exact cS rfl | exact .base .nilI | exact .base (.keep fun q h => h.elim)
      | 5, _ =>
        repeat refine gB ?_
        ((first | refine zw1 ?_ | refine zw2 ?_ | refine zw3 ?_); refine s_call (st5) ?_)
        repeat refine gB ?_
        ((first | refine zw1 ?_ | refine zw2 ?_ | refine zw3 ?_); refine s_call (c_is_same false [] 2 (by decide)) ?_ (hle := by repeat (first | exact trivial | refine ⟨ALe.refl _, ?_⟩ | refine ⟨aleNil _, ?_⟩)))
        repeat refine gB ?_
        ((first | refine zw1 ?_ | refine zw2 ?_ | refine zw3 ?_); refine s_call (of15) ?_)
        repeat refine gB ?_
        ((first | refine zw1 ?_ | refine zw2 ?_ | refine zw3 ?_); refine s_call (hsame [1] (by decide)) ?_)
        repeat refine gB ?_
        ((first | refine zw1 ?_ | refine zw2 ?_ | refine zw3 ?_); refine s_call (c_is_same false [] 2 (by decide)) ?_ (hle := by repeat (first | exact trivial | refine ⟨ALe.refl _, ?_⟩ | refine ⟨aleNil _, ?_⟩)))
        repeat refine gB ?_
        refine ⟨6, ?_, by decide, by decide⟩
        (refine frz hS (by exact rfl) ?_ ?_; all_goals (repeat' (first | refine fF ?_ ?_ | refine fS ?_ ?_ | exact True.intro)); all_goals (try (first | exact kv | (refine kW (ov_of lks) rfl ?_ ?_))))
        all_goals (refine kCells ?_; repeat' (first | exact True.intro | refine And.intro ?_ ?_))
        all_goals first | exact cS rfl | exact .base .nilI | exact .base (.keep fun q h => h.elim)
      | 6, _ =>
        repeat refine gB ?_
        ((first | refine zw1 ?_ | refine zw2 ?_ | refine zw3 ?_); refine s_call (st6) ?_)
        repeat refine gB ?_
        ((first | refine zw1 ?_ | refine zw2 ?_ | refine zw3 ?_); refine s_call (c_is_same false [] 2 (by decide)) ?_ (hle := by repeat (first | exact trivial | refine ⟨ALe.refl _, ?_⟩ | refine ⟨aleNil _, ?_⟩)))
        repeat refine gB ?_
        ((first | refine zw1 ?_ | refine zw2 ?_ | refine zw3 ?_); refine s_call (of16) ?_)
        repeat refine gB ?_
        ((first | refine zw1 ?_ | refine zw2 ?_ | refine zw3 ?_); refine s_call (hdiff) ?_)
        repeat refine gB ?_
        refine ⟨7, ?_, by decide, by decide⟩
        (refine frz hS (by exact rfl) ?_ ?_; all_goals (repeat' (first | refine fF ?_ ?_ | refine fS ?_ ?_ | exact True.intro)); all_goals (try (first | exact kv | (refine kW (ov_of lks) rfl ?_ ?_))))
        all_goals (refine kCells ?_; repeat' (first | exact True.intro | refine And.intro ?_ ?_))
        all_goals first | exact cS rfl | exact .base .nilI | exact .base (.keep fun q h => h.elim)
      | 7, _ =>
        repeat refine gB ?_
        ((first | refine zw1 ?_ | refine zw2 ?_ | refine zw3 ?_); refine s_call (st7) ?_)
        repeat refine gB ?_
        ((first | refine zw1 ?_ | refine zw2 ?_ | refine zw3 ?_); refine s_call (c_is_same false [] 2 (by decide)) ?_ (hle := by repeat (first | exact trivial | refine ⟨ALe.refl _, ?_⟩ | refine ⟨aleNil _, ?_⟩)))
        repeat refine gB ?_
        ((first | refine zw1 ?_ | refine zw2 ?_ | refine zw3 ?_); refine s_call (of17) ?_)
        repeat refine gB ?_
        ((first | refine zw1 ?_ | refine zw2 ?_ | refine zw3 ?_); refine s_call (hdiff) ?_)
        repeat refine gB ?_
        refine ⟨8, ?_, by decide, by decide⟩
        (refine frz hS (by exact rfl) ?_ ?_; all_goals (repeat' (first | refine fF ?_ ?_ | refine fS ?_ ?_ | exact True.intro)); all_goals (try (first | exact kv | (refine kW (ov_of lks) rfl ?_ ?_))))
        all_goals (refine kCells ?_; repeat' (first | exact True.intro | refine And.intro ?_ ?_))
        all_goals first | exact cS rfl | exact .base .nilI | exact .base (.keep fun q h => h.elim)
      | 8, _ =>
        repeat refine gB ?_
        ((first | refine zw1 ?_ | refine zw2 ?_ | refine zw3 ?_); refine s_call (st8) ?_)
        repeat refine gB ?_
        ((first | refine zw1 ?_ | refine zw2 ?_ | refine zw3 ?_); refine s_call (c_is_same false [] 2 (by decide)) ?_ (hle := by repeat (first | exact trivial | refine ⟨ALe.refl _, ?_⟩ | refine ⟨aleNil _, ?_⟩)))
        repeat refine gB ?_
        ((first | refine zw1 ?_ | refine zw2 ?_ | refine zw3 ?_); refine s_call (of18) ?_)
        repeat refine gB ?_
        ((first | refine zw1 ?_ | refine zw2 ?_ | refine zw3 ?_); refine s_call (hsame [1] (by decide)) ?_)
        repeat refine gB ?_
        ((first | refine zw1 ?_ | refine zw2 ?_ | refine zw3 ?_); refine s_call (c_is_same false [] 2 (by decide)) ?_ (hle := by repeat (first | exact trivial | refine ⟨ALe.refl _, ?_⟩ | refine ⟨aleNil _, ?_⟩)))
        repeat refine gB ?_
        refine ⟨9, ?_, by decide, by decide⟩
        (refine frz hS (by exact rfl) ?_ ?_; all_goals (repeat' (first | refine fF ?_ ?_ | refine fS ?_ ?_ | exact True.intro)); all_goals (try (first | exact kv | (refine kW (ov_of lks) rfl ?_ ?_))))
        all_goals (refine kCells ?_; repeat' (first | exact True.intro | refine And.intro ?_ ?_))
        all_goals first | exact cS rfl | exact .base .nilI | exact .base (.keep fun q h => h.elim)
    · have hk9 : k = 9 := by omega
      subst hk9
      repeat refine gB ?_
      (refine frz hS (by exact rfl) ?_ ?_; all_goals (repeat' (first | refine fF ?_ ?_ | refine fS ?_ ?_ | exact True.intro)); all_goals (try (first | exact kv | (refine kW (ov_of lks) rfl ?_ ?_))))
  intro st hst
  refine awp_weak _ hst ?_
  clear hst st
  repeat refine gB ?_
  refine aw_weak ⟨lk' [(166, wi false [3]), (167, wi false (List.replicate m 0 ++ [1])), (13, bvl true)], ov [] (pushS S)⟩ ?_ ?_
  · (refine frz hS (by exact rfl) ?_ ?_; all_goals (repeat' (first | refine fF ?_ ?_ | refine fS ?_ ?_ | exact True.intro)); all_goals (try (first | exact kv | (refine kW (ov_of lks) rfl ?_ ?_))))
    · exact kAgg rfl ⟨cS rfl, .base (.keep fun q h => h.elim), trivial⟩
    · refine kAgg rfl ⟨cS rfl, .base (.win (ov_of (by exact rfl)) rfl (by rw [List.length_set, List.length_replicate]; omega) ?_), trivial⟩
      have h := set_last m
      rw [List.drop_zero, List.take_of_length_le (by rw [List.length_set, List.length_replicate]; omega)]
      subst hm
      exact h.symm
  ((first | refine zw1 ?_ | refine zw2 ?_ | refine zw3 ?_); refine s_call (hfar) ?_)
  repeat refine gB ?_
  ((first | refine zw1 ?_ | refine zw2 ?_ | refine zw3 ?_); refine s_call (c_is_same false [] 3 (by decide)) ?_ (hle := by repeat (first | exact trivial | refine ⟨ALe.refl _, ?_⟩ | refine ⟨aleNil _, ?_⟩)))
  repeat refine gB ?_
  ((first | refine zw1 ?_ | refine zw2 ?_ | refine zw3 ?_); refine s_call (c_awake) ?_)
  repeat refine gB ?_
  (refine endF ttOk (.inr rfl) hS (by exact rfl) ?_ (fl' := [(0, bvl true)]) (by exact rfl) (by exact rfl) (by exact rfl); (repeat' (first | refine fF ?_ ?_ | refine fS ?_ ?_ | exact True.intro); all_goals (try (first | exact kv | (refine kW (ov_of lks) rfl ?_ ?_)))))
end Go.Proofs
