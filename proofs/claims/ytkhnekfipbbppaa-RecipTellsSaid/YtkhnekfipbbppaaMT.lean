/-
  An abstract machine for this program, contracts of its functions: part MT (no statement by itself).
-/
import Derived.Test.YtkhnekfipbbppaaProg
import Derived.Test.YtkhnekfipbbppaaMAd
set_option linter.unusedVariables false
set_option linter.unusedSimpArgs false

/-
  The seat's types; the functions that write what they are handed.
-/
namespace Go.Proofs
open Go Go.Abs
noncomputable def tt : TT := [(22, tiOf Try.t22 Try.t22), (26, tiOf Try.t26 Try.t26), (3, tiOf Try.t3 Try.t3), (4, tiOf Try.t4 Try.t4), (24, tiOf Try.t24 Try.t23), (61, tiOf Try.t61 Try.t60), (59, tiOf Try.t59 Try.t59), (27, tiOf Try.t27 Try.t3), (44, tiOf Try.t44 Try.t43), (68, tiOf Try.t68 Try.t68), (5, tiOf Try.t5 Try.t5), (98, tiOf Try.t98 Try.t98), (2, tiOf Try.t2 Try.t2), (40, tiOf Try.t40 Try.t39), (9, tiOf Try.t9 Try.t9)]
theorem ttOk : TOk Try.prog tt := ⟨tiOk Try.type22 rfl rfl, tiOk Try.type26 rfl rfl, tiOk Try.type3 rfl rfl, tiOk Try.type4 rfl rfl, tiOkN Try.type24 rfl Try.type23 rfl, tiOkN Try.type61 rfl Try.type60 rfl, tiOk Try.type59 rfl rfl, tiOkN Try.type27 rfl Try.type3 rfl, tiOkN Try.type44 rfl Try.type43 rfl, tiOk Try.type68 rfl rfl, tiOk Try.type5 rfl rfl, tiOk Try.type98 rfl rfl, tiOk Try.type2 rfl rfl, tiOkN Try.type40 rfl Try.type39 rfl, tiOk Try.type9 rfl rfl, trivial⟩
/-- These functions write what they are handed. -/
def muF : FuncId → Bool := fun f => [68, 86, 87, 67, 95, 43, 40, 41,
  42, 64, 63, 34, 38, 101, 99].any (Nat.beq f)

structure Wr (C : Prop) : Prop where
  p : C
/-- One step that can be taken. -/
theorem gO {A C : Prop} (h : C) (t : Wr C → A := by intro h; (first | refine zr1 ?_ | refine zr2 ?_ | refine zr3 ?_ | refine zr4 ?_ | refine zr5 ?_ | refine zr6 ?_ | refine zr7 ?_ | refine zr8 ?_ | refine zr9 ?_ | refine zr10 ?_ | refine zr11 ?_ | refine zr12 ?_ | refine zr13 ?_ | refine zr14 ?_ | refine zr15 ?_ | refine zr16 ?_ | refine zr17 ?_ | refine zr18 ?_ | refine zr19 ?_ | ((first | refine zw1 ?_ | refine zw2 ?_ | refine zw3 ?_); first | refine zg1 ttOk ?_ | refine zg2 ttOk ?_ | refine zg3 ttOk ?_ | refine zg4 ttOk ?_ | refine zg5 ttOk ?_ | refine zg6 ttOk ?_ | refine zg7 ttOk ?_ | refine zg8 ttOk ?_ | refine zg9 ttOk ?_ | refine zg10 ttOk ?_ | refine zg22 ttOk ?_ | refine zg11 ttOk ?_ | refine zg12 ttOk ?_ | refine zg13 ttOk ?_ | refine zg14 ttOk ?_ | refine zg15 ttOk ?_ | refine zg16 ttOk ?_ | refine zg17 ttOk ?_ | refine zg18 ttOk ?_ | refine zg19 ttOk ?_ | refine zg20 ttOk ?_ | refine zg21 ttOk ?_)); exact h.p) : A := t ⟨h⟩
theorem gN {A C : Prop} (h : C) (t : Wr C → A := by intro h; (first | refine zr1 ?_ | refine zr2 ?_ | refine zr3 ?_ | refine zr4 ?_ | refine zr5 ?_ | refine zr6 ?_ | refine zr7 ?_ | refine zr8 ?_ | refine zr9 ?_ | refine zr10 ?_ | refine zr11 ?_ | refine zr12 ?_ | refine zr13 ?_ | refine zr14 ?_ | refine zr15 ?_ | refine zr16 ?_ | refine zr17 ?_ | refine zr18 ?_ | refine zr19 ?_ | ((first | refine zw1 ?_ | refine zw2 ?_ | refine zw3 ?_); first | refine zg1 ttOk ?_ | refine zg2 ttOk ?_ | refine zg3 ttOk ?_ | refine zc1 ttOk ?_ | refine zc2 ttOk ?_ | refine zc3 ttOk ?_ | refine zc4 ttOk ?_ | refine zc5 ttOk ?_ | refine zc6 ttOk ?_ | refine zc7 ttOk ?_ | refine zc8 ttOk ?_ | refine zc9 ttOk ?_ | refine zc10 ttOk ?_ | refine zc11 ttOk ?_ | refine zc12 ttOk ?_ | refine zn1 ttOk ?_ | refine zn2 ttOk ?_ | refine zn3 ttOk ?_ | refine zn4 ttOk ?_ | refine zn5 ttOk ?_ | refine zn6 ttOk ?_ | refine zn7 ttOk ?_ | refine zn8 ttOk ?_ | refine zn9 ttOk ?_ | refine zn10 ttOk ?_ | refine zn11 ttOk ?_ | refine zn12 ttOk ?_ | refine zg4 ttOk ?_ | refine zg5 ttOk ?_ | refine zg6 ttOk ?_ | refine zg7 ttOk ?_ | refine zg8 ttOk ?_ | refine zg9 ttOk ?_ | refine zg10 ttOk ?_ | refine zg22 ttOk ?_ | refine zg11 ttOk ?_ | refine zg12 ttOk ?_ | refine zg13 ttOk ?_ | refine zg14 ttOk ?_ | refine zg15 ttOk ?_ | refine zg16 ttOk ?_ | refine zg17 ttOk ?_ | refine zg18 ttOk ?_ | refine zg19 ttOk ?_ | refine zg20 ttOk ?_ | refine zg21 ttOk ?_)); exact h.p) : A := t ⟨h⟩
theorem gM {A C : Prop} (h : C) (t : Wr C → A := by intro h; (first | refine zr1 ?_ | refine zr2 ?_ | refine zr3 ?_ | refine zr4 ?_ | refine zr5 ?_ | refine zr6 ?_ | refine zr7 ?_ | refine zr8 ?_ | refine zr9 ?_ | refine zr10 ?_ | refine zr11 ?_ | refine zr12 ?_ | refine zr13 ?_ | refine zr14 ?_ | refine zr15 ?_ | refine zr16 ?_ | refine zr17 ?_ | refine zr18 ?_ | refine zr19 ?_ | ((first | refine zw1 ?_ | refine zw2 ?_ | refine zw3 ?_); first | refine zg1 ttOk ?_ | refine zg2 ttOk ?_ | refine zg3 ttOk ?_ | refine zc1 ttOk ?_ | refine zc2 ttOk ?_ | refine zc3 ttOk ?_ | refine zc4 ttOk ?_ | refine zc5 ttOk ?_ | refine zc6 ttOk ?_ | refine zc7 ttOk ?_ | refine zc8 ttOk ?_ | refine zc9 ttOk ?_ | refine zc10 ttOk ?_ | refine zc11 ttOk ?_ | refine zc12 ttOk ?_ | refine zn1 ttOk ?_ | refine zn2 ttOk ?_ | refine zn3 ttOk ?_ | refine zn4 ttOk ?_ | refine zn5 ttOk ?_ | refine zn6 ttOk ?_ | refine zn7 ttOk ?_ | refine zn8 ttOk ?_ | refine zn9 ttOk ?_ | refine zn10 ttOk ?_ | refine zn11 ttOk ?_ | refine zn12 ttOk ?_ | refine zg4 ttOk ?_ | refine zg5 ttOk ?_ | refine zg6 ttOk ?_ | refine zg7 ttOk ?_ | refine zg8 ttOk ?_ | refine zg9 ttOk ?_ | refine zg10 ttOk ?_ | refine zg22 ttOk ?_ | refine zg11 ttOk ?_ | refine zg12 ttOk ?_ | refine zg15 ttOk ?_ | refine zg16 ttOk ?_ | refine zg17 ttOk ?_ | refine zg18 ttOk ?_ | refine zg19 ttOk ?_ | refine zg20 ttOk ?_ | refine zg21 ttOk ?_)); exact h.p) : A := t ⟨h⟩
theorem gOR {A C : Prop} (h : C) (t : Wr C → A := by intro h; (first | refine zr2 ?_ | refine zr3 ?_ | refine zr4 ?_ | refine zr5 ?_ | refine zr6 ?_ | refine zr7 ?_ | refine zr8 ?_ | refine zr9 ?_ | refine zr10 ?_ | refine zr11 ?_ | refine zr12 ?_ | refine zr13 ?_ | refine zr14 ?_ | refine zr15 ?_ | refine zr16 ?_ | refine zr17 ?_ | refine zr18 ?_ | refine zr19 ?_ | ((first | refine zw1 ?_ | refine zw2 ?_ | refine zw3 ?_); first | refine zg1 ttOk ?_ | refine zg2 ttOk ?_ | refine zg3 ttOk ?_ | refine zg4 ttOk ?_ | refine zg5 ttOk ?_ | refine zg6 ttOk ?_ | refine zg7 ttOk ?_ | refine zg8 ttOk ?_ | refine zg9 ttOk ?_ | refine zg10 ttOk ?_ | refine zg22 ttOk ?_ | refine zg11 ttOk ?_ | refine zg12 ttOk ?_ | refine zg13 ttOk ?_ | refine zg14 ttOk ?_ | refine zg15 ttOk ?_ | refine zg16 ttOk ?_ | refine zg17 ttOk ?_ | refine zg18 ttOk ?_ | refine zg19 ttOk ?_ | refine zg20 ttOk ?_ | refine zg21 ttOk ?_)); exact h.p) : A := t ⟨h⟩
end Go.Proofs

/-
  Numbers by digits: plain laws, no program in sight.
-/
namespace Go.Nums

/-- The number of digits to a base, the lowest first. -/
def val (b : Nat) : List Nat → Nat
  | [] => 0
  | x :: xs => x + b * val b xs

/-- A number's digits, no nought on top. -/
def digs (b n : Nat) : List Nat :=
  if _h : n = 0 ∨ b < 2 then [] else n % b :: digs b (n / b)
termination_by n
decreasing_by exact Nat.div_lt_self (by omega) (by omega)

/-- Digits are in range. -/
def rng (b : Nat) (l : List Nat) : Prop := ∀ x ∈ l, x < b

theorem val_nil (b : Nat) : val b [] = 0 := rfl
theorem val_cons (b x : Nat) (l : List Nat) : val b (x :: l) = x + b * val b l := rfl

theorem val_append (b : Nat) : ∀ l m : List Nat, val b (l ++ m) = val b l + b ^ l.length * val b m
  | [], m => by simp [val]
  | x :: l, m => by
    simp only [List.cons_append, val, val_append b l m, List.length_cons]
    grind

theorem digs_zero (b : Nat) : digs b 0 = [] := by unfold digs; simp
theorem digs_pos {b n : Nat} (hb : 2 ≤ b) (hn : n ≠ 0) : digs b n = n % b :: digs b (n / b) := by
  rw [digs]; rw [dif_neg (by omega)]

theorem digs_nil {b n : Nat} (hb : 2 ≤ b) : digs b n = [] ↔ n = 0 := by
  constructor
  · intro h
    by_cases hn : n = 0
    · exact hn
    · rw [digs_pos hb hn] at h; cases h
  · rintro rfl; exact digs_zero b

theorem val_digs {b : Nat} (hb : 2 ≤ b) : ∀ n, val b (digs b n) = n := by
  intro n
  induction n using Nat.strongRecOn with
  | _ n ih =>
    by_cases hn : n = 0
    · subst hn; simp [digs_zero, val]
    · rw [digs_pos hb hn, val_cons, ih (n / b) (Nat.div_lt_self (by omega) (by omega))]
      exact Nat.mod_add_div n b

theorem rng_digs {b : Nat} (hb : 2 ≤ b) : ∀ n, rng b (digs b n) := by
  intro n
  induction n using Nat.strongRecOn with
  | _ n ih =>
    by_cases hn : n = 0
    · subst hn; simp [digs_zero, rng]
    · rw [digs_pos hb hn]
      intro x hx
      rcases List.mem_cons.1 hx with rfl | hx
      · exact Nat.mod_lt _ (by omega)
      · exact ih (n / b) (Nat.div_lt_self (by omega) (by omega)) x hx

theorem rng_cons {b x : Nat} {l : List Nat} : rng b (x :: l) ↔ x < b ∧ rng b l := by simp [rng]
theorem rng_nil {b : Nat} : rng b [] := by simp [rng]
theorem rng_append {b : Nat} {l m : List Nat} : rng b (l ++ m) ↔ rng b l ∧ rng b m := by
  simp only [rng, List.mem_append]
  exact ⟨fun h => ⟨fun x hx => h x (.inl hx), fun x hx => h x (.inr hx)⟩, fun h x hx => hx.elim (h.1 x) (h.2 x)⟩

theorem val_lt {b : Nat} : ∀ {l : List Nat}, rng b l → val b l < b ^ l.length
  | [], _ => by simp [val]
  | x :: l, h => by
    obtain ⟨h1, h2⟩ := rng_cons.1 h
    have := val_lt h2
    have h3 : b * val b l + b ≤ b * b ^ l.length := by rw [← Nat.mul_succ]; exact Nat.mul_le_mul_left b this
    simp only [val, List.length_cons, Nat.pow_succ]
    rw [Nat.mul_comm (b ^ l.length) b]; omega

theorem val_snoc (b : Nat) (l : List Nat) (x : Nat) : val b (l ++ [x]) = val b l + b ^ l.length * x := by
  rw [val_append]; simp [val]

/-- Right digits, no nought on top: they are the number's own. -/
theorem digs_val {b : Nat} (hb : 2 ≤ b) : ∀ {l : List Nat}, rng b l → (∀ h : l ≠ [], l.getLast h ≠ 0) → digs b (val b l) = l
  | [], _, _ => digs_zero b
  | x :: l, h, hl => by
    obtain ⟨h1, h2⟩ := rng_cons.1 h
    have ih := digs_val hb h2 (fun hne => by have := hl (by simp); rwa [List.getLast_cons hne] at this)
    have hne : val b (x :: l) ≠ 0 := by
      intro h0
      simp only [val] at h0
      have hx : x = 0 := by omega
      have hv : b * val b l = 0 := by omega
      have hv : val b l = 0 := by
        rcases Nat.mul_eq_zero.1 hv with q | q
        · omega
        · exact q
      rw [hv, digs_zero] at ih
      subst ih
      exact hl (by simp) (by simpa using hx)
    rw [digs_pos hb hne, val_cons, Nat.add_mul_mod_self_left, Nat.mod_eq_of_lt h1, Nat.add_mul_div_left _ _ (by omega), Nat.div_eq_of_lt h1, Nat.zero_add, ih]

theorem val_snoc0 (b : Nat) (l : List Nat) : val b (l ++ [0]) = val b l := by rw [val_snoc]; simp

theorem digs_len {b n k : Nat} (hb : 2 ≤ b) : (digs b n).length ≤ k ↔ n < b ^ k := by
  constructor
  · intro h
    have := val_lt (rng_digs hb n)
    rw [val_digs hb] at this
    exact Nat.lt_of_lt_of_le this (Nat.pow_le_pow_right (by omega) h)
  · induction k generalizing n with
    | zero => intro h; simp at h; subst h; simp [digs_zero]
    | succ k ih =>
      intro h
      by_cases hn : n = 0
      · subst hn; simp [digs_zero]
      · rw [digs_pos hb hn, List.length_cons]
        have : n / b < b ^ k := by
          rw [Nat.div_lt_iff_lt_mul (by omega)]; rw [Nat.pow_succ] at h; exact h
        have := ih this
        omega

theorem digs_top {b n : Nat} (hb : 2 ≤ b) : ∀ h : digs b n ≠ [], (digs b n).getLast h ≠ 0 := by
  induction n using Nat.strongRecOn with
  | _ n ih =>
    intro h
    have hn : n ≠ 0 := fun e => h ((digs_nil hb).2 e)
    by_cases hq : n / b = 0
    · have : digs b n = [n % b] := by rw [digs_pos hb hn, hq, digs_zero]
      simp only [this, List.getLast_singleton]
      have := Nat.mod_add_div n b
      rw [hq] at this
      omega
    · have h2 : digs b (n / b) ≠ [] := fun e => hq ((digs_nil hb).1 e)
      have := ih (n / b) (Nat.div_lt_self (by omega) (by omega)) h2
      simp only [digs_pos hb hn]
      rw [List.getLast_cons h2]
      exact this

theorem digs_inj {b n m : Nat} (hb : 2 ≤ b) (h : digs b n = digs b m) : n = m := by
  have := congrArg (val b) h
  rwa [val_digs hb, val_digs hb] at this

/-- As the machine holds them. -/
def U (l : List Nat) : List Int := l.map (fun n : Nat => Int.ofNat n)
theorem U_len (l : List Nat) : (U l).length = l.length := by simp [U]
theorem U_nil : U [] = [] := rfl
theorem U_get (l : List Nat) (i : Nat) : (U l).getD i 0 = ((l.getD i 0 : Nat) : Int) := by
  simp only [U, List.getD_eq_getElem?_getD, List.getElem?_map]
  cases l[i]? <;> rfl
theorem U_take (l : List Nat) (n : Nat) : (U l).take n = U (l.take n) := by simp [U, List.map_take]
theorem U_drop (l : List Nat) (n : Nat) : (U l).drop n = U (l.drop n) := by simp [U, List.map_drop]
theorem U_append (l m : List Nat) : U l ++ U m = U (l ++ m) := by simp [U]
theorem U_set (l : List Nat) (i n : Nat) : (U l).set i n = U (l.set i n) := by simp [U, List.map_set]
theorem U_rep (n x : Nat) : List.replicate n (x : Int) = U (List.replicate n x) := by simp [U]
theorem U_inj {l m : List Nat} (h : U l = U m) : l = m := by
  have : ∀ {l m : List Nat}, U l = U m → l = m := by
    intro l
    induction l with
    | nil => intro m h; cases m <;> simp_all [U]
    | cons x l ih =>
      intro m h
      cases m with
      | nil => simp [U] at h
      | cons y m =>
        simp only [U, List.map_cons, List.cons.injEq] at h
        rw [ih h.2]
        have : x = y := Int.ofNat.inj h.1
        rw [this]
  exact this h
theorem getD_lt {b : Nat} (hb : 0 < b) {l : List Nat} (h : rng b l) (i : Nat) : l.getD i 0 < b := by
  rw [List.getD_eq_getElem?_getD]
  rcases Nat.lt_or_ge i l.length with q | q
  · rw [List.getElem?_eq_getElem q]; exact h _ (List.getElem_mem q)
  · rw [List.getElem?_eq_none q]; exact hb
theorem snoc_of {l : List Nat} (h : 0 < l.length) : l = l.take (l.length - 1) ++ [l.getD (l.length - 1) 0] := by
  have h2 : l.drop (l.length - 1) = [l.getD (l.length - 1) 0] := by
    rw [List.drop_eq_getElem_cons (by omega), List.drop_eq_nil_of_le (by omega)]
    simp [List.getD_eq_getElem?_getD, List.getElem?_eq_getElem (show l.length - 1 < l.length by omega)]
  rw [← h2, List.take_append_drop]
theorem rng_take {b : Nat} {l : List Nat} (h : rng b l) (n : Nat) : rng b (l.take n) := fun x hx => h x (List.mem_of_mem_take hx)
theorem rng_drop {b : Nat} {l : List Nat} (h : rng b l) (n : Nat) : rng b (l.drop n) := fun x hx => h x (List.mem_of_mem_drop hx)
theorem getLast_getD {l : List Nat} (h : l ≠ []) : l.getLast h = l.getD (l.length - 1) 0 := by
  have hp : 0 < l.length := List.length_pos_iff.2 h
  rw [List.getD_eq_getElem?_getD, List.getElem?_eq_getElem (by omega), Option.getD_some, List.getLast_eq_getElem]

theorem val_split (b : Nat) {l : List Nat} {i : Nat} (h : i ≤ l.length) : val b l = val b (l.take i) + b ^ i * val b (l.drop i) := by
  conv => lhs; rw [← List.take_append_drop i l]
  rw [val_append, List.length_take, Nat.min_eq_left h]
theorem drop_getD {l : List Nat} {i : Nat} (h : i < l.length) : l.drop i = l.getD i 0 :: l.drop (i + 1) := by
  rw [List.drop_eq_getElem_cons h, List.getD_eq_getElem?_getD, List.getElem?_eq_getElem h, Option.getD_some]
theorem val_split1 (b : Nat) {l : List Nat} {i : Nat} (h : i < l.length) : val b l = val b (l.take i) + b ^ i * (l.getD i 0 + b * val b (l.drop (i + 1))) := by
  rw [val_split b (Nat.le_of_lt h), drop_getD h, val_cons]
theorem val_take_lt {b : Nat} {l : List Nat} (hr : rng b l) {i : Nat} (h : i ≤ l.length) : val b (l.take i) < b ^ i := by
  have := val_lt (rng_take hr i)
  rwa [List.length_take, Nat.min_eq_left h] at this

theorem val_top_lt {b : Nat} {l m : List Nat} (hl : rng b l) {i : Nat} (h1 : i < l.length) (h2 : i < m.length) (he : l.drop (i + 1) = m.drop (i + 1)) (hlt : l.getD i 0 < m.getD i 0) : val b l < val b m := by
  rw [val_split1 b h1, val_split1 b h2, he]
  have h3 := val_take_lt hl (Nat.le_of_lt h1)
  have h4 : b ^ i * (l.getD i 0 + b * val b (m.drop (i + 1)) + 1) ≤ b ^ i * (m.getD i 0 + b * val b (m.drop (i + 1))) := Nat.mul_le_mul_left _ (by omega)
  rw [Nat.mul_succ] at h4
  omega

theorem len_lt {b n m : Nat} (hb : 2 ≤ b) (h : (digs b n).length < (digs b m).length) : n < m := by
  have h1 : n < b ^ (digs b n).length := (digs_len hb).1 (Nat.le_refl _)
  have h2 : ¬ m < b ^ (digs b n).length := fun q => by have := (digs_len hb).2 q; omega
  omega

/-- Which is less. -/
def cmpN (a b : Nat) : Int := if a < b then -1 else if b < a then 1 else 0

theorem val_take_succ (b : Nat) (l : List Nat) (i : Nat) : val b (l.take (i + 1)) = val b (l.take i) + b ^ i * l.getD i 0 := by
  rcases Nat.lt_or_ge i l.length with q | q
  · rw [List.take_succ_eq_append_getElem q, val_append, List.length_take, Nat.min_eq_left (Nat.le_of_lt q)]
    simp [val, List.getD_eq_getElem?_getD, List.getElem?_eq_getElem q]
  · rw [List.take_of_length_le (by omega), List.take_of_length_le q, List.getD_eq_getElem?_getD, List.getElem?_eq_none q]; simp
theorem take_set_succ {l : List Nat} {i s : Nat} (h : i < l.length) : (l.set i s).take (i + 1) = l.take i ++ [s] := by
  apply List.ext_getElem?
  intro j
  rcases Nat.lt_trichotomy j i with q | q | q
  · rw [List.getElem?_take_of_lt (by omega), List.getElem?_set_ne (by omega), List.getElem?_append_left (by simp; omega), List.getElem?_take_of_lt q]
  · subst q
    rw [List.getElem?_take_of_lt (by omega), List.getElem?_set_self h, List.getElem?_append_right (by simp; omega), List.length_take, Nat.min_eq_left (by omega)]; simp
  · rw [List.getElem?_eq_none (by simp; omega), List.getElem?_eq_none (by simp; omega)]
theorem val_set_take {b : Nat} {l : List Nat} {i s : Nat} (h : i < l.length) : val b ((l.set i s).take (i + 1)) = val b (l.take i) + b ^ i * s := by
  rw [take_set_succ h, val_snoc, List.length_take, Nat.min_eq_left (by omega)]
theorem rng_set {b : Nat} {l : List Nat} (h : rng b l) {i s : Nat} (hs : s < b) : rng b (l.set i s) := fun x hx => by
  rcases List.mem_or_eq_of_mem_set hx with q | q
  · exact h x q
  · rw [q]; exact hs
theorem rng_rep {b : Nat} (hb : 0 < b) (n : Nat) : rng b (List.replicate n 0) := fun x hx => by rw [List.eq_of_mem_replicate hx]; exact hb
theorem take_all {l : List Nat} {n : Nat} (h : l.length ≤ n) : l.take n = l := List.take_of_length_le h

theorem powS (b i : Nat) : b ^ (i + 1) = b ^ i * b := Nat.pow_succ ..
/-- One step of a sum, digit by digit; T stands for b ^ i. -/
theorem add_step (b : Nat) {i : Nat} (T O P Q x y c : Nat) (h : O + T * c = P + Q) (hT : T = b ^ i := by rfl) : O + T * ((x + y + c) % b) + b ^ (i + 1) * ((x + y + c) / b) = P + T * x + (Q + T * y) := by
  rw [powS, ← hT]
  have h1 := Nat.mod_add_div (x + y + c) b
  have h2 : T * ((x + y + c) % b) + T * b * ((x + y + c) / b) = T * (x + y + c) := by rw [Nat.mul_assoc, ← Nat.mul_add, h1]
  rw [Nat.mul_add, Nat.mul_add] at h2
  omega

/-! One digit of a quotient, guessed from the highest ones (base 2^32). -/
theorem kn_le {Y a c u v q r : Nat} (hY : Y = a * 4294967296 + c) (hq : q * a + r = u) : q * Y ≤ u * 4294967296 + v ↔ q * c ≤ 4294967296 * r + v := by
  have : q * Y = q * a * 4294967296 + q * c := by rw [hY, Nat.mul_add, Nat.mul_assoc]
  rw [this, ← hq]
  generalize q * a = x
  generalize q * c = z
  omega
theorem kn_lt {Y u v : Nat} (hu : u < Y) (hv : v < 4294967296) : (u * 4294967296 + v) / Y < 4294967296 := by
  rw [Nat.div_lt_iff_lt_mul (by omega)]
  have : (u + 1) * 4294967296 ≤ Y * 4294967296 := Nat.mul_le_mul_right _ hu
  omega
theorem kn_start {Y a c u v : Nat} (hY : Y = a * 4294967296 + c) (ha : 0 < a) (hv : v < 4294967296) : (u * 4294967296 + v) / Y ≤ u / a := by
  rw [← Nat.lt_succ_iff, Nat.div_lt_iff_lt_mul (show 0 < Y by omega)]
  have h1 : u < (u / a + 1) * a := by rw [Nat.mul_comm]; exact Nat.lt_mul_div_succ u ha
  have h2 : (u + 1) * 4294967296 ≤ (u / a + 1) * a * 4294967296 := Nat.mul_le_mul_right _ h1
  have h3 : (u / a + 1) * Y = (u / a + 1) * a * 4294967296 + (u / a + 1) * c := by rw [hY, Nat.mul_add, Nat.mul_assoc]
  rw [Nat.succ_eq_add_one, h3]
  omega
theorem kn_small {Y a c u : Nat} (hY : Y = a * 4294967296 + c) (ha : 2147483648 ≤ a) (hc : c < 4294967296) (hu : u < Y) : u / a ≤ 4294967298 := by
  rw [← Nat.lt_succ_iff, Nat.div_lt_iff_lt_mul (by omega)]
  rw [Nat.succ_eq_add_one]
  omega
theorem kn_eq {Y N q : Nat} (hY : 0 < Y) (h1 : q * Y ≤ N) (h2 : N / Y ≤ q) : q = N / Y := Nat.le_antisymm ((Nat.le_div_iff_mul_le hY).2 h1) h2
theorem kn_less {Y N q : Nat} (hY : 0 < Y) (h1 : N < q * Y) : N / Y < q := (Nat.div_lt_iff_lt_mul hY).2 h1

/-- One step of a difference; T stands for b ^ i. -/
theorem sub_step (b : Nat) {i : Nat} (T O P Q x y c s c' : Nat) (h : O + Q = P + T * c) (hs : s + y + c = x + b * c') (hT : T = b ^ i := by rfl) : O + T * s + (Q + T * y) = P + T * x + b ^ (i + 1) * c' := by
  rw [powS, ← hT]
  have h2 : T * s + T * y + T * c = T * x + T * b * c' := by rw [← Nat.mul_add, ← Nat.mul_add, hs, Nat.mul_add, Nat.mul_assoc]
  omega
theorem len_mono {b n m : Nat} (hb : 2 ≤ b) (h : n ≤ m) : (digs b n).length ≤ (digs b m).length :=
  (digs_len hb).2 (Nat.lt_of_le_of_lt h ((digs_len hb).1 (Nat.le_refl _)))

theorem val_set (b : Nat) : ∀ {l : List Nat} {j s : Nat}, j < l.length → val b (l.set j s) + b ^ j * l.getD j 0 = val b l + b ^ j * s
  | [], j, s, h => by simp at h
  | x :: l, 0, s, _ => by simp [val]; omega
  | x :: l, j + 1, s, h => by
    have ih := val_set b (l := l) (j := j) (s := s) (by simpa using h)
    have e : b ^ (j + 1) = b * b ^ j := by rw [powS, Nat.mul_comm]
    simp only [List.set_cons_succ, val, List.getD_cons_succ, e, Nat.mul_assoc]
    have := congrArg (b * ·) ih
    simp only [Nat.mul_add] at this
    omega
theorem getD_set {l : List Nat} {i j s : Nat} (h : j < l.length) : (l.set j s).getD i 0 = if i = j then s else l.getD i 0 := by
  by_cases e : i = j
  · subst e; simp [List.getD_eq_getElem?_getD, h]
  · simp [List.getD_eq_getElem?_getD, List.getElem?_set_ne (Ne.symm e), e]
theorem mul_step (b i k : Nat) (T O O' oj s c c' x y A Q : Nat) (hT : T = b ^ (i + k)) (hO : O' + T * oj = O + T * s) (h : O + T * c = A + b ^ i * x * Q) (ht : s + b * c' = x * y + oj + c) :
    O' + b ^ (i + k + 1) * c' = A + b ^ i * x * (Q + b ^ k * y) := by
  have e1 : T * s + T * b * c' = T * (x * y) + T * oj + T * c := by rw [Nat.mul_assoc, ← Nat.mul_add, ht, Nat.mul_add, Nat.mul_add]
  have e2 : b ^ i * x * (b ^ k * y) = T * (x * y) := by rw [hT, Nat.pow_add]; simp only [Nat.mul_assoc, Nat.mul_left_comm x]
  rw [powS, ← hT, Nat.mul_add, e2]
  omega
theorem val_rep0 (b : Nat) : ∀ n, val b (List.replicate n 0) = 0
  | 0 => rfl
  | n + 1 => by rw [List.replicate_succ, val_cons, val_rep0 b n]; rfl
theorem getD_rep0 (n j : Nat) : (List.replicate n 0).getD j 0 = 0 := by
  simp only [List.getD_eq_getElem?_getD, List.getElem?_replicate]; split <;> rfl
theorem drop_set_lt {l : List Nat} {i j s : Nat} (h : j < i) : (l.set j s).drop i = l.drop i := List.drop_set_of_lt h
theorem drop_set_at {l : List Nat} {j s : Nat} (h : j < l.length) : (l.set j s).drop j = s :: l.drop (j + 1) := by
  rw [drop_getD (l := l.set j s) (i := j) (by simpa using h), drop_set_lt (Nat.lt_succ_self j), getD_set h, if_pos rfl]
theorem short_step (b V O by_ r x q r' : Nat) (h : V = O * by_ + r) (hq : q * by_ + r' = r * b + x) : x + b * V = (q + b * O) * by_ + r' := by
  rw [h, Nat.mul_add, Nat.add_mul, Nat.mul_assoc b O by_, Nat.mul_comm b r]
  omega

/-- A limb pushed up by s bits (s below 64): what stays, what goes over. -/
theorem push_up {x s low : Nat} (hx : x < 18446744073709551616) (hs : s < 64) (hl : low < 2 ^ s) :
    (x * 2 ^ s % 18446744073709551616 ||| low) + 18446744073709551616 * (x / 2 ^ (64 - s)) = x * 2 ^ s + low ∧ x / 2 ^ (64 - s) < 2 ^ s ∧ (x * 2 ^ s % 18446744073709551616 ||| low) < 18446744073709551616 := by
  have e : (18446744073709551616 : Nat) = 2 ^ (64 - s) * 2 ^ s := by rw [← Nat.pow_add, show 64 - s + s = 64 by omega]
  have hsp : 0 < 2 ^ s := Nat.two_pow_pos s
  have hle : 2 ^ s ≤ 2 ^ 63 := Nat.pow_le_pow_right (by decide) (by omega)
  have h1 : x * 2 ^ s % 18446744073709551616 = 2 ^ s * (x % 2 ^ (64 - s)) := by rw [e, Nat.mul_mod_mul_right, Nat.mul_comm]
  have h2 : x * 2 ^ s / 18446744073709551616 = x / 2 ^ (64 - s) := by rw [e, Nat.mul_div_mul_right _ _ hsp]
  have h3 := Nat.mod_add_div (x * 2 ^ s) 18446744073709551616
  have h4 : (x * 2 ^ s % 18446744073709551616 ||| low) = x * 2 ^ s % 18446744073709551616 + low := by rw [h1, Nat.two_pow_add_eq_or_of_lt hl]
  refine ⟨by rw [h4]; rw [h2] at h3; omega, ?_, ?_⟩
  · rw [Nat.div_lt_iff_lt_mul (Nat.two_pow_pos _), Nat.mul_comm, ← e]; exact hx
  · exact Nat.or_lt_two_pow (n := 64) (Nat.mod_lt _ (by decide)) (Nat.lt_of_lt_of_le hl (Nat.le_trans hle (by decide)))

theorem fill_next (k m : Nat) {i w : Nat} {o : List Nat} (ho : o.length = i) (h : i ≤ m) :
    (U (List.replicate k 0 ++ o ++ List.replicate (m + 1 - i) 0)).take (k + i) ++ [(w : Int)] ++ (U (List.replicate k 0 ++ o ++ List.replicate (m + 1 - i) 0)).drop (k + i + 1) =
      U (List.replicate k 0 ++ (o ++ [w]) ++ List.replicate (m + 1 - (i + 1)) 0) := by
  have hl : (List.replicate k 0 ++ o).length = k + i := by simp [ho]
  rw [U_take, U_drop, List.take_left' hl, show [(w : Int)] = U [w] from rfl, U_append, U_append]
  congr 1
  rw [← List.drop_drop, List.drop_left' hl, List.drop_replicate, show m + 1 - i - 1 = m + 1 - (i + 1) by omega]
  simp
theorem val_zeros (b k : Nat) (l : List Nat) : val b (List.replicate k 0 ++ l) = b ^ k * val b l := by
  rw [val_append, val_rep0]; simp
theorem rng_zeros {b : Nat} (hb : 0 < b) (k : Nat) {l : List Nat} (h : rng b l) : rng b (List.replicate k 0 ++ l) := rng_append.2 ⟨rng_rep hb k, h⟩

/-- A limb pulled down by s bits, the next one's lower bits on top. -/
theorem pull_down {x y s : Nat} (hx : x < 18446744073709551616) (hs : s < 64) :
    (x / 2 ^ s ||| y * 2 ^ (64 - s) % 18446744073709551616) < 18446744073709551616 ∧ 2 ^ s * (x / 2 ^ s ||| y * 2 ^ (64 - s) % 18446744073709551616) + x % 2 ^ s = x + 18446744073709551616 * (y % 2 ^ s) := by
  have e : (18446744073709551616 : Nat) = 2 ^ s * 2 ^ (64 - s) := by rw [← Nat.pow_add, show s + (64 - s) = 64 by omega]
  have h1 : y * 2 ^ (64 - s) % 18446744073709551616 = 2 ^ (64 - s) * (y % 2 ^ s) := by rw [e, Nat.mul_mod_mul_right, Nat.mul_comm]
  have h2 : x / 2 ^ s < 2 ^ (64 - s) := by rw [Nat.div_lt_iff_lt_mul (Nat.two_pow_pos _), Nat.mul_comm, ← e]; exact hx
  have h3 : (x / 2 ^ s ||| y * 2 ^ (64 - s) % 18446744073709551616) = 2 ^ (64 - s) * (y % 2 ^ s) + x / 2 ^ s := by rw [h1, Nat.or_comm, Nat.two_pow_add_eq_or_of_lt h2]
  have h4 := Nat.mod_add_div x (2 ^ s)
  refine ⟨?_, ?_⟩
  · refine Nat.or_lt_two_pow (n := 64) (Nat.lt_of_le_of_lt (Nat.div_le_self _ _) hx) (Nat.mod_lt _ (by decide))
  · rw [h3, Nat.mul_add, ← Nat.mul_assoc, ← e]; omega
theorem low_zero {x s : Nat} (hs : s < 64) : x * 2 ^ (64 - s) % 18446744073709551616 = 0 ↔ x % 2 ^ s = 0 := by
  have e : (18446744073709551616 : Nat) = 2 ^ s * 2 ^ (64 - s) := by rw [← Nat.pow_add, show s + (64 - s) = 64 by omega]
  rw [e, Nat.mul_mod_mul_right]
  constructor
  · intro h
    rcases Nat.mul_eq_zero.1 h with q | q
    · exact q
    · exact absurd q (Nat.ne_of_gt (Nat.two_pow_pos _))
  · intro h; rw [h, Nat.zero_mul]
theorem right_step (b : Nat) {i : Nat} (T z O D0 P x y w r : Nat) (h : z * O + D0 = P + T * (x % z)) (hw : z * w + x % z = x + b * r) (hT : T = b ^ i := by rfl) : z * (O + T * w) + D0 = P + T * x + b ^ (i + 1) * r := by
  have e : T * (z * w) + T * (x % z) = T * x + T * b * r := by rw [← Nat.mul_add, hw, Nat.mul_add, Nat.mul_assoc]
  rw [powS, ← hT, Nat.mul_add, Nat.mul_left_comm z T w]
  omega

/-! ### Lengths -/
theorem digs_lt {b : Nat} (hb : 2 ≤ b) (n : Nat) : n < b ^ (digs b n).length := (digs_len hb).1 (Nat.le_refl _)
theorem digs_mul_le' {b : Nat} (hb : 2 ≤ b) (n m : Nat) : (digs b (n * m)).length ≤ (digs b n).length + (digs b m).length := by
  rw [digs_len hb, Nat.pow_add]
  rcases Nat.eq_zero_or_pos m with rfl | h
  · rw [Nat.mul_zero]; exact Nat.mul_pos (Nat.pow_pos (by omega)) (Nat.pow_pos (by omega))
  · exact Nat.mul_lt_mul_of_lt_of_le (digs_lt hb n) (Nat.le_of_lt (digs_lt hb m)) (Nat.pow_pos (by omega))
theorem digs_add_le' {b : Nat} (hb : 2 ≤ b) (n m : Nat) : (digs b (n + m)).length ≤ max (digs b n).length (digs b m).length + 1 := by
  rw [digs_len hb, Nat.pow_succ]
  have h1 := Nat.lt_of_lt_of_le (digs_lt hb n) (Nat.pow_le_pow_right (show 0 < b by omega) (Nat.le_max_left (digs b n).length (digs b m).length))
  have h2 := Nat.lt_of_lt_of_le (digs_lt hb m) (Nat.pow_le_pow_right (show 0 < b by omega) (Nat.le_max_right (digs b n).length (digs b m).length))
  have := Nat.mul_le_mul_left (b ^ max (digs b n).length (digs b m).length) hb
  omega

/-! ### A window of a list -/
theorem mid_get {p w r : List Nat} {i : Nat} (h : i < w.length) : (p ++ w ++ r).getD (p.length + i) 0 = w.getD i 0 := by
  rw [List.append_assoc, List.getD_eq_getElem?_getD, List.getElem?_append_right (by omega), Nat.add_sub_cancel_left, List.getElem?_append_left h, ← List.getD_eq_getElem?_getD]
theorem mid_set {p w r : List Nat} {i s : Nat} (h : i < w.length) : (p ++ w ++ r).set (p.length + i) s = p ++ w.set i s ++ r := by
  rw [List.append_assoc, List.append_assoc, List.set_append_right _ _ (by omega), Nat.add_sub_cancel_left, List.set_append_left _ _ h]

/-! ### Digits of a quotient -/
theorem kq {W y T a vt lo Q : Nat} (hW : W = lo + T * a) (hlo : lo < T) (hy : T * vt ≤ y) (hy0 : 0 < y) (hQ : a < (Q + 1) * vt) : W / y ≤ Q := by
  refine Nat.lt_succ_iff.1 ((Nat.div_lt_iff_lt_mul hy0).2 ?_)
  have h1 : W < T * (a + 1) := by rw [hW, Nat.mul_add]; omega
  have h2 : T * (a + 1) ≤ T * ((Q + 1) * vt) := Nat.mul_le_mul_left _ hQ
  have h3 : T * ((Q + 1) * vt) = (Q + 1) * (T * vt) := Nat.mul_left_comm _ _ _
  have h4 : (Q + 1) * (T * vt) ≤ (Q + 1) * y := Nat.mul_le_mul_left _ hy
  exact Nat.lt_of_lt_of_le h1 (Nat.le_trans h2 (by rw [h3]; exact h4))
theorem dig1 (b : Nat) {i : Nat} (T A P V q v w0 lo lo' carry c hi s br br' : Nat) (h : A + q * V = P + T * (br + carry)) (h1 : hi * b + lo = q * v) (h2 : lo' + b * c = lo + carry) (h3 : s + lo' + br = w0 + b * br') (hT : T = b ^ i := by rfl) :
    A + T * s + q * (V + T * v) = P + T * w0 + b ^ (i + 1) * (br' + (hi + c)) := by
  have k : s + q * v + (br + carry) = w0 + b * (br' + (hi + c)) := by
    rw [Nat.mul_add, Nat.mul_add, Nat.mul_comm b hi]; omega
  have k2 : T * s + T * (q * v) + T * (br + carry) = T * w0 + T * (b * (br' + (hi + c))) := by rw [← Nat.mul_add, ← Nat.mul_add, k, Nat.mul_add]
  rw [Nat.pow_succ, ← hT, Nat.mul_assoc T b, Nat.mul_add q, Nat.mul_left_comm q T v]
  omega
theorem val_last (b : Nat) {w : List Nat} {m : Nat} (h : w.length = m + 1) : val b w = val b (w.take m) + b ^ m * w.getD m 0 := by
  have := val_take_succ b w m
  rwa [take_all (by omega)] at this

/-! ### Digits by their places -/
theorem getD_val {b : Nat} (hb : 0 < b) : ∀ {l : List Nat} (i : Nat), rng b l → l.getD i 0 = val b l / b ^ i % b
  | [], i, _ => by simp [val]
  | x :: l, 0, h => by
    rw [rng_cons] at h
    simp [val_cons, Nat.mod_eq_of_lt h.1]
  | x :: l, i + 1, h => by
    rw [rng_cons] at h
    rw [List.getD_cons_succ, getD_val hb i h.2, val_cons, Nat.pow_succ, Nat.mul_comm (b ^ i), ← Nat.div_div_eq_div_mul, Nat.add_mul_div_left _ _ hb, Nat.div_eq_of_lt h.1, Nat.zero_add]
theorem val_of_getD {b n : Nat} (hb : 0 < b) : ∀ (k : Nat) (l : List Nat), (∀ i, i < k → l.getD i 0 = n / b ^ i % b) → val b (l.take k) = n % b ^ k
  | 0, l, _ => by simp [val, Nat.mod_one]
  | k + 1, l, h => by
    rw [val_take_succ, val_of_getD hb k l (fun i hi => h i (by omega)), h k (by omega), Nat.pow_succ, Nat.mod_mul]
theorem digit_sub (n k r : Nat) (hr : r < 8) : n / 18446744073709551616 ^ k % 18446744073709551616 / 2 ^ (8 * r) % 256 = n / 256 ^ (8 * k + r) % 256 := by
  have e1 : (18446744073709551616 : Nat) = 256 ^ 8 := by decide
  have e2 : 2 ^ (8 * r) = 256 ^ r := by rw [show (256 : Nat) = 2 ^ 8 from rfl, ← Nat.pow_mul]
  rw [e1, e2, ← Nat.pow_mul, Nat.pow_add, ← Nat.div_div_eq_div_mul]
  obtain ⟨m, hm⟩ : ∃ m, m = n / 256 ^ (8 * k) := ⟨_, rfl⟩
  rw [← hm, show (256 : Nat) ^ 8 = 256 ^ r * 256 ^ (8 - r) by rw [← Nat.pow_add]; congr 1; omega, Nat.mod_mul_right_div_self, Nat.mod_mod_of_dvd]
  exact ⟨256 ^ (7 - r), by rw [← Nat.pow_succ']; congr 1; omega⟩
theorem getD_rev {l : List Nat} {i : Nat} (h : i < l.length) : l.reverse.getD i 0 = l.getD (l.length - 1 - i) 0 := by
  rw [List.getD_eq_getElem?_getD, List.getD_eq_getElem?_getD, List.getElem?_reverse h]
theorem rng_rev {b : Nat} {l : List Nat} (h : rng b l) : rng b l.reverse := fun x hx => h x (by simpa using hx)
theorem or_low {a b k : Nat} (ha : a % 2 ^ k = 0) (hb : b < 2 ^ k) : a ||| b = a + b := by
  have : a = 2 ^ k * (a / 2 ^ k) := by have := Nat.div_add_mod a (2 ^ k); omega
  rw [this, ← Nat.two_pow_add_eq_or_of_lt hb]
end Go.Nums
