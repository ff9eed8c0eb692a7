/-
  An abstract machine for this program, contracts of its functions: part MEa (no statement by itself).
-/
import Derived.Test.YtkhnekfipbbppaaMBd
set_option linter.unusedVariables false
set_option linter.unusedSimpArgs false

/-
  The reference's natural numbers: NatTrim, NatOf, low, halves, limbs, digit.
-/
namespace Go.Proofs
open Go Go.Abs Go.Nums
attribute [local irreducible] thenA blockA awp aw Stp EndF EndP EndN EndG aOps
set_option linter.unusedSimpArgs false
set_option maxHeartbeats 4000000

theorem fSZ {S : Store} {B' : Store} {sl r : SL} {d : Nat} {ty : TypeId} {k : IntKind} (h2 : FrzS (ov sl (pushS S)) B' r) (hf : freeO sl d = true := by exact rfl) : FrzS (ov sl (pushS S)) B' ((.loc d, .acc ty k []) :: r) :=
  ⟨.inr ⟨fun o ho => (by rw [freeO_spec hf] at ho; cases ho), _, _, rfl⟩, h2⟩
theorem kNZ {A C : Store} {m : Nm} {ty : TypeId} {k : IntKind} (h : C m = some (.acc ty k [])) : FrzV A C nils (.accv m) := .nilA h

abbrev H : Nat := 4294967296
theorem hH : 2 ≤ H := by decide

theorem digs_pre {b : Nat} (hb : 2 ≤ b) {l : List Nat} (hl : rng b l) : (digs b (val b l)).length ≤ l.length ∧ l = digs b (val b l) ++ List.replicate (l.length - (digs b (val b l)).length) 0 := by
  have h1 : (digs b (val b l)).length ≤ l.length := (digs_len hb).2 (val_lt hl)
  refine ⟨h1, val_inj (b := b) (by omega) hl (rng_append.2 ⟨rng_digs hb _, rng_rep (by omega) _⟩) (by simp; omega) ?_⟩
  rw [val_append, val_digs hb, val_rep0]; simp
theorem digs_take {b : Nat} (hb : 2 ≤ b) {l : List Nat} (hl : rng b l) : l.take (digs b (val b l)).length = digs b (val b l) := by
  have h := (digs_pre hb hl).2
  exact (congrArg (List.take (digs b (val b l)).length) h).trans (by rw [List.take_left' rfl])
/-- Where noughts at the end are no more. -/
theorem trim_end {b n : Nat} (hb : 2 ≤ b) {l : List Nat} (hl : rng b l) (h1 : n ≤ l.length) (h2 : val b (l.take n) = val b l) (h3 : n = 0 ∨ l.getD (n - 1) 0 ≠ 0) : n = (digs b (val b l)).length := by
  rw [← h2]
  have e : digs b (val b (l.take n)) = l.take n := by
    refine digs_val hb (rng_take hl _) fun hne => ?_
    rw [getLast_getD hne, List.length_take, Nat.min_eq_left h1]
    rcases h3 with h3 | h3
    · subst h3; simp at hne
    · have q : n ≠ 0 := by intro q; subst q; simp at hne
      rw [List.getD_eq_getElem?_getD, List.getElem?_take_of_lt (by omega), ← List.getD_eq_getElem?_getD]; exact h3
  rw [e, List.length_take, Nat.min_eq_left h1]

theorem U_snoc (o : List Nat) (v : Nat) : U o ++ [(v : Int)] = U (o ++ [v]) := U_append o [v]
theorem rng1' {m : Nat} (h : m < 18446744073709551616) : rng B [m] := by intro x hx; simp only [List.mem_singleton] at hx; subst hx; exact h

theorem take_snoc0 {l : List Nat} {i : Nat} (h : i < l.length) : l.take (i + 1) = l.take i ++ [l.getD i 0] := by
  rw [List.take_add_one, List.getD_eq_getElem?_getD]; simp [List.getElem?_eq_getElem h]

theorem c_nattrim (l : List Nat) (hl : rng B l) (hs : l.length < 2 ^ 42) : AFun Try.prog 50 [us l] (us (digs B (val B l))) := by
  refine afun (mu := muF) Try.func50 rfl (by decide) rfl (by decide) (Nat.le_of_ble_eq_true rfl) (by simp [nm0, AVal.at, AVal.at1, Cell.at]) (by simp [nm0, AVal.at, AVal.at1, Cell.at]) fun S hS => ?_
  have hU := U_len l
  repeat refine gN ?_
  refine awp_midB (fun st => Weak st ⟨lk' [(0, us l), (3, iv (digs B (val B l)).length)], ov [] (pushS S)⟩) ?_ ?_
  · refine awp_rep (ι := Nat) (fun n => ⟨lk' [(0, us l), (3, iv n)], ov [] (pushS S)⟩) (fun n => n ≤ l.length ∧ val B (l.take n) = val B l) (fun n => n) l.length ⟨Nat.le_refl _, by rw [take_all (Nat.le_refl _)]⟩ ?_ ?_
    · (refine frz hS (by exact rfl) ?_ ?_; all_goals (repeat' (first | refine fF ?_ ?_ | refine fS ?_ ?_ | exact True.intro)); all_goals (try (first | exact kv | (refine kW (ov_of lks) rfl ?_ ?_))))
    rintro n ⟨h1, h2⟩
    repeat refine gN ?_
    ((first | refine zw1 ?_ | refine zw2 ?_ | refine zw3 ?_); refine s_cmp (fun h3 => ?_) (fun h3 => ?_))
    · repeat refine gN ?_
      have e : ((n : Int) - 1).toNat = n - 1 := by omega
      rw [e]
      ((first | refine zw1 ?_ | refine zw2 ?_ | refine zw3 ?_); refine s_cmp (fun h4 => ?_) (fun h4 => ?_))
      · repeat refine gN ?_
        refine ⟨n - 1, ?_, ⟨by omega, ?_⟩, by omega⟩
        · (refine frz hS (by exact rfl) ?_ ?_; all_goals (repeat' (first | refine fF ?_ ?_ | refine fS ?_ ?_ | exact True.intro)); all_goals (try (first | exact kv | (refine kW (ov_of lks) rfl ?_ ?_))))
        · rw [← h2]
          conv => rhs; rw [show n = n - 1 + 1 by omega, val_take_succ]
          rw [show l.getD (n - 1) 0 = 0 by omega]; simp
      · repeat refine gN ?_
        rw [← trim_end hB hl h1 h2 (.inr (by omega))]
        (refine frz hS (by exact rfl) ?_ ?_; all_goals (repeat' (first | refine fF ?_ ?_ | refine fS ?_ ?_ | exact True.intro)); all_goals (try (first | exact kv | (refine kW (ov_of lks) rfl ?_ ?_))))
    · repeat refine gN ?_
      rw [← trim_end hB hl h1 h2 (.inl (by omega))]
      (refine frz hS (by exact rfl) ?_ ?_; all_goals (repeat' (first | refine fF ?_ ?_ | refine fS ?_ ?_ | exact True.intro)); all_goals (try (first | exact kv | (refine kW (ov_of lks) rfl ?_ ?_))))
  intro st hst
  refine awp_weak _ hst ?_
  clear hst st
  have h1 := (digs_pre hB hl).1
  have hd := digs_take hB hl
  obtain ⟨D, hD⟩ : ∃ D, D = digs B (val B l) := ⟨_, rfl⟩
  rw [← hD] at h1 hd ⊢
  repeat refine gN ?_
  rw [show ((D.length : Nat) : Int).toNat = D.length by omega, show List.take (D.length - 0) (List.drop 0 (U l)) = U D by rw [List.drop_zero, U_take, Nat.sub_zero, hd]]
  have hUD := U_len D
  ((first | refine zw1 ?_ | refine zw2 ?_ | refine zw3 ?_); refine s_app08 ttOk (Y := U D) srcE_ints (by omega) ?_)
  repeat refine gN ?_
  (refine endF ttOk (.inr rfl) hS (by exact rfl) ?_ (fl' := [(2, us D)]) (by exact rfl) (by exact rfl) (by exact rfl); (repeat' (first | refine fF ?_ ?_ | refine fS ?_ ?_ | exact True.intro); all_goals (try (first | exact kv | (refine kW (ov_of lks) rfl ?_ ?_)))))
  exact kAcc (ov_of lks) rfl rfl

theorem digs_of {b x : Nat} (hb : 2 ≤ b) (hx : x < b) : val b [x] = x ∧ rng b [x] := ⟨by simp [val], by intro y hy; simp only [List.mem_singleton] at hy; subst hy; exact hx⟩

theorem c_natof (x : Nat) (hx : x < B) : AFun Try.prog 51 [uv x] (us (digs B x)) := by
  refine afun (mu := muF) Try.func51 rfl (by decide) rfl (by decide) (Nat.le_of_ble_eq_true rfl) (by simp [nm0, AVal.at, AVal.at1, Cell.at]) (by simp [nm0, AVal.at, AVal.at1, Cell.at]) fun S hS => ?_
  repeat refine gN ?_
  refine aw_weak ⟨lk' [(4, us [x])], ov [] (pushS S)⟩ ?_ ?_
  · (refine frz hS (by exact rfl) ?_ ?_; all_goals (repeat' (first | refine fF ?_ ?_ | refine fS ?_ ?_ | exact True.intro)); all_goals (try (first | exact kv | (refine kW (ov_of lks) rfl ?_ ?_))))
    · simp
    · rfl
  obtain ⟨h1, h2⟩ := digs_of hB hx
  ((first | refine zw1 ?_ | refine zw2 ?_ | refine zw3 ?_); refine s_call (c_nattrim [x] h2 (by simp)) ?_)
  rw [h1]
  repeat refine gN ?_
  (refine endF ttOk (.inr rfl) hS (by exact rfl) ?_ (fl' := [(2, us (digs B x))]) (by exact rfl) (by exact rfl) (by exact rfl); (repeat' (first | refine fF ?_ ?_ | refine fS ?_ ?_ | exact True.intro); all_goals (try (first | exact kv | (refine kW (ov_of lks) rfl ?_ ?_)))))

theorem c_low (l : List Nat) (hl : rng H l) (hs : l.length < 2 ^ 42) : AFun Try.prog 94 [us l] (us (digs H (val H l))) := by
  refine afun (mu := muF) Try.func94 rfl (by decide) rfl (by decide) (Nat.le_of_ble_eq_true rfl) (by simp [nm0, AVal.at, AVal.at1, Cell.at]) (by simp [nm0, AVal.at, AVal.at1, Cell.at]) fun S hS => ?_
  have hU := U_len l
  repeat refine gN ?_
  refine awp_midB (fun st => Weak st ⟨lk' [(0, us l), (3, iv (digs H (val H l)).length)], ov [] (pushS S)⟩) ?_ ?_
  · refine awp_rep (ι := Nat) (fun n => ⟨lk' [(0, us l), (3, iv n)], ov [] (pushS S)⟩) (fun n => n ≤ l.length ∧ val H (l.take n) = val H l) (fun n => n) l.length ⟨Nat.le_refl _, by rw [take_all (Nat.le_refl _)]⟩ ?_ ?_
    · (refine frz hS (by exact rfl) ?_ ?_; all_goals (repeat' (first | refine fF ?_ ?_ | refine fS ?_ ?_ | exact True.intro)); all_goals (try (first | exact kv | (refine kW (ov_of lks) rfl ?_ ?_))))
    rintro n ⟨h1, h2⟩
    repeat refine gN ?_
    ((first | refine zw1 ?_ | refine zw2 ?_ | refine zw3 ?_); refine s_cmp (fun h3 => ?_) (fun h3 => ?_))
    · repeat refine gN ?_
      have e : ((n : Int) - 1).toNat = n - 1 := by omega
      rw [e]
      ((first | refine zw1 ?_ | refine zw2 ?_ | refine zw3 ?_); refine s_cmp (fun h4 => ?_) (fun h4 => ?_))
      · repeat refine gN ?_
        refine ⟨n - 1, ?_, ⟨by omega, ?_⟩, by omega⟩
        · (refine frz hS (by exact rfl) ?_ ?_; all_goals (repeat' (first | refine fF ?_ ?_ | refine fS ?_ ?_ | exact True.intro)); all_goals (try (first | exact kv | (refine kW (ov_of lks) rfl ?_ ?_))))
        · rw [← h2]
          conv => rhs; rw [show n = n - 1 + 1 by omega, val_take_succ]
          rw [show l.getD (n - 1) 0 = 0 by omega]; simp
      · repeat refine gN ?_
        rw [← trim_end hH hl h1 h2 (.inr (by omega))]
        (refine frz hS (by exact rfl) ?_ ?_; all_goals (repeat' (first | refine fF ?_ ?_ | refine fS ?_ ?_ | exact True.intro)); all_goals (try (first | exact kv | (refine kW (ov_of lks) rfl ?_ ?_))))
    · repeat refine gN ?_
      rw [← trim_end hH hl h1 h2 (.inl (by omega))]
      (refine frz hS (by exact rfl) ?_ ?_; all_goals (repeat' (first | refine fF ?_ ?_ | refine fS ?_ ?_ | exact True.intro)); all_goals (try (first | exact kv | (refine kW (ov_of lks) rfl ?_ ?_))))
  intro st hst
  refine awp_weak _ hst ?_
  clear hst st
  have h1 := (digs_pre hH hl).1
  have hd := digs_take hH hl
  obtain ⟨D, hD⟩ : ∃ D, D = digs H (val H l) := ⟨_, rfl⟩
  rw [← hD] at h1 hd ⊢
  repeat refine gN ?_
  rw [show ((D.length : Nat) : Int).toNat = D.length by omega, show List.take (D.length - 0) (List.drop 0 (U l)) = U D by rw [List.drop_zero, U_take, Nat.sub_zero, hd]]
  (refine endF ttOk (.inr rfl) hS (by exact rfl) ?_ (fl' := [(2, us D)]) (by exact rfl) (by exact rfl) (by exact rfl); (repeat' (first | refine fF ?_ ?_ | refine fS ?_ ?_ | exact True.intro); all_goals (try (first | exact kv | (refine kW (ov_of lks) rfl ?_ ?_)))))

/-- Limbs in digits of 32 bits. -/
def hv : List Nat → List Nat
  | [] => []
  | x :: l => x % 4294967296 :: x / 4294967296 :: hv l
theorem hv_snoc : ∀ (l : List Nat) (x : Nat), hv (l ++ [x]) = hv l ++ [x % 4294967296, x / 4294967296]
  | [], x => rfl
  | y :: l, x => by simp only [List.cons_append, hv, hv_snoc l x]
theorem hv_len : ∀ l : List Nat, (hv l).length = 2 * l.length
  | [] => rfl
  | x :: l => by simp only [hv, List.length_cons, hv_len l]; omega
theorem hv_val : ∀ l : List Nat, val H (hv l) = val B l
  | [] => rfl
  | x :: l => by
    simp only [hv, val_cons, hv_val l]
    have e : ∀ a q r v : Nat, r + 4294967296 * q = a → r + 4294967296 * (q + 4294967296 * v) = a + 18446744073709551616 * v := by intros; omega
    exact e _ _ _ _ (Nat.mod_add_div x 4294967296)
theorem hv_rng : ∀ {l : List Nat}, rng B l → rng H (hv l)
  | [], _ => rng_nil
  | x :: l, h => by
    obtain ⟨h1, h2⟩ := rng_cons.1 h
    have h1 : x < 18446744073709551616 := h1
    exact rng_cons.2 ⟨Nat.mod_lt _ (by decide), rng_cons.2 ⟨show x / 4294967296 < 4294967296 by omega, hv_rng h2⟩⟩

theorem c_halves (l : List Nat) (hl : rng B l) (hs : l.length < 2 ^ 40) : AFun Try.prog 79 [us l] (us (digs H (val B l))) := by
  refine afun (mu := muF) Try.func79 rfl (by decide) rfl (by decide) (Nat.le_of_ble_eq_true rfl) (by simp [nm0, AVal.at, AVal.at1, Cell.at]) (by simp [nm0, AVal.at, AVal.at1, Cell.at]) fun S hS => ?_
  have hU := U_len l
  repeat refine gN ?_
  refine awp_rep (ι := Nat) (fun i => ⟨lk' [(0, us l), (3, .accv (.loc 23)), (4, iv i)], ov [(.loc 23, .acc 26 .u64 (U (hv (l.take i))))] (pushS S)⟩) (fun i => i ≤ l.length) (fun i => l.length - i) 0 (Nat.zero_le _) ?_ ?_
  · refine frz hS (by exact rfl) (fSZ trivial) ?_
    (repeat' (first | refine fF ?_ ?_ | refine fS ?_ ?_ | exact True.intro); all_goals (try (first | exact kv | (refine kW (ov_of lks) rfl ?_ ?_))))
    exact kNZ (ov_of lks)
  intro i h1
  have hUo := U_len (hv (l.take i))
  have hlo := hv_len (l.take i)
  rw [List.length_take, Nat.min_eq_left h1] at hlo
  repeat refine gN ?_
  ((first | refine zw1 ?_ | refine zw2 ?_ | refine zw3 ?_); refine s_cmp (fun h2 => ?_) (fun h2 => ?_))
  · repeat refine gN ?_
    have hx : l.getD i 0 < 18446744073709551616 := getD_lt (by decide) hl i
    obtain ⟨x, hxe⟩ : ∃ x, x = l.getD i 0 := ⟨_, rfl⟩
    rw [← hxe] at hx ⊢
    repeat refine gN ?_
    ((first | refine zw1 ?_ | refine zw2 ?_ | refine zw3 ?_); refine s_app8 ttOk (Y := [((x % 4294967296 : Nat) : Int), ((x / 4294967296 : Nat) : Int)]) ?_ ?_ ?_; (· exact srcE_win (L := [((x % 4294967296 : Nat) : Int), ((x / 4294967296 : Nat) : Int)]) lks (by simp)); (· simp only [List.length_append, List.length_nil, List.length_cons] at *; omega))
    repeat refine gN ?_
    have e : U (hv (l.take i)) ++ [((x % 4294967296 : Nat) : Int), ((x / 4294967296 : Nat) : Int)] = U (hv (l.take (i + 1))) := by
      rw [take_snoc0 (by omega), hv_snoc, ← hxe, ← U_append]; rfl
    rw [e]
    refine ⟨i + 1, ?_, by omega, by omega⟩
    (refine frz hS (by exact rfl) ?_ ?_; all_goals (repeat' (first | refine fF ?_ ?_ | refine fS ?_ ?_ | exact True.intro)); all_goals (try (first | exact kv | (refine kW (ov_of lks) rfl ?_ ?_))))
  · repeat refine gN ?_
    have hi : i = l.length := by omega
    subst hi
    rw [take_all (Nat.le_refl _)] at *
    ((first | refine aw_fz 23 ?_ ?_ | refine awp_fz 23 ?_ ?_); rotate_left; · (repeat' (first | exact True.intro | refine And.intro ?_ ?_)) <;> first | (show _ ≤ _; simp; done) | (show _ ≤ _; simp; omega) | (show _ ≤ _; omega))
    ((first | refine zw1 ?_ | refine zw2 ?_ | refine zw3 ?_); refine s_call (c_low (hv l) (hv_rng hl) (by omega)) ?_)
    rw [hv_val]
    repeat refine gN ?_
    (refine endF ttOk (.inr rfl) hS (by exact rfl) ?_ (fl' := [(2, us (digs H (val B l)))]) (by exact rfl) (by exact rfl) (by exact rfl); (repeat' (first | refine fF ?_ ?_ | refine fS ?_ ?_ | exact True.intro); all_goals (try (first | exact kv | (refine kW (ov_of lks) rfl ?_ ?_)))))


theorem c_dig (l : List Nat) (i : Nat) (hi : i < 2 ^ 60) : AFun Try.prog 80 [us l, iv i] (uv (l.getD i 0)) := by
  refine afun (mu := muF) Try.func80 rfl (by decide) rfl (by decide) (Nat.le_of_ble_eq_true rfl) (by simp [nm0, AVal.at, AVal.at1, Cell.at]) (by simp [nm0, AVal.at, AVal.at1, Cell.at]) fun S hS => ?_
  repeat refine gN ?_
  ((first | refine zw1 ?_ | refine zw2 ?_ | refine zw3 ?_); refine s_cmp (fun h => ?_) (fun h => ?_))
  · repeat refine gN ?_
    (refine endF ttOk (.inr rfl) hS (by exact rfl) ?_ (fl' := [(4, uv (l.getD i 0))]) (by exact rfl) (by exact rfl) (by exact rfl); (repeat' (first | refine fF ?_ ?_ | refine fS ?_ ?_ | exact True.intro); all_goals (try (first | exact kv | (refine kW (ov_of lks) rfl ?_ ?_)))))
  · repeat refine gN ?_
    (refine endF ttOk (.inr rfl) hS (by exact rfl) ?_ (fl' := [(4, uv (l.getD i 0))]) (by exact rfl) (by exact rfl) (by exact rfl); (repeat' (first | refine fF ?_ ?_ | refine fS ?_ ?_ | exact True.intro); all_goals (try (first | exact kv | (refine kW (ov_of lks) rfl ?_ ?_)))))
    exact kN (by rw [List.getD_eq_getElem?_getD, List.getElem?_eq_none (by omega)]; rfl)

theorem pair_step (l : List Nat) (k : Nat) : val H (l.take (2 * (k + 1))) = val H (l.take (2 * k)) + B ^ k * (l.getD (2 * k) 0 + 4294967296 * l.getD (2 * k + 1) 0) := by
  rw [show 2 * (k + 1) = 2 * k + 1 + 1 by omega, val_take_succ, val_take_succ, Nat.pow_succ, Nat.pow_mul, show H ^ 2 = B from rfl, Nat.mul_add, Nat.add_assoc, Nat.mul_assoc]

theorem c_limbs0 (l : List Nat) (hl : rng H l) (hs : l.length < 2 ^ 40) : AFun Try.prog 77 [us l] (us (digs B (val H l))) := by
  refine afun (mu := muF) Try.func77 rfl (by decide) rfl (by decide) (Nat.le_of_ble_eq_true rfl) (by simp [nm0, AVal.at, AVal.at1, Cell.at]) (by simp [nm0, AVal.at, AVal.at1, Cell.at]) fun S hS => ?_
  have hU := U_len l
  repeat refine gN ?_
  refine awp_rep2 (fun (k : Nat) (o : List Nat) => ⟨lk' [(0, us l), (3, .accv (.loc 32)), (4, iv (2 * k))], ov [(.loc 32, .acc 26 .u64 (U o))] (pushS S)⟩)
    (fun k o => 2 * k ≤ l.length + 1 ∧ o.length = k ∧ rng B o ∧ val B o = val H (l.take (2 * k))) (fun k _ => l.length + 2 - 2 * k) 0 [] ⟨by omega, rfl, rng_nil, rfl⟩ ?_ ?_
  · refine frz hS (by exact rfl) (fSZ trivial) ?_
    (repeat' (first | refine fF ?_ ?_ | refine fS ?_ ?_ | exact True.intro); all_goals (try (first | exact kv | (refine kW (ov_of lks) rfl ?_ ?_))))
    exact kNZ (ov_of lks)
  rintro k o ⟨h1, h2, h3, h4⟩
  have hUo := U_len o
  repeat refine gN ?_
  ((first | refine zw1 ?_ | refine zw2 ?_ | refine zw3 ?_); refine s_cmp (fun h5 => ?_) (fun h5 => ?_))
  · repeat refine gN ?_
    have hx : l.getD (2 * k) 0 < 4294967296 := getD_lt (by decide) hl _
    have hy : l.getD (2 * k + 1) 0 < 4294967296 := getD_lt (by decide) hl _
    have hps := pair_step l k
    obtain ⟨x, hxe⟩ : ∃ x, x = l.getD (2 * k) 0 := ⟨_, rfl⟩
    obtain ⟨y, hye⟩ : ∃ y, y = l.getD (2 * k + 1) 0 := ⟨_, rfl⟩
    rw [← hxe] at hx ⊢
    rw [← hye] at hy
    rw [← hxe, ← hye] at hps
    ((first | refine zw1 ?_ | refine zw2 ?_ | refine zw3 ?_); refine s_cmp (fun h6 => ?_) (fun h6 => ?_))
    · repeat refine gN ?_
      rw [← hye]
      ((first | refine zw1 ?_ | refine zw2 ?_ | refine zw3 ?_); refine s_app8 ttOk (Y := [((x + 4294967296 * y : Nat) : Int)]) ?_ ?_ ?_; (· exact srcE_win (L := [((x + 4294967296 * y : Nat) : Int)]) lks (by simp)); (· simp only [List.length_append, List.length_nil, List.length_cons] at *; omega))
      repeat refine gN ?_
      rw [U_snoc]
      refine ⟨k + 1, o ++ [x + 4294967296 * y], ?_, ⟨by omega, by simp [h2], rng_append.2 ⟨h3, rng1' (by omega)⟩, ?_⟩, by omega⟩
      · (refine frz hS (by exact rfl) ?_ ?_; all_goals (repeat' (first | refine fF ?_ ?_ | refine fS ?_ ?_ | exact True.intro)); all_goals (try (first | exact kv | (refine kW (ov_of lks) rfl ?_ ?_))))
      · rw [val_snoc, h2, h4, hps]
    · have hy0 : y = 0 := by rw [hye, List.getD_eq_getElem?_getD, List.getElem?_eq_none (by omega)]; rfl
      subst hy0
      repeat refine gN ?_
      ((first | refine zw1 ?_ | refine zw2 ?_ | refine zw3 ?_); refine s_app8 ttOk (Y := [((x : Nat) : Int)]) ?_ ?_ ?_; (· exact srcE_win (L := [((x : Nat) : Int)]) lks (by simp)); (· simp only [List.length_append, List.length_nil, List.length_cons] at *; omega))
      repeat refine gN ?_
      rw [U_snoc]
      refine ⟨k + 1, o ++ [x], ?_, ⟨by omega, by simp [h2], rng_append.2 ⟨h3, rng1' (by omega)⟩, ?_⟩, by omega⟩
      · (refine frz hS (by exact rfl) ?_ ?_; all_goals (repeat' (first | refine fF ?_ ?_ | refine fS ?_ ?_ | exact True.intro)); all_goals (try (first | exact kv | (refine kW (ov_of lks) rfl ?_ ?_))))
      · rw [val_snoc, h2, h4, hps, Nat.mul_zero, Nat.add_zero]
  · repeat refine gN ?_
    rw [take_all (by omega)] at h4
    ((first | refine aw_fz 32 ?_ ?_ | refine awp_fz 32 ?_ ?_); rotate_left; · (repeat' (first | exact True.intro | refine And.intro ?_ ?_)) <;> first | (show _ ≤ _; simp; done) | (show _ ≤ _; simp; omega) | (show _ ≤ _; omega))
    ((first | refine zw1 ?_ | refine zw2 ?_ | refine zw3 ?_); refine s_call (c_nattrim o h3 (by omega)) ?_)
    rw [h4]
    repeat refine gN ?_
    (refine endF ttOk (.inr rfl) hS (by exact rfl) ?_ (fl' := [(2, us (digs B (val H l)))]) (by exact rfl) (by exact rfl) (by exact rfl); (repeat' (first | refine fF ?_ ?_ | refine fS ?_ ?_ | exact True.intro); all_goals (try (first | exact kv | (refine kW (ov_of lks) rfl ?_ ?_)))))
end Go.Proofs

/-
  The reference's natural numbers: NatAdd, NatSub.
-/
namespace Go.Proofs
open Go Go.Abs Go.Nums
attribute [local irreducible] thenA blockA awp aw Stp EndF EndP EndN EndG aOps
set_option linter.unusedSimpArgs false
set_option maxHeartbeats 4000000

theorem digsH_len (a : Nat) : (digs H a).length ≤ 2 * (digs B a).length := by
  rw [digs_len hH, Nat.pow_mul]; exact digs_lt hB a
theorem c_halvesD (a : Nat) (ha : (digs B a).length < 2 ^ 40) : AFun Try.prog 79 [us (digs B a)] (us (digs H a)) := by
  have h := c_halves (digs B a) (rng_digs hB a) ha
  rwa [val_digs hB] at h
theorem getH_lt (a i : Nat) : (digs H a).getD i 0 < 4294967296 := getD_lt (by decide) (rng_digs hH a) i

theorem c_natadd (a b : Nat) (ha : (digs B a).length < 2 ^ 38) (hb : (digs B b).length < 2 ^ 38) : AFun Try.prog 58 [us (digs B a), us (digs B b)] (us (digs B (a + b))) := by
  refine afun (mu := muF) Try.func58 rfl (by decide) rfl (by decide) (Nat.le_of_ble_eq_true rfl) (by simp [nm0, AVal.at, AVal.at1, Cell.at]) (by simp [nm0, AVal.at, AVal.at1, Cell.at]) fun S hS => ?_
  repeat refine gN ?_
  ((first | refine zw1 ?_ | refine zw2 ?_ | refine zw3 ?_); refine s_call (c_halvesD a (by omega)) ?_)
  repeat refine gN ?_
  ((first | refine zw1 ?_ | refine zw2 ?_ | refine zw3 ?_); refine s_call (c_halvesD b (by omega)) ?_)
  repeat refine gN ?_
  have hla := digsH_len a
  have hlb := digsH_len b
  obtain ⟨m, hm⟩ : ∃ m, m = max (digs H a).length (digs H b).length := ⟨_, rfl⟩
  have hma : (digs H a).length ≤ m := by omega
  have hmb : (digs H b).length ≤ m := by omega
  have hmm : m ≤ (digs H a).length ∨ m ≤ (digs H b).length := by omega
  refine awp_rep3 (fun (i : Nat) (o : List Nat) (c : Nat) => ⟨lk' [(5, us (digs H a)), (6, us (digs H b)), (7, .accv (.loc 44)), (8, uv c), (9, iv i)], ov [(.loc 44, .acc 26 .u64 (U o))] (pushS S)⟩)
    (fun i o c => o.length = i ∧ rng H o ∧ c ≤ 1 ∧ i ≤ m + 1 ∧ (i = m + 1 → c = 0) ∧ val H o + H ^ i * c = val H ((digs H a).take i) + val H ((digs H b).take i)) (fun i _ _ => m + 1 - i)
    0 [] 0 ⟨rfl, rng_nil, by omega, by omega, by omega, rfl⟩ ?_ ?_
  · refine frz hS (by exact rfl) (fSZ trivial) ?_
    (repeat' (first | refine fF ?_ ?_ | refine fS ?_ ?_ | exact True.intro); all_goals (try (first | exact kv | (refine kW (ov_of lks) rfl ?_ ?_))))
    exact kNZ (ov_of lks)
  rintro i o c ⟨h1, h2, h3, h4, h5, h6⟩
  have hUo := U_len o
  refine awp_seq ?_
  refine awp_seq ?_
  refine awp_mid (fun st => ∃ bt : Bool, Weak st ⟨lk' [(5, us (digs H a)), (6, us (digs H b)), (7, .accv (.loc 44)), (8, uv c), (9, iv i), (28, bvl bt)], ov [(.loc 44, .acc 26 .u64 (U o))] (pushS S)⟩ ∧
    ((bt = true ∧ (i < (digs H a).length ∨ i < (digs H b).length ∨ 0 < c)) ∨ (bt = false ∧ (digs H a).length ≤ i ∧ (digs H b).length ≤ i ∧ c = 0))) ?_ ?_
  · repeat refine gN ?_
    ((first | refine zw1 ?_ | refine zw2 ?_ | refine zw3 ?_); refine s_cmp (fun g1 => ?_) (fun g1 => ?_))
    · repeat refine gN ?_
      refine ⟨true, ?_, .inl ⟨rfl, by omega⟩⟩
      (refine frz hS (by exact rfl) ?_ ?_; all_goals (repeat' (first | refine fF ?_ ?_ | refine fS ?_ ?_ | exact True.intro)); all_goals (try (first | exact kv | (refine kW (ov_of lks) rfl ?_ ?_))))
    repeat refine gN ?_
    ((first | refine zw1 ?_ | refine zw2 ?_ | refine zw3 ?_); refine s_cmp (fun g2 => ?_) (fun g2 => ?_))
    · repeat refine gN ?_
      refine ⟨true, ?_, .inl ⟨rfl, by omega⟩⟩
      (refine frz hS (by exact rfl) ?_ ?_; all_goals (repeat' (first | refine fF ?_ ?_ | refine fS ?_ ?_ | exact True.intro)); all_goals (try (first | exact kv | (refine kW (ov_of lks) rfl ?_ ?_))))
    repeat refine gN ?_
    ((first | refine zw1 ?_ | refine zw2 ?_ | refine zw3 ?_); refine s_cmp (fun g3 => ?_) (fun g3 => ?_))
    · repeat refine gN ?_
      refine ⟨true, ?_, .inl ⟨rfl, by omega⟩⟩
      (refine frz hS (by exact rfl) ?_ ?_; all_goals (repeat' (first | refine fF ?_ ?_ | refine fS ?_ ?_ | exact True.intro)); all_goals (try (first | exact kv | (refine kW (ov_of lks) rfl ?_ ?_))))
    repeat refine gN ?_
    refine ⟨false, ?_, .inr ⟨rfl, by omega, by omega, by omega⟩⟩
    (refine frz hS (by exact rfl) ?_ ?_; all_goals (repeat' (first | refine fF ?_ ?_ | refine fS ?_ ?_ | exact True.intro)); all_goals (try (first | exact kv | (refine kW (ov_of lks) rfl ?_ ?_))))
  rintro st ⟨bt, hw, hc⟩
  refine awp_weak _ hw ?_
  clear hw st
  have hxa := getH_lt a i
  have hxb := getH_lt b i
  have hta := val_take_succ H (digs H a) i
  have htb := val_take_succ H (digs H b) i
  obtain ⟨x, hx⟩ : ∃ x, x = (digs H a).getD i 0 := ⟨_, rfl⟩
  obtain ⟨y, hy⟩ : ∃ y, y = (digs H b).getD i 0 := ⟨_, rfl⟩
  rw [← hx] at hxa hta
  rw [← hy] at hxb htb
  rcases hc with ⟨rfl, hc⟩ | ⟨rfl, hc⟩
  · repeat refine gN ?_
    ((first | refine zw1 ?_ | refine zw2 ?_ | refine zw3 ?_); refine s_call (c_dig (digs H a) i (by omega)) ?_)
    rw [← hx]
    repeat refine gN ?_
    ((first | refine zw1 ?_ | refine zw2 ?_ | refine zw3 ?_); refine s_call (c_dig (digs H b) i (by omega)) ?_)
    rw [← hy]
    repeat refine gN ?_
    ((first | refine zw1 ?_ | refine zw2 ?_ | refine zw3 ?_); refine s_app8 ttOk (Y := [(((x + y + c) % 4294967296 : Nat) : Int)]) ?_ ?_ ?_; (· exact srcE_win (L := [(((x + y + c) % 4294967296 : Nat) : Int)]) lks (by simp)); (· simp only [List.length_append, List.length_nil, List.length_cons] at *; omega))
    repeat refine gN ?_
    rw [U_snoc]
    refine ⟨i + 1, o ++ [(x + y + c) % 4294967296], (x + y + c) / 4294967296, ?_, ⟨by simp [h1], rng_append.2 ⟨h2, ?_⟩, by omega, by omega, ?_, ?_⟩, by omega⟩
    · (refine frz hS (by exact rfl) ?_ ?_; all_goals (repeat' (first | refine fF ?_ ?_ | refine fS ?_ ?_ | exact True.intro)); all_goals (try (first | exact kv | (refine kW (ov_of lks) rfl ?_ ?_))))
    · intro z hz; simp only [List.mem_singleton] at hz; subst hz; exact Nat.mod_lt _ (by decide)
    · intro hi
      have z1 : x = 0 := by rw [hx, List.getD_eq_getElem?_getD, List.getElem?_eq_none (by omega)]; rfl
      have z2 : y = 0 := by rw [hy, List.getD_eq_getElem?_getD, List.getElem?_eq_none (by omega)]; rfl
      omega
    · rw [val_snoc, h1, hta, htb]
      exact add_step H (H ^ i) _ _ _ x y c h6
  · repeat refine gN ?_
    obtain ⟨c1, c2, rfl⟩ := hc
    rw [take_all (by omega), take_all (by omega), val_digs hH, val_digs hH, Nat.mul_zero, Nat.add_zero] at h6
    ((first | refine aw_fz 44 ?_ ?_ | refine awp_fz 44 ?_ ?_); rotate_left; · (repeat' (first | exact True.intro | refine And.intro ?_ ?_)) <;> first | (show _ ≤ _; simp; done) | (show _ ≤ _; simp; omega) | (show _ ≤ _; omega))
    ((first | refine zw1 ?_ | refine zw2 ?_ | refine zw3 ?_); refine s_call (c_limbs0 o h2 (by omega)) ?_)
    rw [h6]
    repeat refine gN ?_
    (refine endF ttOk (.inr rfl) hS (by exact rfl) ?_ (fl' := [(4, us (digs B (a + b)))]) (by exact rfl) (by exact rfl) (by exact rfl); (repeat' (first | refine fF ?_ ?_ | refine fS ?_ ?_ | exact True.intro); all_goals (try (first | exact kv | (refine kW (ov_of lks) rfl ?_ ?_)))))

theorem c_natsub (a b : Nat) (hba : b ≤ a) (ha : (digs B a).length < 2 ^ 38) : AFun Try.prog 60 [us (digs B a), us (digs B b)] (us (digs B (a - b))) := by
  have hb : (digs B b).length < 2 ^ 38 := Nat.lt_of_le_of_lt (len_mono hB hba) ha
  refine afun (mu := muF) Try.func60 rfl (by decide) rfl (by decide) (Nat.le_of_ble_eq_true rfl) (by simp [nm0, AVal.at, AVal.at1, Cell.at]) (by simp [nm0, AVal.at, AVal.at1, Cell.at]) fun S hS => ?_
  repeat refine gN ?_
  ((first | refine zw1 ?_ | refine zw2 ?_ | refine zw3 ?_); refine s_call (c_halvesD a (by omega)) ?_)
  repeat refine gN ?_
  ((first | refine zw1 ?_ | refine zw2 ?_ | refine zw3 ?_); refine s_call (c_halvesD b (by omega)) ?_)
  repeat refine gN ?_
  have hla := digsH_len a
  have hlb : (digs H b).length ≤ (digs H a).length := len_mono hH hba
  refine awp_rep3 (fun (i : Nat) (o : List Nat) (c : Nat) => ⟨lk' [(5, us (digs H a)), (6, us (digs H b)), (7, .accv (.loc 36)), (8, uv c), (9, iv i)], ov [(.loc 36, .acc 26 .u64 (U o))] (pushS S)⟩)
    (fun i o c => o.length = i ∧ rng H o ∧ c ≤ 1 ∧ i ≤ (digs H a).length ∧ val H o + val H ((digs H b).take i) = val H ((digs H a).take i) + H ^ i * c) (fun i _ _ => (digs H a).length - i)
    0 [] 0 ⟨rfl, rng_nil, by omega, by omega, rfl⟩ ?_ ?_
  · refine frz hS (by exact rfl) (fSZ trivial) ?_
    (repeat' (first | refine fF ?_ ?_ | refine fS ?_ ?_ | exact True.intro); all_goals (try (first | exact kv | (refine kW (ov_of lks) rfl ?_ ?_))))
    exact kNZ (ov_of lks)
  rintro i o c ⟨h1, h2, h3, h4, h5⟩
  have hUo := U_len o
  repeat refine gN ?_
  ((first | refine zw1 ?_ | refine zw2 ?_ | refine zw3 ?_); refine s_cmp (fun g1 => ?_) (fun g1 => ?_))
  · have hxa := getH_lt a i
    have hxb := getH_lt b i
    have hta := val_take_succ H (digs H a) i
    have htb := val_take_succ H (digs H b) i
    obtain ⟨x, hx⟩ : ∃ x, x = (digs H a).getD i 0 := ⟨_, rfl⟩
    obtain ⟨y, hy⟩ : ∃ y, y = (digs H b).getD i 0 := ⟨_, rfl⟩
    rw [← hx] at hxa hta
    rw [← hy] at hxb htb
    repeat refine gN ?_
    rw [← hx]
    ((first | refine zw1 ?_ | refine zw2 ?_ | refine zw3 ?_); refine s_call (c_dig (digs H b) i (by omega)) ?_)
    rw [← hy]
    repeat refine gN ?_
    ((first | refine zw1 ?_ | refine zw2 ?_ | refine zw3 ?_); refine s_app8 ttOk (Y := [(((4294967296 + x - y - c) % 4294967296 : Nat) : Int)]) ?_ ?_ ?_; (· exact srcE_win (L := [(((4294967296 + x - y - c) % 4294967296 : Nat) : Int)]) lks (by simp)); (· simp only [List.length_append, List.length_nil, List.length_cons] at *; omega))
    repeat refine gN ?_
    rw [U_snoc]
    refine ⟨i + 1, o ++ [(4294967296 + x - y - c) % 4294967296], 1 - (4294967296 + x - y - c) / 4294967296, ?_, ⟨by simp [h1], rng_append.2 ⟨h2, ?_⟩, by omega, by omega, ?_⟩, by omega⟩
    · (refine frz hS (by exact rfl) ?_ ?_; all_goals (repeat' (first | refine fF ?_ ?_ | refine fS ?_ ?_ | exact True.intro)); all_goals (try (first | exact kv | (refine kW (ov_of lks) rfl ?_ ?_))))
    · intro z hz; simp only [List.mem_singleton] at hz; subst hz; exact Nat.mod_lt _ (by decide)
    · rw [val_snoc, h1, hta, htb]
      exact sub_step H (H ^ i) _ _ _ x y c _ _ h5 (show _ = x + 4294967296 * _ by omega)
  · repeat refine gN ?_
    have hi : i = (digs H a).length := by omega
    rw [take_all (by omega), take_all (by omega), val_digs hH, val_digs hH] at h5
    have hc : c = 0 := by
      rcases Nat.eq_zero_or_pos c with q | q
      · exact q
      · have e := val_lt h2
        have : H ^ i ≤ H ^ i * c := Nat.le_mul_of_pos_right _ q
        rw [h1] at e; omega
    subst hc
    ((first | refine aw_fz 36 ?_ ?_ | refine awp_fz 36 ?_ ?_); rotate_left; · (repeat' (first | exact True.intro | refine And.intro ?_ ?_)) <;> first | (show _ ≤ _; simp; done) | (show _ ≤ _; simp; omega) | (show _ ≤ _; omega))
    ((first | refine zw1 ?_ | refine zw2 ?_ | refine zw3 ?_); refine s_call (c_limbs0 o h2 (by omega)) ?_)
    rw [show val H o = a - b by omega]
    repeat refine gN ?_
    (refine endF ttOk (.inr rfl) hS (by exact rfl) ?_ (fl' := [(4, us (digs B (a - b)))]) (by exact rfl) (by exact rfl) (by exact rfl); (repeat' (first | refine fF ?_ ?_ | refine fS ?_ ?_ | exact True.intro); all_goals (try (first | exact kv | (refine kW (ov_of lks) rfl ?_ ?_)))))
end Go.Proofs
