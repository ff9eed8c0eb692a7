/-
  An abstract machine for this program, contracts of its functions: part MBa (no statement by itself).
-/
import Derived.Test.YtkhnekfipbbppaaMT
import Derived.Laws.Externs
set_option linter.unusedVariables false
set_option linter.unusedSimpArgs false

/-
  big: sizes. Trim, compare.
-/
namespace Go.Proofs
open Go Go.Abs Go.Nums
attribute [local irreducible] thenA blockA awp aw Stp EndF aOps

abbrev B : Nat := 18446744073709551616
theorem hB : 2 ≤ B := by decide
abbrev us (l : List Nat) : AVal := .c (.ints .u64 (U l))
abbrev wi (s : Bool) (l : List Nat) : AVal := .agg [.sc (.bool s), .ints .u64 (U l)]
theorem kU {A C : Store} {l m : List Nat} (h : l = m) : FrzV A C (us l) (us m) := kI (congrArg U h)

theorem kv {A : Prop} (t : A := by first | (with_reducible apply kS) | (with_reducible apply kN; first | with_reducible rfl | omega | rfl) | (with_reducible apply kU; first | with_reducible rfl | rfl) | (with_reducible apply kWin; exact ovNe lks; all_goals first | with_reducible rfl | omega | rfl) | (with_reducible apply kPtr; exact ovNe lks) | (with_reducible apply kPim; first | with_reducible rfl | rfl) | (with_reducible apply kB; first | with_reducible rfl | rfl | omega) | (with_reducible apply kO; first | with_reducible rfl | rfl) | (with_reducible apply kA; first | with_reducible rfl | rfl) | (with_reducible apply kJ) | (with_reducible apply kI; first | with_reducible rfl | rfl) | exact .of_nm0 (by first | exact cells_nm0 | exact trivial | (intro x hx m; simp at hx; rcases hx with rfl | rfl <;> first | exact fun h => h | exact Leaf.cell_nm _ _)) | (apply kS) | (apply kN; first | with_reducible rfl | omega | rfl) | (apply kU; first | with_reducible rfl | rfl) | (apply kWin; exact ovNe lks; all_goals first | with_reducible rfl | omega | rfl) | (apply kPtr; exact ovNe lks) | (apply kPim; first | with_reducible rfl | rfl) | (apply kB; first | with_reducible rfl | rfl | omega) | (apply kI; first | with_reducible rfl | rfl) | (apply kJ) | exact kAccK (ov_of lks) (ov_of lks) rfl | (apply kO; first | with_reducible rfl | rfl) | (apply kA; first | with_reducible rfl | rfl) | (refine kP2 (ov_of lks) rfl (by exact rfl) ?_ ?_ <;> first | exact lS rfl | exact lI rfl | exact lJ | exact lW (ov_of lks) rfl (by simp) rfl) | (refine kP3 (ov_of lks) rfl (by exact rfl) ?_ ?_ ?_ <;> first | exact lS rfl | exact lI rfl | exact lJ | exact lW (ov_of lks) rfl (by simp) rfl) | ((refine kP (ov_of lks) rfl ?_; repeat' (first | exact True.intro | refine And.intro ?_ ?_)) <;> first | exact lS rfl | exact lI rfl | exact lJ)) : A := t

theorem c_trim (l : List Nat) (hl : rng B l) (hs : l.length < 2 ^ 62) : AFun Try.prog 89 [us l] (us (digs B (val B l))) := by
  refine afun (mu := muF) Try.func89 rfl (by decide) rfl (by decide) (Nat.le_of_ble_eq_true rfl) (by simp [nm0, AVal.at, AVal.at1, Cell.at]) (by simp [nm0, AVal.at, AVal.at1, Cell.at]) fun S hS => ?_
  repeat refine gO ?_
  refine awp_rep (ι := List Nat) (fun m => ⟨lk' [(0, us m)], ov [] (pushS S)⟩) (fun m => val B m = val B l ∧ rng B m ∧ m.length < 2 ^ 62) (fun m => m.length) l ⟨rfl, hl, hs⟩
    (frz hS rfl trivial ⟨⟨_, rfl, .c (.base (.keep (fun m h => h.elim)))⟩, trivial⟩) ?_
  rintro m ⟨hv, hr, hm⟩
  repeat refine gO ?_
  have hU := U_len m
  ((first | refine zw1 ?_ | refine zw2 ?_ | refine zw3 ?_); refine s_cmp (fun h1 => ?_) (fun h1 => ?_))
  · repeat refine gO ?_
    ((first | refine zw1 ?_ | refine zw2 ?_ | refine zw3 ?_); refine s_cmp (fun h2 => ?_) (fun h2 => ?_))
    · repeat refine gO ?_
      have e : ((m.length : Int) - 1).toNat = m.length - 1 := by omega
      rw [U_get, U_len, e] at h2
      rw [U_len] at h1
      refine ⟨m.take (m.length - 1), frz hS rfl trivial ⟨⟨_, rfl, kI ?_⟩, trivial⟩, ⟨?_, rng_take hr _, ?_⟩, ?_⟩
      · rw [List.drop_zero, U_take, U_len]; congr 2
      · rw [← hv]
        conv => rhs; rw [snoc_of (l := m) (by omega)]
        rw [show m.getD (m.length - 1) 0 = 0 by omega, val_snoc0]
      · simp; omega
      · simp; omega
    · repeat refine gO ?_
      refine endF ttOk (.inr rfl) hS (by exact rfl) ?_ (fl' := [(2, us (digs B (val B l)))]) (by exact rfl) (by exact rfl) (by exact rfl)
      refine ⟨⟨_, rfl, kI (congrArg U ?_)⟩, trivial⟩
      rw [← hv, digs_val hB hr ?_]
      · intro hne
        rw [getLast_getD hne]
        rw [U_get, U_len] at h2
        have e : ((m.length : Int) - 1).toNat = m.length - 1 := by omega
        rw [e] at h2; omega
  · repeat refine gO ?_
    refine endF ttOk (.inr rfl) hS (by exact rfl) ?_ (fl' := [(2, us (digs B (val B l)))]) (by exact rfl) (by exact rfl) (by exact rfl)
    refine ⟨⟨_, rfl, kI (congrArg U ?_)⟩, trivial⟩
    have hm0 : m = [] := List.eq_nil_of_length_eq_zero (by omega)
    rw [← hv, hm0, val_nil, digs_zero]
end Go.Proofs

/-
  bits.Add64, bits.Sub64: the model's own.
-/
namespace Go.Proofs
open Go Go.Abs Go.Nums

abbrev uv (n : Nat) : AVal := ivl .u64 (n : Int)
abbrev iv (n : Nat) : AVal := ivl .i64 (n : Int)

theorem vs_three {w : World} {ρ : Nm → Nat} {S : Store} {x y z : Nat} {vs : List Value} (h : VSs w ρ S [uv x, uv y, uv z] vs) : vs = [.int .u64 x, .int .u64 y, .int .u64 z] := by
  obtain ⟨h1, h2⟩ := h
  obtain ⟨a, ha, ea⟩ := h2 0 _ rfl
  obtain ⟨b, hb, eb⟩ := h2 1 _ rfl
  obtain ⟨c, hc, ec⟩ := h2 2 _ rfl
  match vs, h1 with
  | [p, q, r], _ =>
    simp only [List.getElem?_cons_zero, List.getElem?_cons_succ, Option.some.injEq] at ha hb hc
    subst ha; subst hb; subst hc
    rw [show p = _ from ea, show q = _ from eb, show r = _ from ec]

theorem vs_two {w : World} {ρ : Nm → Nat} {S : Store} (a b : Value) : VS w ρ S (.tup [.c (.sc a), .c (.sc b)]) (.tuple #[a, b]) := by
  refine ⟨_, rfl, rfl, fun i x hi => ?_⟩
  match i with
  | 0 => simp only [List.getElem?_cons_zero, Option.some.injEq] at hi; subst hi; exact ⟨a, rfl, rfl⟩
  | 1 => simp only [List.getElem?_cons_succ, List.getElem?_cons_zero, Option.some.injEq] at hi; subst hi; exact ⟨b, rfl, rfl⟩
  | i + 2 => simp at hi

/-- The model's row for Sub64, named by its place. -/
def subE : Array Value → Sem Value := (Extern.MathBitsCarry.rows.getD 1 ("", fun _ => pure undef)).2
theorem run_subE {P : Program} (x y b : Nat) (hb : b ≤ 1) (w : World) : (subE #[.int .u64 x, .int .u64 y, .int .u64 b]).run P w =
    .ok (.tuple #[.int .u64 (((x + 18446744073709551616 - y - b) % 18446744073709551616 : Nat) : Int), .int .u64 ((if x < y + b then 1 else 0 : Nat) : Int)]) w := by
  have : b = 0 ∨ b = 1 := by omega
  rcases this with rfl | rfl <;> rfl

theorem c_add64 (x y c : Nat) (hc : c ≤ 1) : AFun Try.prog 91 [uv x, uv y, uv c] (.tup [uv ((x + y + c) % 18446744073709551616), uv ((x + y + c) / 18446744073709551616)]) where
  calls Φ n S _ _ w ρ vs _ hv := by
    rw [vs_three hv]
    refine .inr ⟨_, ?_, vs_two _ _, rfl⟩
    rw [show ([Value.int .u64 x, Value.int .u64 y, Value.int .u64 c] : List Value).toArray = #[.int .u64 x, .int .u64 y, .int .u64 c] from rfl]
    rw [run_callFunc_extern Try.func91 (by kernel_rfl) (by kernel_rfl) (by kernel_rfl) (e := add64Entry) (by kernel_rfl), run_add64 x y c (by omega) (by omega) (by omega) (by omega)]
    simp only [Result.andThen]
    congr 5 <;> omega
  res0 := by simp [nm0, AVal.at, AVal.at1, Cell.at]
  args0 := by simp [nm0, AVal.at, AVal.at1, Cell.at]

theorem c_sub64 (x y c : Nat) (hc : c ≤ 1) : AFun Try.prog 92 [uv x, uv y, uv c] (.tup [uv ((x + 18446744073709551616 - y - c) % 18446744073709551616), uv (if x < y + c then 1 else 0)]) where
  calls Φ n S _ _ w ρ vs _ hv := by
    rw [vs_three hv]
    refine .inr ⟨_, ?_, vs_two _ _, rfl⟩
    rw [show ([Value.int .u64 x, Value.int .u64 y, Value.int .u64 c] : List Value).toArray = #[.int .u64 x, .int .u64 y, .int .u64 c] from rfl]
    rw [run_callFunc_extern Try.func92 (by kernel_rfl) (by kernel_rfl) (by kernel_rfl) (e := subE) (by kernel_rfl), run_subE x y c hc]
    rfl
  res0 := by simp [nm0, AVal.at, AVal.at1, Cell.at]
  args0 := by simp [nm0, AVal.at, AVal.at1, Cell.at]
end Go.Proofs

/-
  big: compare.
-/
namespace Go.Proofs
open Go Go.Abs Go.Nums
attribute [local irreducible] thenA blockA awp aw Stp EndF aOps
set_option linter.unusedSimpArgs false

theorem c_compare (a b : Nat) (ha : (digs B a).length < 2 ^ 40) (hb : (digs B b).length < 2 ^ 40) : AFun Try.prog 72 [us (digs B a), us (digs B b)] (ivl .i64 (cmpN a b)) := by
  refine afun (mu := muF) Try.func72 rfl (by decide) rfl (by decide) (Nat.le_of_ble_eq_true rfl) (by simp [nm0, AVal.at, AVal.at1, Cell.at]) (by simp [nm0, AVal.at, AVal.at1, Cell.at]) fun S hS => ?_
  have hla := U_len (digs B a)
  have hlb := U_len (digs B b)
  repeat refine gO ?_
  ((first | refine zw1 ?_ | refine zw2 ?_ | refine zw3 ?_); refine s_cmp (fun h1 => ?_) (fun h1 => ?_))
  · repeat refine gO ?_
    refine endF ttOk (.inr rfl) hS (by exact rfl) ?_ (fl' := [(4, ivl .i64 (cmpN a b))]) (by exact rfl) (by exact rfl) (by exact rfl)
    refine ⟨⟨_, rfl, kN ?_⟩, trivial⟩
    have := len_lt hB (n := a) (m := b) (by omega)
    simp [cmpN, this]
  · repeat refine gO ?_
    ((first | refine zw1 ?_ | refine zw2 ?_ | refine zw3 ?_); refine s_cmp (fun h2 => ?_) (fun h2 => ?_))
    · repeat refine gO ?_
      refine endF ttOk (.inr rfl) hS (by exact rfl) ?_ (fl' := [(4, ivl .i64 (cmpN a b))]) (by exact rfl) (by exact rfl) (by exact rfl)
      refine ⟨⟨_, rfl, kN ?_⟩, trivial⟩
      have := len_lt hB (n := b) (m := a) (by omega)
      have h' : ¬ a < b := by omega
      simp [cmpN, this, h']
    · repeat refine gO ?_
      have hn : (digs B a).length = (digs B b).length := by omega
      refine awp_rep (ι := Nat) (fun i => ⟨lk' [(0, us (digs B a)), (1, us (digs B b)), (5, ivl .i64 ((i : Int) - 1))], ov [] (pushS S)⟩) (fun i => i ≤ (digs B a).length ∧ (digs B a).drop i = (digs B b).drop i) (fun i => i) (digs B a).length
        ⟨Nat.le_refl _, by rw [List.drop_of_length_le (Nat.le_refl _), List.drop_of_length_le (by omega)]⟩
        (frz hS rfl trivial ⟨⟨_, rfl, kI rfl⟩, ⟨_, rfl, kI rfl⟩, ⟨_, rfl, kN (by omega)⟩, trivial⟩) ?_
      rintro i ⟨hi, he⟩
      repeat refine gO ?_
      ((first | refine zw1 ?_ | refine zw2 ?_ | refine zw3 ?_); refine s_cmp (fun h3 => ?_) (fun h3 => ?_))
      · repeat refine gO ?_
        have e1 : ((i : Int) - 1).toNat = i - 1 := by omega
        rw [U_get, U_get, e1]
        ((first | refine zw1 ?_ | refine zw2 ?_ | refine zw3 ?_); refine s_cmp (fun h4 => ?_) (fun h4 => ?_))
        · repeat refine gO ?_
          rw [U_get, U_get, e1]
          ((first | refine zw1 ?_ | refine zw2 ?_ | refine zw3 ?_); refine s_cmp (fun h5 => ?_) (fun h5 => ?_))
          · repeat refine gO ?_
            refine endF ttOk (.inr rfl) hS (by exact rfl) ?_ (fl' := [(4, ivl .i64 (cmpN a b))]) (by exact rfl) (by exact rfl) (by exact rfl)
            refine ⟨⟨_, rfl, kN ?_⟩, trivial⟩
            have := val_top_lt (rng_digs hB a) (i := i - 1) (m := digs B b) (by omega) (by omega) (by rw [show i - 1 + 1 = i by omega]; exact he) (by omega)
            rw [val_digs hB, val_digs hB] at this
            simp [cmpN, this]
          · repeat refine gO ?_
            refine endF ttOk (.inr rfl) hS (by exact rfl) ?_ (fl' := [(4, ivl .i64 (cmpN a b))]) (by exact rfl) (by exact rfl) (by exact rfl)
            refine ⟨⟨_, rfl, kN ?_⟩, trivial⟩
            have := val_top_lt (rng_digs hB b) (i := i - 1) (m := digs B a) (by omega) (by omega) (by rw [show i - 1 + 1 = i by omega]; exact he.symm) (by omega)
            rw [val_digs hB, val_digs hB] at this
            have h' : ¬ a < b := by omega
            simp [cmpN, this, h']
        · repeat refine gO ?_
          refine ⟨i - 1, frz hS rfl trivial ⟨⟨_, rfl, kI rfl⟩, ⟨_, rfl, kI rfl⟩, ⟨_, rfl, kN (by omega)⟩, trivial⟩, ⟨by omega, ?_⟩, by omega⟩
          rw [drop_getD (l := digs B a) (i := i - 1) (by omega), drop_getD (l := digs B b) (i := i - 1) (by omega), show i - 1 + 1 = i by omega, he]
          congr 1
          omega
      · repeat refine gO ?_
        refine endF ttOk (.inr rfl) hS (by exact rfl) ?_ (fl' := [(4, ivl .i64 (cmpN a b))]) (by exact rfl) (by exact rfl) (by exact rfl)
        refine ⟨⟨_, rfl, kN ?_⟩, trivial⟩
        have hi0 : i = 0 := by omega
        subst hi0
        have := digs_inj hB (by simpa using he : digs B a = digs B b)
        simp [cmpN, this]
end Go.Proofs

/-
  big: plus.
-/
namespace Go.Proofs
open Go Go.Abs Go.Nums
attribute [local irreducible] thenA blockA awp aw Stp EndF aOps
set_option linter.unusedSimpArgs false

theorem c_plus (a b : Nat) (ha : (digs B a).length < 2 ^ 40) (hb : (digs B b).length < 2 ^ 40) : AFun Try.prog 71 [us (digs B a), us (digs B b)] (us (digs B (a + b))) := by
  refine afun (mu := muF) Try.func71 rfl (by decide) rfl (by decide) (Nat.le_of_ble_eq_true rfl) (by simp [nm0, AVal.at, AVal.at1, Cell.at]) (by simp [nm0, AVal.at, AVal.at1, Cell.at]) fun S hS => ?_
  refine awp_seq ?_
  repeat refine gOR ?_
  refine awp_seq ?_
  refine awp_mid (fun st => ∃ p q : Nat, Weak st ⟨lk' [(0, us (digs B p)), (1, us (digs B q))], ov [] (pushS S)⟩ ∧ p + q = a + b ∧ (digs B q).length ≤ (digs B p).length ∧ (digs B p).length < 2 ^ 40) ?_ ?_
  · have hla := U_len (digs B a)
    have hlb := U_len (digs B b)
    repeat refine gO ?_
    ((first | refine zw1 ?_ | refine zw2 ?_ | refine zw3 ?_); refine s_cmp (fun h1 => ?_) (fun h1 => ?_))
    · repeat refine gO ?_
      exact ⟨b, a, frz hS rfl trivial ⟨⟨_, rfl, kU rfl⟩, ⟨_, rfl, kU rfl⟩, trivial⟩, by omega, by omega, hb⟩
    · repeat refine gO ?_
      exact ⟨a, b, frz hS rfl trivial ⟨⟨_, rfl, kU rfl⟩, ⟨_, rfl, kU rfl⟩, trivial⟩, by omega, by omega, ha⟩
  · rintro st ⟨p, q, hw, hpq, hle, hp⟩
    refine awp_weak _ hw ?_
    have hlp := U_len (digs B p)
    have hlq := U_len (digs B q)
    repeat refine gO ?_
    have e0 : (((U (digs B p)).length : Int) + 1).toNat = (digs B p).length + 1 := by omega
    refine awp_rep3 (fun (i : Nat) (o : List Nat) (c : Nat) => ⟨lk' [(0, us (digs B p)), (1, us (digs B q)), (5, .c (.win (.loc 20) 0 ((digs B p).length + 1) ((digs B p).length + 1))), (6, uv c), (21, us (digs B p)), (22, iv (digs B p).length), (23, iv i)],
        ov [(.loc 20, .ints 26 .u64 (U o))] (pushS S)⟩)
      (fun i o c => i ≤ (digs B p).length ∧ o.length = (digs B p).length + 1 ∧ rng B o ∧ c ≤ 1 ∧ val B (o.take i) + B ^ i * c = val B ((digs B p).take i) + val B ((digs B q).take i)) (fun i _ _ => (digs B p).length - i)
      0 (List.replicate ((digs B p).length + 1) 0) 0 ⟨Nat.zero_le _, by simp, rng_rep (by decide) _, by simp, by simp [val]⟩
      (frz hS rfl ⟨.inl ⟨_, ov_of lks, kO (by rw [e0]; exact U_rep _ 0)⟩, trivial⟩
        ⟨⟨_, rfl, kU rfl⟩, ⟨_, rfl, kU rfl⟩, ⟨_, rfl, kWin (by simp [ov, lkS]) rfl e0 e0⟩, ⟨_, rfl, kN rfl⟩, ⟨_, rfl, kU rfl⟩, ⟨_, rfl, kN (by omega)⟩, ⟨_, rfl, kN rfl⟩, trivial⟩) ?_
    rintro i o c ⟨h1, h2, h3, h4, h5⟩
    have hlo := U_len o
    repeat refine gO ?_
    ((first | refine zw1 ?_ | refine zw2 ?_ | refine zw3 ?_); refine s_cmp (fun h6 => ?_) (fun h6 => ?_))
    · repeat refine gOR ?_
      iterate 4 (refine awp_seq ?_; repeat refine gOR ?_)
      refine awp_seq ?_
      have ei : (i : Int).toNat = i := by omega
      refine awp_mid (fun st => Weak st ⟨lk' [(0, us (digs B p)), (1, us (digs B q)), (5, .c (.win (.loc 20) 0 ((digs B p).length + 1) ((digs B p).length + 1))), (6, uv c), (7, iv i), (8, uv ((digs B p).getD i 0)), (9, uv ((digs B q).getD i 0)), (21, us (digs B p)), (22, iv (digs B p).length), (23, iv i)],
        ov [(.loc 20, .ints 26 .u64 (U o))] (pushS S)⟩) ?_ ?_
      · repeat refine gO ?_
        ((first | refine zw1 ?_ | refine zw2 ?_ | refine zw3 ?_); refine s_cmp (fun h7 => ?_) (fun h7 => ?_))
        · repeat refine gO ?_
          exact frz hS rfl ⟨.inl ⟨_, ov_of lks, kO rfl⟩, trivial⟩
            ⟨⟨_, rfl, kU rfl⟩, ⟨_, rfl, kU rfl⟩, ⟨_, rfl, kWin (by simp [ov, lkS]) rfl rfl rfl⟩, ⟨_, rfl, kN rfl⟩, ⟨_, rfl, kN rfl⟩, ⟨_, rfl, kN (by rw [U_get]; rfl)⟩, ⟨_, rfl, kN (by rw [U_get]; rfl)⟩, ⟨_, rfl, kU rfl⟩, ⟨_, rfl, kN rfl⟩, ⟨_, rfl, kN rfl⟩, trivial⟩
        · repeat refine gO ?_
          exact frz hS rfl ⟨.inl ⟨_, ov_of lks, kO rfl⟩, trivial⟩
            ⟨⟨_, rfl, kU rfl⟩, ⟨_, rfl, kU rfl⟩, ⟨_, rfl, kWin (by simp [ov, lkS]) rfl rfl rfl⟩, ⟨_, rfl, kN rfl⟩, ⟨_, rfl, kN rfl⟩, ⟨_, rfl, kN (by rw [U_get]; rfl)⟩, ⟨_, rfl, kN (by rw [List.getD_eq_getElem?_getD, List.getElem?_eq_none (by omega)]; rfl)⟩, ⟨_, rfl, kU rfl⟩, ⟨_, rfl, kN rfl⟩, ⟨_, rfl, kN rfl⟩, trivial⟩
      · intro st2 hw2
        refine awp_weak _ hw2 ?_
        repeat refine gO ?_
        ((first | refine zw1 ?_ | refine zw2 ?_ | refine zw3 ?_); refine s_call (c_add64 _ _ c h4) ?_)
        repeat refine gO ?_
        have hx := getD_lt (b := B) (by decide) (rng_digs hB p) i
        have hy := getD_lt (b := B) (by decide) (rng_digs hB q) i
        refine ⟨i + 1, o.set i (((digs B p).getD i 0 + (digs B q).getD i 0 + c) % B), ((digs B p).getD i 0 + (digs B q).getD i 0 + c) / B,
          frz hS rfl ⟨.inl ⟨_, ov_of lks, kO (by rw [ei, Nat.zero_add]; exact U_set _ _ _)⟩, trivial⟩
            ⟨⟨_, rfl, kU rfl⟩, ⟨_, rfl, kU rfl⟩, ⟨_, rfl, kWin (by simp [ov, lkS]) rfl rfl rfl⟩, ⟨_, rfl, kN rfl⟩, ⟨_, rfl, kU rfl⟩, ⟨_, rfl, kN rfl⟩, ⟨_, rfl, kN rfl⟩, trivial⟩,
          ⟨by omega, by simpa using h2, rng_set h3 (Nat.mod_lt _ (by decide)), ?_, ?_⟩, by omega⟩
        · have : (digs B p).getD i 0 + (digs B q).getD i 0 + c < B * 2 := by omega
          have := Nat.div_lt_of_lt_mul this
          omega
        · rw [val_set_take (by omega), val_take_succ, val_take_succ]
          exact add_step B (B ^ i) _ _ _ _ _ _ h5
    · repeat refine gO ?_
      have hi : i = (digs B p).length := by omega
      subst hi
      refine aw_weak ⟨lk' [(52, us (o.set (digs B p).length c))], ov [] (pushS S)⟩ ?_ ?_
      · refine frz hS rfl trivial ⟨⟨_, rfl, kW (ov_of lks) rfl ?_ ?_⟩, trivial⟩
        · rw [List.length_set]; omega
        · rw [List.drop_zero, hlp, Nat.zero_add, Int.toNat_natCast, U_set, U_take, take_all (by simp; omega)]
      ((first | refine zw1 ?_ | refine zw2 ?_ | refine zw3 ?_); refine s_call (c_trim (o.set (digs B p).length c) (rng_set h3 (Nat.lt_of_le_of_lt h4 (by decide))) (by rw [List.length_set]; omega)) ?_)
      repeat refine gO ?_
      refine endF ttOk (.inr rfl) hS (by exact rfl) ?_ (fl' := [(4, us (digs B (a + b)))]) (by exact rfl) (by exact rfl) (by exact rfl)
      refine ⟨⟨_, rfl, kU ?_⟩, trivial⟩
      rw [← hpq, take_all hle, take_all (Nat.le_refl _), val_digs hB, val_digs hB] at *
      have h7 := val_set_take (b := B) (l := o) (i := (digs B p).length) (s := c) (by omega)
      rw [take_all (by simp; omega)] at h7
      rw [h7, h5]
end Go.Proofs
