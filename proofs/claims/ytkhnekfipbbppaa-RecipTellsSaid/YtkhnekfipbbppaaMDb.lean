/-
  An abstract machine for this program, contracts of its functions: part MDb (no statement by itself).
-/
import Derived.Test.YtkhnekfipbbppaaMDa
set_option linter.unusedVariables false
set_option linter.unusedSimpArgs false

/-
  exact: Limbs.
-/
namespace Go.Proofs
open Go Go.Abs Go.Nums
attribute [local irreducible] thenA blockA awp aw Stp EndF EndP EndN EndG aOps
set_option linter.unusedSimpArgs false
set_option maxHeartbeats 4000000

theorem fSA {S : Store} {B' : Store} {sl r : SL} {d : Nat} {ty : TypeId} {k : IntKind} (h2 : FrzS (ov sl (pushS S)) B' r) (hf : freeO sl d = true := by exact rfl) : FrzS (ov sl (pushS S)) B' ((.loc d, .acc ty k []) :: r) :=
  ⟨.inr ⟨fun o ho => (by rw [freeO_spec hf] at ho; cases ho), _, _, rfl⟩, h2⟩
theorem kNA {A C : Store} {m : Nm} {ty : TypeId} {k : IntKind} (h : C m = some (.acc ty k [])) : FrzV A C nils (.accv m) := .nilA h

theorem take_snoc {l : List Nat} {i : Nat} (h : i < l.length) : l.take (i + 1) = l.take i ++ [l.getD i 0] := by
  rw [List.take_add_one, List.getElem?_eq_getElem h, List.getD_eq_getElem?_getD, List.getElem?_eq_getElem h]; rfl

theorem c_abs2 (z x : Nm) (hzx : z ≠ x) (a b : Leaf) (n : Int) (hn : (digs B n.natAbs).length < 2 ^ 43) :
    AProc Try.prog 95 [ptr z, ptr x] [(z, .cells tBig ([a, b].map Leaf.cell)), (x, bo n)] [(z, bo n.natAbs), (x, bo n)] (ptr z) := by
  (refine aproc2 (mu := muF) hzx Try.func95 rfl (by decide) rfl (by decide) (Nat.le_of_ble_eq_true rfl) (by simp [AVal.at, AVal.at1, Cell.at] <;> grind) (by simp [AVal.at, AVal.at1, Cell.at]) (by simp [AVal.at, AVal.at1, Cell.at]) (by simp [AVal.at, AVal.at1, Cell.at] <;> grind) (by first | exact cells_nm0 | exact trivial | (intro x hx m; simp at hx; rcases hx with rfl | rfl <;> first | exact fun h => h | exact Leaf.cell_nm _ _)) (by first | exact cells_nm0 | exact trivial | (intro x hx m; simp at hx; rcases hx with rfl | rfl <;> first | exact fun h => h | exact Leaf.cell_nm _ _)) (by first | exact cells_nm0 | exact trivial | (intro x hx m; simp at hx; rcases hx with rfl | rfl <;> first | exact fun h => h | exact Leaf.cell_nm _ _)) (by first | exact cells_nm0 | exact trivial | (intro x hx m; simp at hx; rcases hx with rfl | rfl <;> first | exact fun h => h | exact Leaf.cell_nm _ _)) fun S hS => ?_; simp only [List.map_cons, List.map_nil, AVal.map, AVal.map1, Cell.map])
  repeat refine gO ?_
  ((first | refine zw1 ?_ | refine zw2 ?_ | refine zw3 ?_); refine s_call (c_clone (digs B n.natAbs) hn) ?_)
  repeat refine gO ?_
  ((first | refine zw1 ?_ | refine zw2 ?_ | refine zw3 ?_); refine s_proc (c_putD (.out z) _ _ false n.natAbs (by omega)) ?_ (by intro p hp; first | (simp only [List.mem_singleton] at hp; subst hp; exact lks) | (simp only [List.mem_cons, List.not_mem_nil, or_false] at hp; rcases hp with rfl | rfl <;> exact lks)))
  repeat refine gO ?_
  (refine endP2 ttOk (fl' := [(4, ptr (.out z))]) (.inr rfl) hS hzx lks lks (by first | exact cells_nm0 | exact trivial | (intro x hx m; simp at hx; rcases hx with rfl | rfl <;> first | exact fun h => h | exact Leaf.cell_nm _ _)) (by first | exact cells_nm0 | exact trivial | (intro x hx m; simp at hx; rcases hx with rfl | rfl <;> first | exact fun h => h | exact Leaf.cell_nm _ _)) (by intro m hm hm2; simp [lkS, addL, delL, Nm.isLoc, hm, hm2]) ?_ ?_ ?_ (by exact rfl) (by exact rfl) (by exact rfl))
  · rfl
  · rfl
  · (repeat' (first | refine fF ?_ ?_ | refine fS ?_ ?_ | exact True.intro); all_goals (try (first | exact kv | (refine kW (ov_of lks) rfl ?_ ?_))))

theorem c_limbs (n : Int) (hn : (digs B n.natAbs).length < 2 ^ 37) : AFun Try.prog 83 [bp n] (us (digs B n.natAbs)) := by
  refine afun (mu := muF) Try.func83 rfl (by decide) rfl (by decide) (Nat.le_of_ble_eq_true rfl) (by simp [nm0, AVal.at, AVal.at1, Cell.at]) (by simp [nm0, AVal.at, AVal.at1, Cell.at]) fun S hS => ?_
  obtain ⟨N, hN⟩ : ∃ N, N = n.natAbs := ⟨_, rfl⟩
  repeat refine gO ?_
  ((first | refine zw1 ?_ | refine zw2 ?_ | refine zw3 ?_); refine s_proc (c_abs (.loc 9) (.sc (.bool false)) (.sc (.slice none 0 0)) _ n (.im n) (by omega)) ?_ (by intro p hp; first | (simp only [List.mem_singleton] at hp; subst hp; exact lks) | (simp only [List.mem_cons, List.not_mem_nil, or_false] at hp; rcases hp with rfl | rfl <;> exact lks)))
  ((first | refine aw_fz 9 ?_ ?_ | refine awp_fz 9 ?_ ?_); rotate_left; · (repeat' (first | exact True.intro | refine And.intro ?_ ?_)) <;> first | (show _ ≤ _; simp; done) | (show _ ≤ _; simp; omega) | (show _ ≤ _; omega))
  have hcb := c_bytes (n.natAbs : Nat) (by rw [Int.natAbs_natCast]; omega)
  rw [Int.natAbs_natCast] at hcb
  ((first | refine zw1 ?_ | refine zw2 ?_ | refine zw3 ?_); refine s_call (hcb) ?_)
  rw [← hN] at hn ⊢
  repeat refine gO ?_
  obtain ⟨L, hL⟩ : ∃ L, L = (bsOf N).length := ⟨_, rfl⟩
  have hUb := U_len (bsOf N)
  have hbl := bs_len N
  have hb64 : blen N ≤ 64 * (digs B N).length := by rw [blen_le, Nat.pow_mul]; exact digs_lt hB N
  have hrb : rng 256 (bsOf N) := rng_rev (rng_digs h256 N)
  have hLd : (digs 256 N).length = L := by rw [hL, bsOf, List.length_reverse]
  have hget : ∀ j, j < L → (bsOf N).getD j 0 = N / 256 ^ (L - 1 - j) % 256 := fun j hj => by
    rw [bsOf, getD_rev (by omega), getD_val (b := 256) (by decide) _ (rng_digs h256 N), val_digs h256, hLd]
  have hB8 : ∀ k, 256 ^ (8 * k) = B ^ k := fun k => by rw [Nat.pow_mul]
  refine awp_rep2 (fun (k : Nat) (o : List Nat) => ⟨lk' [(3, .accv (.loc 39)), (4, ub (bsOf N)), (5, ivl .i64 ((L : Int) - 8 * k))], ov [(.loc 39, .acc 26 .u64 (U o))] (pushS S)⟩)
    (fun k o => o.length = k ∧ rng B o ∧ val B o = N % B ^ k ∧ 8 * k ≤ L + 7) (fun k _ => L + 8 - 8 * k)
    0 [] ⟨rfl, rng_nil, by simp [val, Nat.mod_one], by omega⟩ ?_ ?_
  · refine frz hS (by exact rfl) (fSA trivial) ?_
    (repeat' (first | refine fF ?_ ?_ | refine fS ?_ ?_ | exact True.intro); all_goals (try (first | exact kv | (refine kW (ov_of lks) rfl ?_ ?_))))
    exact kNA (ov_of lks)
  rintro k o ⟨h1, h2, h3, h4⟩
  have hUo := U_len o
  repeat refine gO ?_
  ((first | refine zw1 ?_ | refine zw2 ?_ | refine zw3 ?_); refine s_cmp (fun h5 => ?_) (fun h5 => ?_))
  · repeat refine gO ?_
    obtain ⟨e, he⟩ : ∃ e, e = L - 8 * k := ⟨_, rfl⟩
    obtain ⟨lo, hlo⟩ : ∃ lo, lo = e - 8 := ⟨_, rfl⟩
    obtain ⟨ch, hch⟩ : ∃ ch, ch = ((bsOf N).drop lo).take (e - lo) := ⟨_, rfl⟩
    have hchl : ch.length = e - lo := by rw [hch]; simp; omega
    have hchr : rng 256 ch := by rw [hch]; exact rng_take (rng_drop hrb _) _
    have e1 : ((L : Int) - 8 * k).toNat = e := by omega
    have e2 : (if (L : Int) - 8 * k - 8 < 0 then (0 : Int) else (L : Int) - 8 * k - 8).toNat = lo := by split <;> omega
    have e3 : List.take (e - lo) (List.drop lo (U (bsOf N))) = U ch := by rw [U_drop, U_take, hch]
    have hUc := U_len ch
    rw [e1, e2, e3]
    have hcv : val 256 ch.reverse = N / B ^ k % B := by
      have hg : ∀ j, j < ch.length → ch.getD j 0 = (N / 256 ^ (8 * k)) / 256 ^ (ch.length - 1 - j) % 256 := fun j hj => by
        rw [hch, List.getD_eq_getElem?_getD, List.getElem?_take_of_lt (by omega), List.getElem?_drop, ← List.getD_eq_getElem?_getD, hget _ (by omega), Nat.div_div_eq_div_mul, ← Nat.pow_add, ← hch]
        congr 3; omega
      rw [val_rev_of hg, hchl, hB8]
      by_cases h8 : 8 ≤ e
      · rw [show e - lo = 8 by omega]
      · have hN : N < 256 ^ L := by rw [← hLd]; exact digs_lt h256 N
        have hlt : N / B ^ k < 256 ^ (e - lo) := by
          rw [Nat.div_lt_iff_lt_mul (Nat.pow_pos (by decide)), ← hB8, ← Nat.pow_add, show e - lo + 8 * k = L by omega]; exact hN
        have hlt2 : N / B ^ k < B := Nat.lt_of_lt_of_le hlt (by rw [show B = 256 ^ 8 by decide]; exact Nat.pow_le_pow_right (by decide) (by omega))
        rw [Nat.mod_eq_of_lt hlt, Nat.mod_eq_of_lt hlt2]
    refine awp_midB (fun st => Weak st ⟨lk' [(3, .accv (.loc 39)), (4, ub (bsOf N)), (5, ivl .i64 ((L : Int) - 8 * k)), (6, uv (val 256 ch.reverse))], ov [(.loc 39, .acc 26 .u64 (U o))] (pushS S)⟩) ?_ ?_
    · refine awp_rep (ι := Nat) (fun i => ⟨lk' [(3, .accv (.loc 39)), (4, ub (bsOf N)), (5, ivl .i64 ((L : Int) - 8 * k)), (6, uv (val 256 (ch.take i).reverse)), (24, ub ch), (25, iv ch.length), (26, iv i)], ov [(.loc 39, .acc 26 .u64 (U o))] (pushS S)⟩)
        (fun i => i ≤ ch.length) (fun i => ch.length - i) 0 (Nat.zero_le _) ?_ ?_
      · (refine frz hS (by exact rfl) ?_ ?_; all_goals (repeat' (first | refine fF ?_ ?_ | refine fS ?_ ?_ | exact True.intro)); all_goals (try (first | exact kv | (refine kW (ov_of lks) rfl ?_ ?_))))
      intro i hi
      repeat refine gO ?_
      ((first | refine zw1 ?_ | refine zw2 ?_ | refine zw3 ?_); refine s_cmp (fun h6 => ?_) (fun h6 => ?_))
      · repeat refine gO ?_
        have ei : (i : Int).toNat = i := by omega
        obtain ⟨c, hc⟩ : ∃ c, c = ch.getD i 0 := ⟨_, rfl⟩
        have hc8 : c < 256 := by rw [hc]; exact getD_lt (by decide) hchr _
        obtain ⟨x, hx⟩ : ∃ x, x = val 256 (ch.take i).reverse := ⟨_, rfl⟩
        have hx56 : x < 256 ^ 7 := by
          have h7 := val_lt (rng_rev (rng_take hchr i))
          rw [List.length_reverse] at h7
          rw [hx]
          exact Nat.lt_of_lt_of_le h7 (Nat.pow_le_pow_right (by decide) (by simp; omega))
        have hx64 : x * 256 < 18446744073709551616 := by
          rw [show (256 : Nat) ^ 7 = 72057594037927936 by decide] at hx56; omega
        rw [ei, U_get, ← hc, ← hx]
        (first | refine stp_shlN (x) (8) (by exact rfl) (by exact rfl) (by first | exact True.intro | omega | (simp only [and_true, List.length_map, List.length_replicate, List.length_set, List.length_append, List.length_cons, List.length_nil, List.length_take, List.length_drop] at *; omega)) (by first | exact True.intro | omega | (simp only [and_true, List.length_map, List.length_replicate, List.length_set, List.length_append, List.length_cons, List.length_nil, List.length_take, List.length_drop] at *; omega)) ?_ | refine aw_cons (stp_shlN (x) (8) (by exact rfl) (by exact rfl) (by first | exact True.intro | omega | (simp only [and_true, List.length_map, List.length_replicate, List.length_set, List.length_append, List.length_cons, List.length_nil, List.length_take, List.length_drop] at *; omega)) (by first | exact True.intro | omega | (simp only [and_true, List.length_map, List.length_replicate, List.length_set, List.length_append, List.length_cons, List.length_nil, List.length_take, List.length_drop] at *; omega)) ?_) | refine aOps_cons (stp_shlN (x) (8) (by exact rfl) (by exact rfl) (by first | exact True.intro | omega | (simp only [and_true, List.length_map, List.length_replicate, List.length_set, List.length_append, List.length_cons, List.length_nil, List.length_take, List.length_drop] at *; omega)) (by first | exact True.intro | omega | (simp only [and_true, List.length_map, List.length_replicate, List.length_set, List.length_append, List.length_cons, List.length_nil, List.length_take, List.length_drop] at *; omega)) ?_))
        rw [show x * 2 ^ 8 = x * 256 from rfl, Nat.mod_eq_of_lt hx64]
        repeat refine gO ?_
        (first | refine stp_orN (x * 256) (c) (by exact rfl) (by exact rfl) (by first | exact True.intro | omega | (simp only [and_true, List.length_map, List.length_replicate, List.length_set, List.length_append, List.length_cons, List.length_nil, List.length_take, List.length_drop] at *; omega)) (by first | exact True.intro | omega | (simp only [and_true, List.length_map, List.length_replicate, List.length_set, List.length_append, List.length_cons, List.length_nil, List.length_take, List.length_drop] at *; omega)) (by first | exact True.intro | omega | (simp only [and_true, List.length_map, List.length_replicate, List.length_set, List.length_append, List.length_cons, List.length_nil, List.length_take, List.length_drop] at *; omega)) (by first | exact True.intro | omega | (simp only [and_true, List.length_map, List.length_replicate, List.length_set, List.length_append, List.length_cons, List.length_nil, List.length_take, List.length_drop] at *; omega)) ?_ | refine aw_cons (stp_orN (x * 256) (c) (by exact rfl) (by exact rfl) (by first | exact True.intro | omega | (simp only [and_true, List.length_map, List.length_replicate, List.length_set, List.length_append, List.length_cons, List.length_nil, List.length_take, List.length_drop] at *; omega)) (by first | exact True.intro | omega | (simp only [and_true, List.length_map, List.length_replicate, List.length_set, List.length_append, List.length_cons, List.length_nil, List.length_take, List.length_drop] at *; omega)) (by first | exact True.intro | omega | (simp only [and_true, List.length_map, List.length_replicate, List.length_set, List.length_append, List.length_cons, List.length_nil, List.length_take, List.length_drop] at *; omega)) (by first | exact True.intro | omega | (simp only [and_true, List.length_map, List.length_replicate, List.length_set, List.length_append, List.length_cons, List.length_nil, List.length_take, List.length_drop] at *; omega)) ?_) | refine aOps_cons (stp_orN (x * 256) (c) (by exact rfl) (by exact rfl) (by first | exact True.intro | omega | (simp only [and_true, List.length_map, List.length_replicate, List.length_set, List.length_append, List.length_cons, List.length_nil, List.length_take, List.length_drop] at *; omega)) (by first | exact True.intro | omega | (simp only [and_true, List.length_map, List.length_replicate, List.length_set, List.length_append, List.length_cons, List.length_nil, List.length_take, List.length_drop] at *; omega)) (by first | exact True.intro | omega | (simp only [and_true, List.length_map, List.length_replicate, List.length_set, List.length_append, List.length_cons, List.length_nil, List.length_take, List.length_drop] at *; omega)) (by first | exact True.intro | omega | (simp only [and_true, List.length_map, List.length_replicate, List.length_set, List.length_append, List.length_cons, List.length_nil, List.length_take, List.length_drop] at *; omega)) ?_))
        repeat refine gO ?_
        have hor : x * 256 ||| c = x * 256 + c := or_low (k := 8) (by rw [show (2 : Nat) ^ 8 = 256 from rfl]; exact Nat.mul_mod_left _ _) hc8
        refine ⟨i + 1, ?_, by omega, by omega⟩
        (refine frz hS (by exact rfl) ?_ ?_; all_goals (repeat' (first | refine fF ?_ ?_ | refine fS ?_ ?_ | exact True.intro)); all_goals (try (first | exact kv | (refine kW (ov_of lks) rfl ?_ ?_))))
        refine kN ?_
        rw [hor, take_snoc (by omega), ← hc, List.reverse_append, List.reverse_singleton, List.singleton_append, val_cons, ← hx, Nat.mul_comm 256, Nat.add_comm c]
      · repeat refine gO ?_
        have : i = ch.length := by omega
        subst this
        rw [take_all (Nat.le_refl _)]
        (refine frz hS (by exact rfl) ?_ ?_; all_goals (repeat' (first | refine fF ?_ ?_ | refine fS ?_ ?_ | exact True.intro)); all_goals (try (first | exact kv | (refine kW (ov_of lks) rfl ?_ ?_))))
    intro st hst
    refine awp_weak _ hst ?_
    clear hst st
    repeat refine gO ?_
    ((first | refine zw1 ?_ | refine zw2 ?_ | refine zw3 ?_); refine s_app8 ttOk (Y := [((val 256 ch.reverse : Nat) : Int)]) ?_ ?_ ?_; (· exact srcE_win (L := [((val 256 ch.reverse : Nat) : Int)]) lks (by simp)); (· simp only [List.length_append, List.length_nil, List.length_cons] at *; omega))
    repeat refine gO ?_
    have hkl : k ≤ 2 ^ 40 := by omega
    refine ⟨k + 1, o ++ [val 256 ch.reverse], ?_, ⟨by simp [h1], rng_append.2 ⟨h2, by intro x hx; simp only [List.mem_singleton] at hx; subst hx; rw [hcv]; exact Nat.mod_lt _ (by decide)⟩, ?_, by omega⟩, by omega⟩
    · (refine frz hS (by exact rfl) ?_ ?_; all_goals (repeat' (first | refine fF ?_ ?_ | refine fS ?_ ?_ | exact True.intro)); all_goals (try (first | exact kv | (refine kW (ov_of lks) rfl ?_ ?_))))
      · exact kA (by simp [U])
      · exact kAccK (ov_of lks) (ov_of lks) (by simp [U])
    · rw [val_snoc, h1, h3, hcv, Nat.pow_succ, Nat.mod_mul]
  · repeat refine gO ?_
    have hNk : N < B ^ k := by
      have h7 : N < 256 ^ L := by rw [← hLd]; exact digs_lt h256 N
      rw [← hB8]
      exact Nat.lt_of_lt_of_le h7 (Nat.pow_le_pow_right (by decide) (by omega))
    rw [Nat.mod_eq_of_lt hNk] at h3
    have e : o = digs B N := by
      refine val_inj (b := B) (by decide) h2 (rng_digs hB N) ?_ (by rw [h3, val_digs hB])
      refine Nat.le_antisymm ?_ (by rw [h1]; exact (digs_len hB).2 hNk)
      rw [h1]
      rcases Nat.eq_zero_or_pos k with q | q
      · omega
      · refine Nat.le_of_not_lt fun g => ?_
        have g2 := (digs_len hB (n := N) (k := k - 1)).1 (by omega)
        rw [← hB8] at g2
        have g3 := (digs_len h256 (n := N) (k := 8 * (k - 1))).2 g2
        omega
    rw [← e]
    (refine endF ttOk (.inr rfl) hS (by exact rfl) ?_ (fl' := [(2, us o)]) (by exact rfl) (by exact rfl) (by exact rfl); (repeat' (first | refine fF ?_ ?_ | refine fS ?_ ?_ | exact True.intro); all_goals (try (first | exact kv | (refine kW (ov_of lks) rfl ?_ ?_)))))
    exact kAcc (ov_of lks) rfl rfl
end Go.Proofs

/-
  limb: Right.
-/
namespace Go.Proofs
open Go Go.Abs Go.Nums
attribute [local irreducible] thenA blockA awp aw Stp EndF EndP EndN EndG aOps
set_option linter.unusedSimpArgs false
set_option maxHeartbeats 4000000

/-- Is a whole number, told by a sign and limbs, right? -/
def rightB (s : Bool) (l : List Nat) : Bool := if l.length = 0 then !s else decide (l.length ≤ 4096 ∧ l.getD (l.length - 1) 0 ≠ 0)

theorem c_right13 (s : Bool) (l : List Nat) (hl : l.length < 2 ^ 60) : AFun Try.prog 39 [wi s l] (bvl (rightB s l)) := by
  refine afun (mu := muF) Try.func39 rfl (by decide) rfl (by decide) (Nat.le_of_ble_eq_true rfl) (by simp [nm0, AVal.at, AVal.at1, Cell.at]) (by simp [nm0, AVal.at, AVal.at1, Cell.at]) fun S hS => ?_
  have hU := U_len l
  repeat refine gO ?_
  ((first | refine zw1 ?_ | refine zw2 ?_ | refine zw3 ?_); refine s_cmp (fun h1 => ?_) (fun h1 => ?_))
  · have h0 : l.length = 0 := by omega
    cases s with
    | false =>
      repeat refine gO ?_
      (refine endF ttOk (.inr rfl) hS (by exact rfl) ?_ (fl' := [(2, bvl (rightB false l))]) (by exact rfl) (by exact rfl) (by exact rfl); (repeat' (first | refine fF ?_ ?_ | refine fS ?_ ?_ | exact True.intro); all_goals (try (first | exact kv | (refine kW (ov_of lks) rfl ?_ ?_)))))
      all_goals exact kB (by simp [rightB, h0])
    | true =>
      repeat refine gO ?_
      ((first | refine zw1 ?_ | refine zw2 ?_ | refine zw3 ?_); refine s_cmp (fun h2 => ?_) (fun h2 => ?_))
      · exact absurd h2 (by omega)
      repeat refine gO ?_
      (refine endF ttOk (.inr rfl) hS (by exact rfl) ?_ (fl' := [(2, bvl (rightB true l))]) (by exact rfl) (by exact rfl) (by exact rfl); (repeat' (first | refine fF ?_ ?_ | refine fS ?_ ?_ | exact True.intro); all_goals (try (first | exact kv | (refine kW (ov_of lks) rfl ?_ ?_)))))
      all_goals exact kB (by simp [rightB, h0])
  · have h0 : l.length ≠ 0 := by omega
    repeat refine gO ?_
    ((first | refine zw1 ?_ | refine zw2 ?_ | refine zw3 ?_); refine s_cmp (fun h2 => ?_) (fun h2 => ?_))
    · repeat refine gO ?_
      ((first | refine zw1 ?_ | refine zw2 ?_ | refine zw3 ?_); refine s_cmp (fun h3 => ?_) (fun h3 => ?_))
      · repeat refine gO ?_
        rw [show (((U l).length : Int) - 1).toNat = l.length - 1 by omega, U_get]
        ((first | refine zw1 ?_ | refine zw2 ?_ | refine zw3 ?_); refine s_cmp (fun h4 => ?_) (fun h4 => ?_))
        · repeat refine gO ?_
          (refine endF ttOk (.inr rfl) hS (by exact rfl) ?_ (fl' := [(2, bvl (rightB s l))]) (by exact rfl) (by exact rfl) (by exact rfl); (repeat' (first | refine fF ?_ ?_ | refine fS ?_ ?_ | exact True.intro); all_goals (try (first | exact kv | (refine kW (ov_of lks) rfl ?_ ?_)))))
          all_goals exact kB (by rw [rightB, if_neg h0, decide_eq_true ⟨by omega, by omega⟩])
        · repeat refine gO ?_
          (refine endF ttOk (.inr rfl) hS (by exact rfl) ?_ (fl' := [(2, bvl (rightB s l))]) (by exact rfl) (by exact rfl) (by exact rfl); (repeat' (first | refine fF ?_ ?_ | refine fS ?_ ?_ | exact True.intro); all_goals (try (first | exact kv | (refine kW (ov_of lks) rfl ?_ ?_)))))
          all_goals exact kB (by rw [rightB, if_neg h0, decide_eq_false (fun q => by omega)])
      · repeat refine gO ?_
        (refine endF ttOk (.inr rfl) hS (by exact rfl) ?_ (fl' := [(2, bvl (rightB s l))]) (by exact rfl) (by exact rfl) (by exact rfl); (repeat' (first | refine fF ?_ ?_ | refine fS ?_ ?_ | exact True.intro); all_goals (try (first | exact kv | (refine kW (ov_of lks) rfl ?_ ?_)))))
        all_goals exact kB (by rw [rightB, if_neg h0, decide_eq_false (fun q => by omega)])
    · exact absurd h2 (by omega)
end Go.Proofs

/-
  recip: wrong, one.
-/
namespace Go.Proofs
open Go Go.Abs Go.Nums
attribute [local irreducible] thenA blockA awp aw Stp EndF EndP EndN EndG aOps
set_option linter.unusedSimpArgs false
set_option maxHeartbeats 4000000

def wrongN (s : Bool) (l : List Nat) (b : Int) : Int := if rightB s l = false ∨ b < 0 ∨ 262144 < b then 2 else if l.length = 0 then 7 else if s then 2 else 0

theorem c_wrong (s : Bool) (l : List Nat) (b : Int) (hl : l.length < 2 ^ 60) : AFun Try.prog 32 [wi s l, ivl .i64 b] (ivl .i64 (wrongN s l b)) := by
  refine afun (mu := muF) Try.func32 rfl (by decide) rfl (by decide) (Nat.le_of_ble_eq_true rfl) (by simp [nm0, AVal.at, AVal.at1, Cell.at]) (by simp [nm0, AVal.at, AVal.at1, Cell.at]) fun S hS => ?_
  have hU := U_len l
  repeat refine gO ?_
  ((first | refine zw1 ?_ | refine zw2 ?_ | refine zw3 ?_); refine s_call (c_right13 s l hl) ?_)
  cases hr : rightB s l with
  | false =>
    repeat refine gO ?_
    (refine endF ttOk (.inr rfl) hS (by exact rfl) ?_ (fl' := [(4, ivl .i64 (wrongN s l b))]) (by exact rfl) (by exact rfl) (by exact rfl); (repeat' (first | refine fF ?_ ?_ | refine fS ?_ ?_ | exact True.intro); all_goals (try (first | exact kv | (refine kW (ov_of lks) rfl ?_ ?_)))))
    all_goals exact kN (by rw [wrongN, if_pos (.inl hr)])
  | true =>
    repeat refine gO ?_
    ((first | refine zw1 ?_ | refine zw2 ?_ | refine zw3 ?_); refine s_cmp (fun h1 => ?_) (fun h1 => ?_))
    · repeat refine gO ?_
      (refine endF ttOk (.inr rfl) hS (by exact rfl) ?_ (fl' := [(4, ivl .i64 (wrongN s l b))]) (by exact rfl) (by exact rfl) (by exact rfl); (repeat' (first | refine fF ?_ ?_ | refine fS ?_ ?_ | exact True.intro); all_goals (try (first | exact kv | (refine kW (ov_of lks) rfl ?_ ?_)))))
      all_goals exact kN (by rw [wrongN, if_pos (.inr (.inl h1))])
    repeat refine gO ?_
    ((first | refine zw1 ?_ | refine zw2 ?_ | refine zw3 ?_); refine s_cmp (fun h2 => ?_) (fun h2 => ?_))
    · repeat refine gO ?_
      (refine endF ttOk (.inr rfl) hS (by exact rfl) ?_ (fl' := [(4, ivl .i64 (wrongN s l b))]) (by exact rfl) (by exact rfl) (by exact rfl); (repeat' (first | refine fF ?_ ?_ | refine fS ?_ ?_ | exact True.intro); all_goals (try (first | exact kv | (refine kW (ov_of lks) rfl ?_ ?_)))))
      all_goals exact kN (by rw [wrongN, if_pos (.inr (.inr h2))])
    have h3 : ¬ (rightB s l = false ∨ b < 0 ∨ 262144 < b) := by rw [hr]; simp; omega
    repeat refine gO ?_
    ((first | refine zw1 ?_ | refine zw2 ?_ | refine zw3 ?_); refine s_cmp (fun h4 => ?_) (fun h4 => ?_))
    · repeat refine gO ?_
      (refine endF ttOk (.inr rfl) hS (by exact rfl) ?_ (fl' := [(4, ivl .i64 (wrongN s l b))]) (by exact rfl) (by exact rfl) (by exact rfl); (repeat' (first | refine fF ?_ ?_ | refine fS ?_ ?_ | exact True.intro); all_goals (try (first | exact kv | (refine kW (ov_of lks) rfl ?_ ?_)))))
      all_goals exact kN (by rw [wrongN, if_neg h3, if_pos (by omega)])
    have h5 : ¬ l.length = 0 := by omega
    cases s with
    | true =>
      repeat refine gO ?_
      (refine endF ttOk (.inr rfl) hS (by exact rfl) ?_ (fl' := [(4, ivl .i64 (wrongN true l b))]) (by exact rfl) (by exact rfl) (by exact rfl); (repeat' (first | refine fF ?_ ?_ | refine fS ?_ ?_ | exact True.intro); all_goals (try (first | exact kv | (refine kW (ov_of lks) rfl ?_ ?_)))))
      all_goals exact kN (by rw [wrongN, if_neg h3, if_neg h5]; rfl)
    | false =>
      repeat refine gO ?_
      (refine endF ttOk (.inr rfl) hS (by exact rfl) ?_ (fl' := [(4, ivl .i64 (wrongN false l b))]) (by exact rfl) (by exact rfl) (by exact rfl); (repeat' (first | refine fF ?_ ?_ | refine fS ?_ ?_ | exact True.intro); all_goals (try (first | exact kv | (refine kW (ov_of lks) rfl ?_ ?_)))))
      all_goals exact kN (by rw [wrongN, if_neg h3, if_neg h5]; rfl)

theorem c_one (b : Nat) (hb : b ≤ 262144) : ANew Try.prog 35 [iv b] tBig (bL (2 ^ b)) := by
  refine anew (mu := muF) Try.func35 rfl (by decide) rfl (by decide) (Nat.le_of_ble_eq_true rfl) (by simp [nm0, AVal.at, AVal.at1, Cell.at]) fun S hS => ?_
  repeat refine gO ?_
  ((first | refine zw1 ?_ | refine zw2 ?_ | refine zw3 ?_); refine s_call ((c_newint 1 (by decide) (by decide)).pim) ?_)
  repeat refine gO ?_
  ((first | refine zw1 ?_ | refine zw2 ?_ | refine zw3 ?_); refine s_proc (c_lsh (.loc 3) (.sc (.bool false)) (.sc (.slice none 0 0)) _ 1 b (.im 1) (by rw [show (1 : Int).natAbs = 1 from rfl, digs_one]; decide) (by omega)) ?_ (by intro p hp; first | (simp only [List.mem_singleton] at hp; subst hp; exact lks) | (simp only [List.mem_cons, List.not_mem_nil, or_false] at hp; rcases hp with rfl | rfl <;> exact lks)))
  repeat refine gO ?_
  rw [Int.one_mul]
  (refine endN ttOk (l := (.loc 3)) (fl' := [(2, ptr (.loc 3))]) (.inr rfl) hS (by exact rfl) (by exact rfl) ?_ ?_ (by exact rfl); all_goals (repeat' (first | refine fF ?_ ?_ | refine fS ?_ ?_ | exact True.intro); all_goals (try (first | exact kv | (refine kW (ov_of lks) rfl ?_ ?_)))))
end Go.Proofs

/-
  big, exact: Sign, Limbs, Told of a number in a tracked block.
-/
namespace Go.Proofs
open Go Go.Abs Go.Nums
attribute [local irreducible] thenA blockA awp aw Stp EndF EndP EndN EndG aOps
set_option linter.unusedSimpArgs false
set_option maxHeartbeats 4000000

theorem c_signP (z : Nm) (n : Int) : AProc Try.prog 82 [ptr z] [(z, bo n)] [(z, bo n)] (ivl .i64 (Int.sign n)) := by
  (refine aproc1 (mu := muF) Try.func82 rfl (by decide) rfl (by decide) (Nat.le_of_ble_eq_true rfl) (by simp [AVal.at, AVal.at1, Cell.at]) (by simp [AVal.at, AVal.at1, Cell.at]) (by simp [AVal.at, AVal.at1, Cell.at]) (by first | exact cells_nm0 | exact trivial | (intro x hx m; simp at hx; rcases hx with rfl | rfl <;> first | exact fun h => h | exact Leaf.cell_nm _ _)) (by first | exact cells_nm0 | exact trivial | (intro x hx m; simp at hx; rcases hx with rfl | rfl <;> first | exact fun h => h | exact Leaf.cell_nm _ _)) fun S hS => ?_; simp only [List.map_cons, List.map_nil, AVal.map, AVal.map1, Cell.map])
  have hU := U_len (digs B n.natAbs)
  have h0 : (digs B n.natAbs).length = 0 ↔ n.natAbs = 0 := by rw [List.length_eq_zero_iff]; exact digs_nil hB
  repeat refine gO ?_
  ((first | refine zw1 ?_ | refine zw2 ?_ | refine zw3 ?_); refine s_cmp (fun h => ?_) (fun h => ?_))
  · have : n = 0 := by have := h0.1 (by omega); omega
    subst this
    repeat refine gO ?_
    (refine endP1 ttOk (fl' := [(2, ivl .i64 (Int.sign 0))]) (.inr rfl) hS lks (by first | exact cells_nm0 | exact trivial | (intro x hx m; simp at hx; rcases hx with rfl | rfl <;> first | exact fun h => h | exact Leaf.cell_nm _ _)) (by intro m hm; simp [lkS, addL, delL, Nm.isLoc, hm]) ?_ ?_ (by exact rfl) (by exact rfl) (by exact rfl))
    · rfl
    · (repeat' (first | refine fF ?_ ?_ | refine fS ?_ ?_ | exact True.intro); all_goals (try (first | exact kv | (refine kW (ov_of lks) rfl ?_ ?_))))
  · have hn : n ≠ 0 := fun q => h (by have := h0.2 (by omega); omega)
    repeat refine gO ?_
    refine awp_if (by exact rfl) (fun g => ?_) (fun g => ?_)
    · repeat refine gO ?_
      (refine endP1 ttOk (fl' := [(2, ivl .i64 (Int.sign n))]) (.inr rfl) hS lks (by first | exact cells_nm0 | exact trivial | (intro x hx m; simp at hx; rcases hx with rfl | rfl <;> first | exact fun h => h | exact Leaf.cell_nm _ _)) (by intro m hm; simp [lkS, addL, delL, Nm.isLoc, hm]) ?_ ?_ (by exact rfl) (by exact rfl) (by exact rfl))
      · rfl
      · (repeat' (first | refine fF ?_ ?_ | refine fS ?_ ?_ | exact True.intro); all_goals (try (first | exact kv | (refine kW (ov_of lks) rfl ?_ ?_))))
        exact kN (Int.sign_eq_neg_one_of_neg (by simpa using g)).symm
    · repeat refine gO ?_
      (refine endP1 ttOk (fl' := [(2, ivl .i64 (Int.sign n))]) (.inr rfl) hS lks (by first | exact cells_nm0 | exact trivial | (intro x hx m; simp at hx; rcases hx with rfl | rfl <;> first | exact fun h => h | exact Leaf.cell_nm _ _)) (by intro m hm; simp [lkS, addL, delL, Nm.isLoc, hm]) ?_ ?_ (by exact rfl) (by exact rfl) (by exact rfl))
      · rfl
      · (repeat' (first | refine fF ?_ ?_ | refine fS ?_ ?_ | exact True.intro); all_goals (try (first | exact kv | (refine kW (ov_of lks) rfl ?_ ?_))))
        exact kN (Int.sign_eq_one_of_pos (by have : ¬ n < 0 := by simpa using g
                                             omega)).symm
theorem c_signR (z : Nm) (n : Int) : ARead Try.prog 82 [ptr z] [(z, bo n)] (ivl .i64 (Int.sign n)) :=
  (c_signP z n).read ⟨_, List.mem_singleton_self _, rfl⟩

theorem ov_dup {sl : SL} {S : Store} {m : Nm} {o : AObj} (h : lkS sl m = some o) : ov ((m, o) :: sl) S = ov sl S := by
  funext q; simp only [ov, lkS]
  by_cases e : q = m
  · subst e; rw [if_pos rfl, h]
  · rw [if_neg e]
theorem aw_dup {P : Program} {mu : FuncId → Bool} {N : Nat} {ops : Array Oper} {Q : Exit → St → Prop} {l : List Oper} {fl : FL} {sl : SL} {S : Store} {m : Nm} {o : AObj} (h : aw P mu N ops Q l ⟨lk' fl, ov sl S⟩) (e : lkS sl m = some o := by exact lks) :
    aw P mu N ops Q l ⟨lk' fl, ov ((m, o) :: sl) S⟩ := by rw [ov_dup e]; exact h

theorem c_limbsP (z : Nm) (n : Int) (hn : (digs B n.natAbs).length < 2 ^ 37) : AProc Try.prog 83 [ptr z] [(z, bo n)] [(z, bo n)] (us (digs B n.natAbs)) := by
  (refine aproc1 (mu := muF) Try.func83 rfl (by decide) rfl (by decide) (Nat.le_of_ble_eq_true rfl) (by simp [AVal.at, AVal.at1, Cell.at]) (by simp [AVal.at, AVal.at1, Cell.at]) (by simp [AVal.at, AVal.at1, Cell.at]) (by first | exact cells_nm0 | exact trivial | (intro x hx m; simp at hx; rcases hx with rfl | rfl <;> first | exact fun h => h | exact Leaf.cell_nm _ _)) (by first | exact cells_nm0 | exact trivial | (intro x hx m; simp at hx; rcases hx with rfl | rfl <;> first | exact fun h => h | exact Leaf.cell_nm _ _)) fun S hS => ?_; simp only [List.map_cons, List.map_nil, AVal.map, AVal.map1, Cell.map])
  obtain ⟨N, hN⟩ : ∃ N, N = n.natAbs := ⟨_, rfl⟩
  repeat refine gO ?_
  ((first | refine zw1 ?_ | refine zw2 ?_ | refine zw3 ?_); refine s_proc (c_abs2 (.loc 9) (.out z) (by simp) (.sc (.bool false)) (.sc (.slice none 0 0)) n (by omega)) ?_ (by intro p hp; first | (simp only [List.mem_singleton] at hp; subst hp; exact lks) | (simp only [List.mem_cons, List.not_mem_nil, or_false] at hp; rcases hp with rfl | rfl <;> exact lks)))
  refine aw_dup ?_
  ((first | refine aw_fz 9 ?_ ?_ | refine awp_fz 9 ?_ ?_); rotate_left; · (repeat' (first | exact True.intro | refine And.intro ?_ ?_)) <;> first | (show _ ≤ _; simp; done) | (show _ ≤ _; simp; omega) | (show _ ≤ _; omega))
  have hcb := c_bytes (n.natAbs : Nat) (by rw [Int.natAbs_natCast]; omega)
  rw [Int.natAbs_natCast] at hcb
  ((first | refine zw1 ?_ | refine zw2 ?_ | refine zw3 ?_); refine s_call (hcb) ?_)
  rw [← hN] at hn ⊢
  repeat refine gO ?_
  obtain ⟨L, hL⟩ : ∃ L, L = (bsOf N).length := ⟨_, rfl⟩
  have hUb := U_len (bsOf N)
  have hbl := bs_len N
  have hb64 : blen N ≤ 64 * (digs B N).length := by rw [blen_le, Nat.pow_mul]; exact digs_lt hB N
  have hrb : rng 256 (bsOf N) := rng_rev (rng_digs h256 N)
  have hLd : (digs 256 N).length = L := by rw [hL, bsOf, List.length_reverse]
  have hget : ∀ j, j < L → (bsOf N).getD j 0 = N / 256 ^ (L - 1 - j) % 256 := fun j hj => by
    rw [bsOf, getD_rev (by omega), getD_val (b := 256) (by decide) _ (rng_digs h256 N), val_digs h256, hLd]
  have hB8 : ∀ k, 256 ^ (8 * k) = B ^ k := fun k => by rw [Nat.pow_mul]
  refine awp_rep2 (fun (k : Nat) (o : List Nat) => ⟨lk' [(3, .accv (.loc 39)), (4, ub (bsOf N)), (5, ivl .i64 ((L : Int) - 8 * k))], ov [(.loc 39, .acc 26 .u64 (U o)), (.out z, bo n)] (pushS S)⟩)
    (fun k o => o.length = k ∧ rng B o ∧ val B o = N % B ^ k ∧ 8 * k ≤ L + 7) (fun k _ => L + 8 - 8 * k)
    0 [] ⟨rfl, rng_nil, by simp [val, Nat.mod_one], by omega⟩ ?_ ?_
  · refine frz hS (by exact rfl) (fSA (fS (.of_nm0 cells_nm0) trivial)) ?_
    (repeat' (first | refine fF ?_ ?_ | refine fS ?_ ?_ | exact True.intro); all_goals (try (first | exact kv | (refine kW (ov_of lks) rfl ?_ ?_))))
    exact kNA (ov_of lks)
  rintro k o ⟨h1, h2, h3, h4⟩
  have hUo := U_len o
  repeat refine gO ?_
  ((first | refine zw1 ?_ | refine zw2 ?_ | refine zw3 ?_); refine s_cmp (fun h5 => ?_) (fun h5 => ?_))
  · repeat refine gO ?_
    obtain ⟨e, he⟩ : ∃ e, e = L - 8 * k := ⟨_, rfl⟩
    obtain ⟨lo, hlo⟩ : ∃ lo, lo = e - 8 := ⟨_, rfl⟩
    obtain ⟨ch, hch⟩ : ∃ ch, ch = ((bsOf N).drop lo).take (e - lo) := ⟨_, rfl⟩
    have hchl : ch.length = e - lo := by rw [hch]; simp; omega
    have hchr : rng 256 ch := by rw [hch]; exact rng_take (rng_drop hrb _) _
    have e1 : ((L : Int) - 8 * k).toNat = e := by omega
    have e2 : (if (L : Int) - 8 * k - 8 < 0 then (0 : Int) else (L : Int) - 8 * k - 8).toNat = lo := by split <;> omega
    have e3 : List.take (e - lo) (List.drop lo (U (bsOf N))) = U ch := by rw [U_drop, U_take, hch]
    have hUc := U_len ch
    rw [e1, e2, e3]
    have hcv : val 256 ch.reverse = N / B ^ k % B := by
      have hg : ∀ j, j < ch.length → ch.getD j 0 = (N / 256 ^ (8 * k)) / 256 ^ (ch.length - 1 - j) % 256 := fun j hj => by
        rw [hch, List.getD_eq_getElem?_getD, List.getElem?_take_of_lt (by omega), List.getElem?_drop, ← List.getD_eq_getElem?_getD, hget _ (by omega), Nat.div_div_eq_div_mul, ← Nat.pow_add, ← hch]
        congr 3; omega
      rw [val_rev_of hg, hchl, hB8]
      by_cases h8 : 8 ≤ e
      · rw [show e - lo = 8 by omega]
      · have hN : N < 256 ^ L := by rw [← hLd]; exact digs_lt h256 N
        have hlt : N / B ^ k < 256 ^ (e - lo) := by
          rw [Nat.div_lt_iff_lt_mul (Nat.pow_pos (by decide)), ← hB8, ← Nat.pow_add, show e - lo + 8 * k = L by omega]; exact hN
        have hlt2 : N / B ^ k < B := Nat.lt_of_lt_of_le hlt (by rw [show B = 256 ^ 8 by decide]; exact Nat.pow_le_pow_right (by decide) (by omega))
        rw [Nat.mod_eq_of_lt hlt, Nat.mod_eq_of_lt hlt2]
    refine awp_midB (fun st => Weak st ⟨lk' [(3, .accv (.loc 39)), (4, ub (bsOf N)), (5, ivl .i64 ((L : Int) - 8 * k)), (6, uv (val 256 ch.reverse))], ov [(.loc 39, .acc 26 .u64 (U o)), (.out z, bo n)] (pushS S)⟩) ?_ ?_
    · refine awp_rep (ι := Nat) (fun i => ⟨lk' [(3, .accv (.loc 39)), (4, ub (bsOf N)), (5, ivl .i64 ((L : Int) - 8 * k)), (6, uv (val 256 (ch.take i).reverse)), (24, ub ch), (25, iv ch.length), (26, iv i)], ov [(.loc 39, .acc 26 .u64 (U o)), (.out z, bo n)] (pushS S)⟩)
        (fun i => i ≤ ch.length) (fun i => ch.length - i) 0 (Nat.zero_le _) ?_ ?_
      · (refine frz hS (by exact rfl) ?_ ?_; all_goals (repeat' (first | refine fF ?_ ?_ | refine fS ?_ ?_ | exact True.intro)); all_goals (try (first | exact kv | (refine kW (ov_of lks) rfl ?_ ?_))))
      intro i hi
      repeat refine gO ?_
      ((first | refine zw1 ?_ | refine zw2 ?_ | refine zw3 ?_); refine s_cmp (fun h6 => ?_) (fun h6 => ?_))
      · repeat refine gO ?_
        have ei : (i : Int).toNat = i := by omega
        obtain ⟨c, hc⟩ : ∃ c, c = ch.getD i 0 := ⟨_, rfl⟩
        have hc8 : c < 256 := by rw [hc]; exact getD_lt (by decide) hchr _
        obtain ⟨x, hx⟩ : ∃ x, x = val 256 (ch.take i).reverse := ⟨_, rfl⟩
        have hx56 : x < 256 ^ 7 := by
          have h7 := val_lt (rng_rev (rng_take hchr i))
          rw [List.length_reverse] at h7
          rw [hx]
          exact Nat.lt_of_lt_of_le h7 (Nat.pow_le_pow_right (by decide) (by simp; omega))
        have hx64 : x * 256 < 18446744073709551616 := by
          rw [show (256 : Nat) ^ 7 = 72057594037927936 by decide] at hx56; omega
        rw [ei, U_get, ← hc, ← hx]
        (first | refine stp_shlN (x) (8) (by exact rfl) (by exact rfl) (by first | exact True.intro | omega | (simp only [and_true, List.length_map, List.length_replicate, List.length_set, List.length_append, List.length_cons, List.length_nil, List.length_take, List.length_drop] at *; omega)) (by first | exact True.intro | omega | (simp only [and_true, List.length_map, List.length_replicate, List.length_set, List.length_append, List.length_cons, List.length_nil, List.length_take, List.length_drop] at *; omega)) ?_ | refine aw_cons (stp_shlN (x) (8) (by exact rfl) (by exact rfl) (by first | exact True.intro | omega | (simp only [and_true, List.length_map, List.length_replicate, List.length_set, List.length_append, List.length_cons, List.length_nil, List.length_take, List.length_drop] at *; omega)) (by first | exact True.intro | omega | (simp only [and_true, List.length_map, List.length_replicate, List.length_set, List.length_append, List.length_cons, List.length_nil, List.length_take, List.length_drop] at *; omega)) ?_) | refine aOps_cons (stp_shlN (x) (8) (by exact rfl) (by exact rfl) (by first | exact True.intro | omega | (simp only [and_true, List.length_map, List.length_replicate, List.length_set, List.length_append, List.length_cons, List.length_nil, List.length_take, List.length_drop] at *; omega)) (by first | exact True.intro | omega | (simp only [and_true, List.length_map, List.length_replicate, List.length_set, List.length_append, List.length_cons, List.length_nil, List.length_take, List.length_drop] at *; omega)) ?_))
        rw [show x * 2 ^ 8 = x * 256 from rfl, Nat.mod_eq_of_lt hx64]
        repeat refine gO ?_
        (first | refine stp_orN (x * 256) (c) (by exact rfl) (by exact rfl) (by first | exact True.intro | omega | (simp only [and_true, List.length_map, List.length_replicate, List.length_set, List.length_append, List.length_cons, List.length_nil, List.length_take, List.length_drop] at *; omega)) (by first | exact True.intro | omega | (simp only [and_true, List.length_map, List.length_replicate, List.length_set, List.length_append, List.length_cons, List.length_nil, List.length_take, List.length_drop] at *; omega)) (by first | exact True.intro | omega | (simp only [and_true, List.length_map, List.length_replicate, List.length_set, List.length_append, List.length_cons, List.length_nil, List.length_take, List.length_drop] at *; omega)) (by first | exact True.intro | omega | (simp only [and_true, List.length_map, List.length_replicate, List.length_set, List.length_append, List.length_cons, List.length_nil, List.length_take, List.length_drop] at *; omega)) ?_ | refine aw_cons (stp_orN (x * 256) (c) (by exact rfl) (by exact rfl) (by first | exact True.intro | omega | (simp only [and_true, List.length_map, List.length_replicate, List.length_set, List.length_append, List.length_cons, List.length_nil, List.length_take, List.length_drop] at *; omega)) (by first | exact True.intro | omega | (simp only [and_true, List.length_map, List.length_replicate, List.length_set, List.length_append, List.length_cons, List.length_nil, List.length_take, List.length_drop] at *; omega)) (by first | exact True.intro | omega | (simp only [and_true, List.length_map, List.length_replicate, List.length_set, List.length_append, List.length_cons, List.length_nil, List.length_take, List.length_drop] at *; omega)) (by first | exact True.intro | omega | (simp only [and_true, List.length_map, List.length_replicate, List.length_set, List.length_append, List.length_cons, List.length_nil, List.length_take, List.length_drop] at *; omega)) ?_) | refine aOps_cons (stp_orN (x * 256) (c) (by exact rfl) (by exact rfl) (by first | exact True.intro | omega | (simp only [and_true, List.length_map, List.length_replicate, List.length_set, List.length_append, List.length_cons, List.length_nil, List.length_take, List.length_drop] at *; omega)) (by first | exact True.intro | omega | (simp only [and_true, List.length_map, List.length_replicate, List.length_set, List.length_append, List.length_cons, List.length_nil, List.length_take, List.length_drop] at *; omega)) (by first | exact True.intro | omega | (simp only [and_true, List.length_map, List.length_replicate, List.length_set, List.length_append, List.length_cons, List.length_nil, List.length_take, List.length_drop] at *; omega)) (by first | exact True.intro | omega | (simp only [and_true, List.length_map, List.length_replicate, List.length_set, List.length_append, List.length_cons, List.length_nil, List.length_take, List.length_drop] at *; omega)) ?_))
        repeat refine gO ?_
        have hor : x * 256 ||| c = x * 256 + c := or_low (k := 8) (by rw [show (2 : Nat) ^ 8 = 256 from rfl]; exact Nat.mul_mod_left _ _) hc8
        refine ⟨i + 1, ?_, by omega, by omega⟩
        (refine frz hS (by exact rfl) ?_ ?_; all_goals (repeat' (first | refine fF ?_ ?_ | refine fS ?_ ?_ | exact True.intro)); all_goals (try (first | exact kv | (refine kW (ov_of lks) rfl ?_ ?_))))
        refine kN ?_
        rw [hor, take_snoc (by omega), ← hc, List.reverse_append, List.reverse_singleton, List.singleton_append, val_cons, ← hx, Nat.mul_comm 256, Nat.add_comm c]
      · repeat refine gO ?_
        have : i = ch.length := by omega
        subst this
        rw [take_all (Nat.le_refl _)]
        (refine frz hS (by exact rfl) ?_ ?_; all_goals (repeat' (first | refine fF ?_ ?_ | refine fS ?_ ?_ | exact True.intro)); all_goals (try (first | exact kv | (refine kW (ov_of lks) rfl ?_ ?_))))
    intro st hst
    refine awp_weak _ hst ?_
    clear hst st
    repeat refine gO ?_
    ((first | refine zw1 ?_ | refine zw2 ?_ | refine zw3 ?_); refine s_app8 ttOk (Y := [((val 256 ch.reverse : Nat) : Int)]) ?_ ?_ ?_; (· exact srcE_win (L := [((val 256 ch.reverse : Nat) : Int)]) lks (by simp)); (· simp only [List.length_append, List.length_nil, List.length_cons] at *; omega))
    repeat refine gO ?_
    have hkl : k ≤ 2 ^ 40 := by omega
    refine ⟨k + 1, o ++ [val 256 ch.reverse], ?_, ⟨by simp [h1], rng_append.2 ⟨h2, by intro x hx; simp only [List.mem_singleton] at hx; subst hx; rw [hcv]; exact Nat.mod_lt _ (by decide)⟩, ?_, by omega⟩, by omega⟩
    · (refine frz hS (by exact rfl) ?_ ?_; all_goals (repeat' (first | refine fF ?_ ?_ | refine fS ?_ ?_ | exact True.intro)); all_goals (try (first | exact kv | (refine kW (ov_of lks) rfl ?_ ?_))))
      · exact kA (by simp [U])
      · exact kAccK (ov_of lks) (ov_of lks) (by simp [U])
    · rw [val_snoc, h1, h3, hcv, Nat.pow_succ, Nat.mod_mul]
  · repeat refine gO ?_
    have hNk : N < B ^ k := by
      have h7 : N < 256 ^ L := by rw [← hLd]; exact digs_lt h256 N
      rw [← hB8]
      exact Nat.lt_of_lt_of_le h7 (Nat.pow_le_pow_right (by decide) (by omega))
    rw [Nat.mod_eq_of_lt hNk] at h3
    have e : o = digs B N := by
      refine val_inj (b := B) (by decide) h2 (rng_digs hB N) ?_ (by rw [h3, val_digs hB])
      refine Nat.le_antisymm ?_ (by rw [h1]; exact (digs_len hB).2 hNk)
      rw [h1]
      rcases Nat.eq_zero_or_pos k with q | q
      · omega
      · refine Nat.le_of_not_lt fun g => ?_
        have g2 := (digs_len hB (n := N) (k := k - 1)).1 (by omega)
        rw [← hB8] at g2
        have g3 := (digs_len h256 (n := N) (k := 8 * (k - 1))).2 g2
        omega
    rw [← e]
    (refine endP1 ttOk (fl' := [(2, us o)]) (.inr rfl) hS lks (by first | exact cells_nm0 | exact trivial | (intro x hx m; simp at hx; rcases hx with rfl | rfl <;> first | exact fun h => h | exact Leaf.cell_nm _ _)) (by intro m hm; simp [lkS, addL, delL, Nm.isLoc, hm]) ?_ ?_ (by exact rfl) (by exact rfl) (by exact rfl))
    · rfl
    · (repeat' (first | refine fF ?_ ?_ | refine fS ?_ ?_ | exact True.intro); all_goals (try (first | exact kv | (refine kW (ov_of lks) rfl ?_ ?_))))
      exact kAcc (ov_of lks) rfl rfl
theorem c_limbsR (z : Nm) (n : Int) (hn : (digs B n.natAbs).length < 2 ^ 37) : ARead Try.prog 83 [ptr z] [(z, bo n)] (us (digs B n.natAbs)) :=
  (c_limbsP z n hn).read ⟨_, List.mem_singleton_self _, rfl⟩
end Go.Proofs
