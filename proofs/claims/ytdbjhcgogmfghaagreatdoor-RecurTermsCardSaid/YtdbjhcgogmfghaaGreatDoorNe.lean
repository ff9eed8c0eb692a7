/-
  Contracts of functions: part Ne (no statement by itself).
-/
import Derived.Test.YtdbjhcgogmfghaaGreatDoorNb
import Derived.Test.YtdbjhcgogmfghaaGreatDoorNc
import Derived.Test.YtdbjhcgogmfghaaGreatDoorMak
import Derived.Test.YtdbjhcgogmfghaaGreatDoorNd
import Derived.Test.YtdbjhcgogmfghaaGreatDoorMag
import Derived.Test.YtdbjhcgogmfghaaGreatDoorMai
set_option linter.unusedVariables false
set_option linter.unusedSimpArgs false
set_option linter.unnecessarySimpa false

/-
  big: ModInverse.
-/
-- kv2
namespace Go.Proofs
open Go Go.Abs Go.Nums
attribute [local irreducible] thenA blockA awp aw Stp EndF EndP EndN EndG aOps
set_option linter.unusedSimpArgs false
set_option maxHeartbeats 4000000

theorem bp0_eq : bp 0 = .c (.pim [.sc (.bool false),.ints .u64 []]):=by simp [bL,digs_zero,U]
theorem kBp0 {A B : Store} {m : Nm} {ty : TypeId} (hm : A m = some (.cells ty [.sc (.bool false),.sc (.slice none 0 0)])) (hb : B m = none) : FrzV A B (ptr m) (bp 0):=by
 rw [bp0_eq];exact kP hm hb ⟨lS rfl,lJ,trivial⟩

theorem c_modinverse (z : Nm) (a b : Leaf) (g n : Int) (hn1 : 1 < n) (hgn : Int.gcd g n = 1) (hg : (digs B g.natAbs).length < 2 ^ 30) (hn : (digs B n.natAbs).length < 2 ^ 30) :
  AProc Tryz.prog 78 [ptr z,bp g,bp n] [(z,.cells tBig ([a,b].map Leaf.cell))] [(z,bo (invE n g))] (ptr z):=by
 have hl : ∀ x : Int,x.natAbs ≤ n.natAbs→(digs B x.natAbs).length < 2 ^ 30:=fun x hx=>Nat.lt_of_le_of_lt (len_mono hB hx) hn
 (refine aproc1 (mu:=muF) Tryz.func78 rfl (by decide) rfl (by decide) (Nat.le_of_ble_eq_true rfl) (by simp [AVal.at,AVal.at1,Cell.at]) (by simp [AVal.at,AVal.at1,Cell.at]) (by simp [AVal.at,AVal.at1,Cell.at]) nmX nmX fun S hS=>?_;simp only [List.map_cons,List.map_nil,AVal.map,AVal.map1,Cell.map])
 repeat refine gN ?_
 (refine zw ?_;refine s_proc (c_mod (.loc 13) (.sc (.bool false)) (.sc (.slice none 0 0)) _ g n (.im g) (by omega) (by omega) (by omega)) ?_ preX)
 repeat refine gN ?_
 (refine zw ?_;refine s_proc (c_set (.loc 17) (.sc (.bool false)) (.sc (.slice none 0 0)) _ n (.im n) (by omega)) ?_ preX)
 repeat refine gN ?_
 (refine zw ?_;refine s_new (c_newint 1 (by omega) (by omega)) ?_)
 repeat refine gN ?_
 have hE0:=EG.start hn1 hgn
 obtain ⟨T,hT⟩ : ∃ T,T = egS (n.toNat + 1) (g % n) n 1 0:=⟨_,rfl⟩
 have hinv : invE n g = T % n:=by rw [hT];rfl
 refine awp_midB (fun st=>Weak st ⟨lk' [(0,ptr (.out z)),(2,bp n),(7,bp 1),(9,bp T)],ov [(.out z,.cells tBig ([a,b].map Leaf.cell))] (pushS S)⟩∧T.natAbs ≤ n.natAbs) ?_ ?_
 ·refine awp_rep4 (fun (a' b' s t : Int)=>⟨lk' [(0,ptr (.out z)),(2,bp n),(7,bp a'),(8,bp b'),(9,bp s),(10,bp t)],ov [(.out z,.cells tBig ([a,b].map Leaf.cell))] (pushS S)⟩)
   (fun a' b' s t=>EG n a' b' s t∧∃ f : Nat,b' < f∧egS f a' b' s t = T) (fun _ b' _ _=>b'.toNat) (g % n) n 1 0 ⟨hE0,n.toNat + 1,by omega,hT.symm⟩ ?_ ?_
  ·(refine frz1 hS lks nmX (by intro m hm;simp [lkS,addL,delL,Nm.isLoc,hm]) (by exact rfl) ?_ ?_ ?_;rotate_left 1;all_goals (try (repeat' (first | refine fJ ?_ ?_ | exact True.intro);all_goals (try (first | exact kvA | exact kOac | (refine kW (ov_of lks) rfl ?_ ?_))))))
   ·exact kBp0 (ov_of lks) rfl
   ·rfl
  rintro a' b' s t ⟨h1,f,h2,h3⟩
  have la:=hl a' (by have:=h1.a0;have:=h1.an;omega)
  have lb:=hl b' (by have:=h1.b0;have:=h1.bn;omega)
  have ls:=hl s h1.sn
  have lt:=hl t h1.tn
  repeat refine gN ?_
  (refine zw ?_;refine s_call (c_sign b') ?_)
  repeat refine gN ?_
  (refine zw ?_;refine s_cmp (fun g2=>?_) (fun g2=>?_))
  rotate_left
  ·have hb : b' = 0:=Int.sign_eq_zero_iff_zero.1 (Decidable.not_not.1 g2)
   subst hb
   have ha:=h1.last
   subst ha
   have : s = T:=by
    rw [← h3]
    cases f with
    | zero=>rfl
    | succ f=>rw [egS,if_pos rfl]
   subst this
   repeat refine gN ?_
   refine ⟨?_,h1.sn⟩
   (refine frz1 hS lks nmX (by intro m hm;simp [lkS,addL,delL,Nm.isLoc,hm]) (by exact rfl) ?_ ?_ ?_;rotate_left 1;all_goals (try (repeat' (first | refine fJ ?_ ?_ | exact True.intro);all_goals (try (first | exact kvA | exact kOac | (refine kW (ov_of lks) rfl ?_ ?_))))))
   rfl
  have hb : b' ≠ 0:=fun e=>g2 (by rw [e];rfl)
  obtain ⟨f,rfl⟩ : ∃ j,f = j + 1:=⟨f - 1,by have:=h1.b0;omega⟩
  rw [egS,if_neg hb] at h3
  have h4:=h1.step hb
  have lq : (digs B (a' / b').natAbs).length < 2 ^ 30:=hl _ (by
   have h5:=Int.ediv_nonneg h1.a0 h1.b0
   have h6:=Int.ediv_le_self b' h1.a0
   have:=h1.an
   omega)
  have lqt:=digs_mul_le (a' / b').natAbs t.natAbs
  rw [← Int.natAbs_mul] at lqt
  repeat refine gN ?_
  (refine zw ?_;refine s_proc (c_quorem (.loc 26) (.loc 29) (by simp) (.sc (.bool false)) (.sc (.slice none 0 0)) (.sc (.bool false)) (.sc (.slice none 0 0)) _ a' b' (.im a') hb (by omega) (by omega)) ?_ preX)
  rw [Int.tdiv_eq_ediv_of_nonneg h1.a0,Int.tmod_eq_emod_of_nonneg h1.a0]
  repeat refine gN ?_
  (refine zw ?_;refine s_proc (c_mul (.loc 26) _ _ _ _ (a' / b') t (.self _ rfl rfl) (.im t) (by omega) (by omega)) ?_ preX)
  (refine zw ?_;refine s_lend1 (c_sub (.loc 36) (.sc (.bool false)) (.sc (.slice none 0 0)) (bp s) (bp (a' / b' * t)) s (a' / b' * t) (.im s) rfl (by omega) (by omega)) [.loc 26] (lvs3 (lvK (by simp) lks) lv0 (lvP List.mem_cons_self lks)) (lentX1 ⟨ptr (.loc 26),by simp,rfl⟩ lks) ⟨⟨_,List.mem_cons_self,rfl⟩,by simp⟩ ⟨rfl,fun m h=>h.symm⟩ (by first | exact safeO_big rfl | exact safeO_leaf rfl rfl) (by first | exact safeO_big rfl | exact safeO_leaf rfl rfl) ?_)
  repeat refine gN ?_
  refine ⟨b',a' % b',t,s - a' / b' * t,?_,⟨h4,f,?_,h3⟩,?_⟩
  ·(refine frz1 hS lks nmX (by intro m hm;simp [lkS,addL,delL,Nm.isLoc,hm]) (by exact rfl) ?_ ?_ ?_;rotate_left 1;all_goals (try (repeat' (first | refine fJ ?_ ?_ | exact True.intro);all_goals (try (first | exact kvA | exact kOac | (refine kW (ov_of lks) rfl ?_ ?_))))))
   rfl
  ·have:=Int.emod_lt_of_pos a' (show 0 < b' by have:=h1.b0;omega)
   omega
  ·have:=Int.emod_lt_of_pos a' (show 0 < b' by have:=h1.b0;omega)
   have:=h4.b0
   have:=h1.b0
   omega
 rintro st ⟨hst,hTn⟩
 refine awp_weak _ hst ?_
 clear hst st
 have lT:=hl T hTn
 have l11:=hl 1 (by omega)
 repeat refine gN ?_
 (refine zw ?_;refine s_call ((c_newint 1 (by omega) (by omega)).pim) ?_)
 repeat refine gN ?_
 (refine zw ?_;refine s_call (c_cmp 1 1 (by omega) (by omega)) ?_)
 rw [show cmpI 1 1 = 0 from rfl]
 repeat refine gN ?_
 (refine zw ?_;refine s_cmp (fun g9=>?_) (fun g9=>?_))
 ·exact absurd rfl g9
 repeat refine gN ?_
 rw [hinv]
 (refine zw ?_;refine s_proc (c_mod (.out z) _ _ _ T n (.im T) (by omega) (by omega) (by omega)) ?_ preX)
 repeat refine gN ?_
 (refine endP1 ttOk (fl':=[(6,ptr (.out z))]) (.inr rfl) hS lks nmX (by intro m hm;simp [lkS,addL,delL,Nm.isLoc,hm]) ?_ ?_ (by exact rfl) (by exact rfl) (by exact rfl))
 ·rfl
 ·(repeat' (first | refine fJ ?_ ?_ | exact True.intro);all_goals (try (first | exact kvA | exact kOac | (refine kW (ov_of lks) rfl ?_ ?_))))
end Go.Proofs

/-
  big: passes.
-/
-- kv2
namespace Go.Proofs
open Go Go.Abs Go.Nums
attribute [local irreducible] thenA blockA awp aw Stp EndF EndP EndN EndG aOps
set_option linter.unusedSimpArgs false
set_option maxHeartbeats 4000000

def passS (n : Int) : Nat→Int→Bool
 | 0,_=>false
 | k + 1,x=>if x = 1 ∨ x = n - 1 then true else if x * x % n = 1 then false else passS n k (x * x % n)

theorem cmpI_zero (n m : Int) : cmpI n m = 0 ↔ n = m:=by
 unfold cmpI
 split
 ·constructor <;> intro h <;> omega
 ·split
  ·rename_i h1 h2;exact ⟨fun _=>h2,fun _=>rfl⟩
  ·constructor <;> intro h <;> omega

theorem lim1 {n : Int} {K : Nat} (h1 : 0 < K) (h : n.natAbs < 18446744073709551616) : (digs B n.natAbs).length ≤ K:=Nat.le_trans ((digs_len hB (k:=1)).2 (by rw [Nat.pow_one];exact h)) h1

theorem c_passes (n a : Int) (s q : Nat) (h2 : 2 < n) (hn : n < 9223372036854775808) (ha : 0 ≤ a) (ha2 : a < 9223372036854775808) (hs : (n - 1).natAbs = 2 ^ s * (2 * q + 1)) (hs2 : s < 64) :
  AFun Tryz.prog 144 [bp n,bp a] (bvl (passS n s (expM a ((n - 1) / 2 ^ s) n))):=by
 obtain ⟨R,hR⟩ : ∃ R,R = passS n s (expM a ((n - 1) / 2 ^ s) n):=⟨_,rfl⟩
 rw [← hR]
 have l1 : ∀ x : Int,0 ≤ x→x ≤ n→(digs B x.natAbs).length ≤ 1:=fun x h0 h1=>lim1 (by decide) (by omega)
 have ln:=l1 n (by omega) (by omega)
 have ln1:=l1 (n - 1) (by omega) (by omega)
 have l11:=l1 1 (by omega) (by omega)
 have la : (digs B a.natAbs).length ≤ 1:=lim1 (by decide) (by omega)
 have hr0 : 0 ≤ (n - 1) / 2 ^ s:=Int.ediv_nonneg (by omega) (Int.le_of_lt (Int.pow_pos (by decide)))
 have hr1 : (n - 1) / 2 ^ s ≤ n - 1:=Int.ediv_le_self _ (by omega)
 have lr:=l1 _ hr0 (by omega)
 have hmn : ∀ x : Int,0 ≤ x % n∧x % n < n:=fun x=>⟨Int.emod_nonneg _ (by omega),Int.emod_lt_of_pos _ (by omega)⟩
 have hpow : ∀ k o,(0 ≤ o∧o < n)→0 ≤ powS (a % n) n ((n - 1) / 2 ^ s).natAbs k o∧powS (a % n) n ((n - 1) / 2 ^ s).natAbs k o < n:=by
  intro k
  induction k with
  | zero=>intro o h;exact h
  | succ k ih=>intro o _;exact ih _ (hmn _)
 have hx0 : 0 ≤ expM a ((n - 1) / 2 ^ s) n∧expM a ((n - 1) / 2 ^ s) n < n:=hpow _ _ (hmn 1)
 refine aF (mu:=muF) Tryz.func144 fun S hS=>?_
 repeat refine gN ?_
 (refine zw ?_;refine s_new (c_newint 1 (by omega) (by omega)) ?_)
 ((first | refine aw_fz 9 ?_ ?_ | refine awp_fz 9 ?_ ?_);rotate_left;· (repeat' (first | exact True.intro | refine And.intro ?_ ?_)) <;> first | (show _ ≤ _;simp;done) | (show _ ≤ _;simp;omega) | (show _ ≤ _;omega))
 repeat refine gN ?_
 (refine zw ?_;refine s_proc (c_sub (.loc 10) (.sc (.bool false)) (.sc (.slice none 0 0)) _ _ n 1 (.im n) rfl (by omega) (by omega)) ?_ preX)
 ((first | refine aw_fz 10 ?_ ?_ | refine awp_fz 10 ?_ ?_);rotate_left;· (repeat' (first | exact True.intro | refine And.intro ?_ ?_)) <;> first | (show _ ≤ _;simp;done) | (show _ ≤ _;simp;omega) | (show _ ≤ _;omega))
 repeat refine gN ?_
 (refine zw ?_;refine s_call (c_tzb (n - 1) s q hs (by omega)) ?_)
 repeat refine gN ?_
 (refine zw ?_;refine s_proc (c_rsh (.loc 18) (.sc (.bool false)) (.sc (.slice none 0 0)) _ (n - 1) s (.im (n - 1)) (by omega) (by omega)) ?_ preX)
 ((first | refine aw_fz 18 ?_ ?_ | refine awp_fz 18 ?_ ?_);rotate_left;· (repeat' (first | exact True.intro | refine And.intro ?_ ?_)) <;> first | (show _ ≤ _;simp;done) | (show _ ≤ _;simp;omega) | (show _ ≤ _;omega))
 repeat refine gN ?_
 (refine zw ?_;refine s_proc (c_exp (.loc 16) (.sc (.bool false)) (.sc (.slice none 0 0)) a ((n - 1) / 2 ^ s) n (by omega) (by omega) (by omega) (by omega)) ?_ preX)
 repeat refine gN ?_
 refine awp_rep2 (fun (k : Nat) (x : Int)=>⟨lk' [(0,bp n),(5,bp 1),(6,bp (n - 1)),(8,ptr (.loc 16)),(24,uv s),(25,uv (s - k : Nat))],ov [(.loc 16,bo x)] (pushS S)⟩)
  (fun k x=>k ≤ s∧R = passS n k x∧0 ≤ x∧x < n) (fun k _=>k) s (expM a ((n - 1) / 2 ^ s) n) ⟨Nat.le_refl _,hR,hx0⟩ ?_ ?_
 ·(refine fz hS ?_ ?_;all_goals (repeat' (first | refine fJ ?_ ?_ | exact True.intro));all_goals (try (first | exact kvA | exact kOac | (refine kW (ov_of lks) rfl ?_ ?_))))
  all_goals exact kN (by simp)
 rintro k x ⟨h3,h4,h5,h6⟩
 have lx:=l1 x h5 (by omega)
 repeat refine gN ?_
 (refine zw ?_;refine s_cmp (fun g=>?_) (fun g=>?_))
 rotate_left
 ·have : k = 0:=by omega
  subst this
  rw [passS] at h4
  subst h4
  repeat refine gN ?_
  (refine eF hS ?_ (fl':=[(4,bvl false)]);(repeat' (first | refine fJ ?_ ?_ | exact True.intro);all_goals (try (first | exact kvA | exact kOac | (refine kW (ov_of lks) rfl ?_ ?_)))))
 obtain ⟨k,rfl⟩ : ∃ j,k = j + 1:=⟨k - 1,by omega⟩
 rw [passS] at h4
 repeat refine gN ?_
 (refine zw ?_;refine s_lendF (c_cmp x 1 (by omega) (by omega)) [.loc 16] (lvs2 (lvP List.mem_cons_self lks) lv0) (lentX1 ⟨_,List.mem_cons_self,rfl⟩ lks) ?_)
 repeat refine gN ?_
 (refine zw ?_;refine s_cmp (fun g2=>?_) (fun g2=>?_))
 ·rw [cmpI_zero] at g2
  rw [if_pos (.inl g2)] at h4
  subst h4
  repeat refine gN ?_
  (refine eF hS ?_ (fl':=[(4,bvl true)]);(repeat' (first | refine fJ ?_ ?_ | exact True.intro);all_goals (try (first | exact kvA | exact kOac | (refine kW (ov_of lks) rfl ?_ ?_)))))
 rw [cmpI_zero] at g2
 repeat refine gN ?_
 (refine zw ?_;refine s_lendF (c_cmp x (n - 1) (by omega) (by omega)) [.loc 16] (lvs2 (lvP List.mem_cons_self lks) lv0) (lentX1 ⟨_,List.mem_cons_self,rfl⟩ lks) ?_)
 repeat refine gN ?_
 (refine zw ?_;refine s_cmp (fun g3=>?_) (fun g3=>?_))
 ·rw [cmpI_zero] at g3
  rw [if_pos (.inr g3)] at h4
  subst h4
  repeat refine gN ?_
  (refine eF hS ?_ (fl':=[(4,bvl true)]);(repeat' (first | refine fJ ?_ ?_ | exact True.intro);all_goals (try (first | exact kvA | exact kOac | (refine kW (ov_of lks) rfl ?_ ?_)))))
 rw [cmpI_zero] at g3
 rw [if_neg (by omega)] at h4
 have hm2:=digs_mul_le x.natAbs x.natAbs
 rw [← Int.natAbs_mul] at hm2
 have ly:=l1 (x * x % n) (hmn _).1 (Int.le_of_lt (hmn _).2)
 repeat refine gN ?_
 (refine zw ?_;refine s_proc (c_mul (.loc 16) _ _ _ _ x x (.self _ rfl rfl) (.self _ rfl rfl) (by omega) (by omega)) ?_ preX)
 repeat refine gN ?_
 (refine zw ?_;refine s_proc (c_mod (.loc 16) _ _ _ (x * x) n (.self _ rfl rfl) (by omega) (by omega) (by omega)) ?_ preX)
 repeat refine gN ?_
 (refine zw ?_;refine s_lendF (c_cmp (x * x % n) 1 (by omega) (by omega)) [.loc 16] (lvs2 (lvP List.mem_cons_self lks) lv0) (lentX1 ⟨_,List.mem_cons_self,rfl⟩ lks) ?_)
 repeat refine gN ?_
 (refine zw ?_;refine s_cmp (fun g4=>?_) (fun g4=>?_))
 ·rw [cmpI_zero] at g4
  rw [if_pos g4] at h4
  subst h4
  repeat refine gN ?_
  (refine eF hS ?_ (fl':=[(4,bvl false)]);(repeat' (first | refine fJ ?_ ?_ | exact True.intro);all_goals (try (first | exact kvA | exact kOac | (refine kW (ov_of lks) rfl ?_ ?_)))))
 rw [cmpI_zero] at g4
 rw [if_neg g4] at h4
 repeat refine gN ?_
 refine ⟨k,x * x % n,?_,⟨by omega,h4,hmn _⟩,by omega⟩
 (refine fz hS ?_ ?_;all_goals (repeat' (first | refine fJ ?_ ?_ | exact True.intro));all_goals (try (first | exact kvA | exact kOac | (refine kW (ov_of lks) rfl ?_ ?_))))
 all_goals exact kN (by omega)
end Go.Proofs

/-
  big: ProbablyPrime; recur: prime.
-/
-- kv2
namespace Go.Proofs
open Go Go.Abs Go.Nums
attribute [local irreducible] thenA blockA awp aw Stp EndF EndP EndN EndG aOps
set_option linter.unusedSimpArgs false
set_option maxHeartbeats 4000000

def tzN : Nat→Nat→Nat
 | 0,_=>0
 | f + 1,v=>if v % 2 = 0 then tzN f (v / 2) + 1 else 0
theorem tzN_ok : ∀ (f v : Nat),0 < v→v < 2 ^ f→∃ q,v = 2 ^ tzN f v * (2 * q + 1)
 | 0,v,h,h2=>by omega
 | f + 1,v,h,h2=>by
  rw [tzN]
  split
  ·obtain ⟨q,hq⟩:=tzN_ok f (v / 2) (by omega) (by rw [Nat.pow_succ] at h2;omega)
   refine ⟨q,?_⟩
   rw [Nat.pow_succ,Nat.mul_right_comm,← hq];omega
  ·exact ⟨v / 2,by rw [Nat.pow_zero,Nat.one_mul];omega⟩
theorem tzN_le : ∀ (f v : Nat),tzN f v ≤ f
 | 0,v=>Nat.le_refl _
 | f + 1,v=>by
  rw [tzN]
  split
  ·exact Nat.succ_le_succ (tzN_le f _)
  ·exact Nat.zero_le _
def passB (n a : Int) : Bool:=passS n (tzN 32 (n - 1).natAbs) (expM a ((n - 1) / 2 ^ tzN 32 (n - 1).natAbs) n)
def ppS (n : Int) : List Int→Bool
 | []=>true
 | p :: ps=>if n = p then true else if n % p = 0 then false else if passB n p then ppS n ps else false
def p12 : List Int:=[2,3,5,7,11,13,17,19,23,29,31,37]
def primeB (n : Int) : Bool:=decide (1 < n) && decide (n < 2147483648) && ppS n p12

theorem p12_rng : ∀ p ∈ p12,1 < p∧p < 64:=by decide

theorem c_probprime (n k : Int) (h2 : 2 ≤ n) (hn : n < 2147483648) : AFun Tryz.prog 110 [bp n,ivl .i64 k] (bvl (ppS n p12)):=by
 obtain ⟨R,hR⟩ : ∃ R,R = ppS n p12:=⟨_,rfl⟩
 rw [← hR]
 have l1 : ∀ x : Int,0 ≤ x→x ≤ 2147483648→(digs B x.natAbs).length ≤ 1:=fun x h0 h1=>lim1 (by decide) (by omega)
 have ln:=l1 n (by omega) (by omega)
 have ltwo:=l1 2 (by omega) (by omega)
 have hd : decide (n < 0) = false:=by simp;omega
 refine aF (mu:=muF) Tryz.func110 fun S hS=>?_
 repeat refine gN ?_
 rw [show Cell.sc (Value.bool (decide (n < 0))) = Cell.sc (Value.bool false) by rw [hd]]
 repeat refine gN ?_
 (refine zw ?_;refine s_new (c_newint 2 (by omega) (by omega)) ?_)
 ((first | refine aw_fz 14 ?_ ?_ | refine awp_fz 14 ?_ ?_);rotate_left;· (repeat' (first | exact True.intro | refine And.intro ?_ ?_)) <;> first | (show _ ≤ _;simp;done) | (show _ ≤ _;simp;omega) | (show _ ≤ _;omega))
 repeat refine gN ?_
 (refine zw ?_;refine s_call (c_cmp n 2 (by omega) (by omega)) ?_)
 repeat refine gN ?_
 (refine zw ?_;refine s_cmp (fun g=>?_) (fun g=>?_))
 ·exact absurd g (by unfold cmpI;split;omega;split <;> omega)
 repeat refine gN ?_
 refine awp_rep (fun i : Nat=>⟨lk' [(0,bp n),(18,.c (.ints .i64 p12)),(19,iv 12),(20,iv i)],ov [] (pushS S)⟩)
  (fun i=>i ≤ 12∧R = ppS n (p12.drop i)∧(n = 2→i = 0)) (fun i=>12 - i) 0 ⟨by omega,hR,fun _=>rfl⟩ ?_ ?_
 ·(refine fz hS ?_ ?_;all_goals (repeat' (first | refine fJ ?_ ?_ | exact True.intro));all_goals (try (first | exact kvA | exact kOac | (refine kW (ov_of lks) rfl ?_ ?_))))
  ·exact (by decide)
  ·rfl
 rintro i ⟨h3,h4,h6⟩
 repeat refine gN ?_
 (refine zw ?_;refine s_cmp (fun g2=>?_) (fun g2=>?_))
 rotate_left
 ·have : i = 12:=by omega
  subst this
  have : R = true:=h4
  subst this
  repeat refine gN ?_
  (refine eF hS ?_ (fl':=[(4,bvl true)]);(repeat' (first | refine fJ ?_ ?_ | exact True.intro);all_goals (try (first | exact kvA | exact kOac | (refine kW (ov_of lks) rfl ?_ ?_)))))
 obtain ⟨p,hp⟩ : ∃ p,p12[i]? = some p:=⟨_,List.getElem?_eq_getElem (show i < p12.length by show i < 12;omega)⟩
 have hpm:=p12_rng p (List.mem_of_getElem? hp)
 have hpd : p12.drop i = p :: p12.drop (i + 1):=by
  obtain ⟨hi,e⟩:=List.getElem?_eq_some_iff.1 hp
  rw [← e];exact List.drop_eq_getElem_cons hi
 rw [hpd,ppS] at h4
 have lp:=l1 p (by omega) (by omega)
 have hpl : p12.length = 12:=rfl
 have hpD : p12.getD i 0 = p:=by rw [List.getD_eq_getElem?_getD,hp];rfl
 repeat refine gN ?_
 rw [show (i : Int).toNat = i by omega,hpD]
 repeat refine gN ?_
 (refine zw ?_;refine s_call ((c_newint p (by omega) (by omega)).pim) ?_)
 repeat refine gN ?_
 (refine zw ?_;refine s_call (c_cmp n p (by omega) (by omega)) ?_)
 repeat refine gN ?_
 (refine zw ?_;refine s_cmp (fun g3=>?_) (fun g3=>?_))
 ·rw [cmpI_zero] at g3
  rw [if_pos g3] at h4
  subst h4
  repeat refine gN ?_
  (refine eF hS ?_ (fl':=[(4,bvl true)]);(repeat' (first | refine fJ ?_ ?_ | exact True.intro);all_goals (try (first | exact kvA | exact kOac | (refine kW (ov_of lks) rfl ?_ ?_)))))
 rw [cmpI_zero] at g3
 rw [if_neg g3] at h4
 have hmod : n.tmod p = n % p:=Int.tmod_eq_emod_of_nonneg (by omega)
 repeat refine gN ?_
 (refine zw ?_;refine s_proc (c_rem (.loc 30) (.sc (.bool false)) (.sc (.slice none 0 0)) n p (by omega) (by omega) (by omega)) ?_ preX)
 rw [hmod]
 repeat refine gN ?_
 (refine zw ?_;refine s_lendF (c_sign (n % p)) [.loc 30] (lvs1 (lvP List.mem_cons_self lks)) (lentX1 ⟨_,List.mem_cons_self,rfl⟩ lks) ?_)
 repeat refine gN ?_
 (refine zw ?_;refine s_cmp (fun g4=>?_) (fun g4=>?_))
 ·rw [if_pos (Int.sign_eq_zero_iff_zero.1 g4)] at h4
  subst h4
  repeat refine gN ?_
  (refine eF hS ?_ (fl':=[(4,bvl false)]);(repeat' (first | refine fJ ?_ ?_ | exact True.intro);all_goals (try (first | exact kvA | exact kOac | (refine kW (ov_of lks) rfl ?_ ?_)))))
 have g5 : n % p ≠ 0:=fun e=>g4 (by rw [e];rfl)
 rw [if_neg g5] at h4
 have hn2 : 2 < n:=by
  refine Decidable.byContradiction fun q=>?_
  have h7:=h6 (by omega)
  rw [h7] at hp
  have h8 : p = 2:=(Option.some.inj hp).symm
  omega
 obtain ⟨q,hq⟩:=tzN_ok 32 (n - 1).natAbs (by omega) (by omega)
 have hs32:=tzN_le 32 (n - 1).natAbs
 have hc : AFun Tryz.prog 144 [bp n,bp p] (bvl (passB n p)):=c_passes n p _ q hn2 (by omega) (by omega) (by omega) hq (by omega)
 obtain ⟨v,hv⟩ : ∃ v,v = passB n p:=⟨_,rfl⟩
 rw [← hv] at hc h4
 repeat refine gN ?_
 (refine zw ?_;refine s_call (hc) ?_)
 cases v
 ·rw [if_neg (by simp)] at h4
  subst h4
  repeat refine gN ?_
  (refine eF hS ?_ (fl':=[(4,bvl false)]);(repeat' (first | refine fJ ?_ ?_ | exact True.intro);all_goals (try (first | exact kvA | exact kOac | (refine kW (ov_of lks) rfl ?_ ?_)))))
 ·rw [if_pos rfl] at h4
  repeat refine gN ?_
  refine ⟨i + 1,?_,⟨by omega,h4,fun e=>by omega⟩,by omega⟩
  (refine fz hS ?_ ?_;all_goals (repeat' (first | refine fJ ?_ ?_ | exact True.intro));all_goals (try (first | exact kvA | exact kOac | (refine kW (ov_of lks) rfl ?_ ?_))))

theorem c_prime (n : Int) (h1 : -9223372036854775808 ≤ n) (h2 : n < 9223372036854775808) : AFun Tryz.prog 75 [ivl .i64 n] (bvl (primeB n)):=by
 obtain ⟨R,hR⟩ : ∃ R,R = primeB n:=⟨_,rfl⟩
 rw [← hR]
 unfold primeB at hR
 refine aF (mu:=muF) Tryz.func75 fun S hS=>?_
 repeat refine gN ?_
 (refine zw ?_;refine s_cmp (fun g=>?_) (fun g=>?_))
 rotate_left
 ·rw [decide_eq_false (by omega),Bool.false_and,Bool.false_and] at hR
  subst hR
  repeat refine gN ?_
  (refine eF hS ?_ (fl':=[(2,bvl false)]);(repeat' (first | refine fJ ?_ ?_ | exact True.intro);all_goals (try (first | exact kvA | exact kOac | (refine kW (ov_of lks) rfl ?_ ?_)))))
 rw [decide_eq_true (by omega),Bool.true_and] at hR
 repeat refine gN ?_
 (refine zw ?_;refine s_cmp (fun g2=>?_) (fun g2=>?_))
 rotate_left
 ·rw [decide_eq_false (by omega),Bool.false_and] at hR
  subst hR
  repeat refine gN ?_
  (refine eF hS ?_ (fl':=[(2,bvl false)]);(repeat' (first | refine fJ ?_ ?_ | exact True.intro);all_goals (try (first | exact kvA | exact kOac | (refine kW (ov_of lks) rfl ?_ ?_)))))
 rw [decide_eq_true (by omega),Bool.true_and] at hR
 repeat refine gN ?_
 (refine zw ?_;refine s_call ((c_newint n (by omega) (by omega)).pim) ?_)
 repeat refine gN ?_
 (refine zw ?_;refine s_call (c_probprime n 0 (by omega) (by omega)) ?_)
 rw [← hR]
 repeat refine gN ?_
 (refine eF hS ?_ (fl':=[(2,bvl R)]);(repeat' (first | refine fJ ?_ ?_ | exact True.intro);all_goals (try (first | exact kvA | exact kOac | (refine kW (ov_of lks) rfl ?_ ?_)))))
end Go.Proofs

/-
  The reference's natural numbers: NatTrim, NatOf, low, halves, limbs, digit.
-/
namespace Go.Proofs
open Go Go.Abs Go.Nums
attribute [local irreducible] thenA blockA awp aw Stp EndF EndP EndN EndG aOps
set_option linter.unusedSimpArgs false
set_option maxHeartbeats 4000000

theorem fSZ {S : Store} {B' : Store} {sl r : SL} {d : Nat} {ty : TypeId} {k : Nat} {R : List (List Cell)} (h2 : FrzS (ov sl (pushS S)) B' r) (hf : freeO sl d = true:=by exact rfl) (hR : R = []:=by first | rfl | simp [U]) : FrzS (ov sl (pushS S)) B' ((.loc d,.acc ty k R) :: r) :=
 ⟨.inr ⟨fun o ho=>(by rw [freeO_spec hf] at ho;cases ho),_,_,by rw [hR]⟩,h2⟩
theorem kNZ {A C : Store} {m : Nm} {ty : TypeId} {k n : Nat} {R : List (List Cell)} (h : C m = some (.acc ty k R)) (hR : R = []:=by first | rfl | simp [U]) (hn : n = 0:=by first | rfl | simp) : FrzV A C nils (.accv m n):=by subst hR hn;exact .nilA h

abbrev H : Nat:=4294967296
theorem hH : 2 ≤ H:=by decide

theorem digs_pre {b : Nat} (hb : 2 ≤ b) {l : List Nat} (hl : rng b l) : (digs b (val b l)).length ≤ l.length∧l = digs b (val b l) ++ List.replicate (l.length - (digs b (val b l)).length) 0:=by
 have h1 : (digs b (val b l)).length ≤ l.length:=(digs_len hb).2 (val_lt hl)
 refine ⟨h1,val_inj (b:=b) (by omega) hl (rng_append.2 ⟨rng_digs hb _,rng_rep (by omega) _⟩) (by simp;omega) ?_⟩
 rw [val_append,val_digs hb,val_rep0];simp
theorem digs_take {b : Nat} (hb : 2 ≤ b) {l : List Nat} (hl : rng b l) : l.take (digs b (val b l)).length = digs b (val b l):=by
 have h:=(digs_pre hb hl).2
 exact (congrArg (List.take (digs b (val b l)).length) h).trans (by rw [List.take_left' rfl])
theorem trim_end {b n : Nat} (hb : 2 ≤ b) {l : List Nat} (hl : rng b l) (h1 : n ≤ l.length) (h2 : val b (l.take n) = val b l) (h3 : n = 0 ∨ l.getD (n - 1) 0 ≠ 0) : n = (digs b (val b l)).length:=by
 rw [← h2]
 have e : digs b (val b (l.take n)) = l.take n:=by
  refine digs_val hb (rng_take hl _) fun hne=>?_
  rw [getLast_getD hne,List.length_take,Nat.min_eq_left h1]
  rcases h3 with h3 | h3
  ·subst h3;simp at hne
  ·have q : n ≠ 0:=by intro q;subst q;simp at hne
   rw [List.getD_eq_getElem?_getD,List.getElem?_take_of_lt (by omega),← List.getD_eq_getElem?_getD];exact h3
 rw [e,List.length_take,Nat.min_eq_left h1]

theorem U_snoc (o : List Nat) (v : Nat) : U o ++ [(v : Int)] = U (o ++ [v]):=U_append o [v]
theorem rng1' {m : Nat} (h : m < 18446744073709551616) : rng B [m]:=by intro x hx;simp only [List.mem_singleton] at hx;subst hx;exact h

theorem take_snoc0 {l : List Nat} {i : Nat} (h : i < l.length) : l.take (i + 1) = l.take i ++ [l.getD i 0]:=by
 rw [List.take_add_one,List.getD_eq_getElem?_getD];simp [List.getElem?_eq_getElem h]

theorem c_nattrim (l : List Nat) (hl : rng B l) (hs : l.length < 2 ^ 42) : AFun Tryz.prog 59 [us l] (us (digs B (val B l))):=by
 refine aF (mu:=muF) Tryz.func59 fun S hS=>?_
 have hU:=U_len l
 repeat refine gN ?_
 refine awp_midB (fun st=>Weak st ⟨lk' [(0,us l),(3,iv (digs B (val B l)).length)],ov [] (pushS S)⟩) ?_ ?_
 ·refine awp_rep (ι:=Nat) (fun n=>⟨lk' [(0,us l),(3,iv n)],ov [] (pushS S)⟩) (fun n=>n ≤ l.length∧val B (l.take n) = val B l) (fun n=>n) l.length ⟨Nat.le_refl _,by rw [take_all (Nat.le_refl _)]⟩ ?_ ?_
  ·(refine fz hS ?_ ?_;all_goals (repeat' (first | refine fJ ?_ ?_ | exact True.intro));all_goals (try (first | exact kv | (refine kW (ov_of lks) rfl ?_ ?_))))
  rintro n ⟨h1,h2⟩
  repeat refine gN ?_
  (refine zw ?_;refine s_cmp (fun h3=>?_) (fun h3=>?_))
  ·repeat refine gN ?_
   have e : ((n : Int) - 1).toNat = n - 1:=by omega
   rw [e]
   (refine zw ?_;refine s_cmp (fun h4=>?_) (fun h4=>?_))
   ·repeat refine gN ?_
    refine ⟨n - 1,?_,⟨by omega,?_⟩,by omega⟩
    ·(refine fz hS ?_ ?_;all_goals (repeat' (first | refine fJ ?_ ?_ | exact True.intro));all_goals (try (first | exact kv | (refine kW (ov_of lks) rfl ?_ ?_))))
    ·rw [← h2]
     conv=>rhs;rw [show n = n - 1 + 1 by omega,val_take_succ]
     rw [show l.getD (n - 1) 0 = 0 by omega];simp
   ·repeat refine gN ?_
    rw [← trim_end hB hl h1 h2 (.inr (by omega))]
    (refine fz hS ?_ ?_;all_goals (repeat' (first | refine fJ ?_ ?_ | exact True.intro));all_goals (try (first | exact kv | (refine kW (ov_of lks) rfl ?_ ?_))))
  ·repeat refine gN ?_
   rw [← trim_end hB hl h1 h2 (.inl (by omega))]
   (refine fz hS ?_ ?_;all_goals (repeat' (first | refine fJ ?_ ?_ | exact True.intro));all_goals (try (first | exact kv | (refine kW (ov_of lks) rfl ?_ ?_))))
 intro st hst
 refine awp_weak _ hst ?_
 clear hst st
 have h1:=(digs_pre hB hl).1
 have hd:=digs_take hB hl
 obtain ⟨D,hD⟩ : ∃ D,D = digs B (val B l):=⟨_,rfl⟩
 rw [← hD] at h1 hd ⊢
 repeat refine gN ?_
 rw [show ((D.length : Nat) : Int).toNat = D.length by omega,show List.take (D.length - 0) (List.drop 0 (U l)) = U D by rw [List.drop_zero,U_take,Nat.sub_zero,hd]]
 have hUD:=U_len D
 (refine zw ?_;refine s_app08 ttOk (Y:=U D) srcE_ints (by omega) ?_)
 repeat refine gN ?_
 (refine eF hS ?_ (fl':=[(2,us D)]);(repeat' (first | refine fJ ?_ ?_ | exact True.intro);all_goals (try (first | exact kv | (refine kW (ov_of lks) rfl ?_ ?_)))))
 exact kAcc (ov_of lks) rfl rfl

theorem digs_of {b x : Nat} (hb : 2 ≤ b) (hx : x < b) : val b [x] = x∧rng b [x]:=⟨by simp [val],by intro y hy;simp only [List.mem_singleton] at hy;subst hy;exact hx⟩

theorem c_natof (x : Nat) (hx : x < B) : AFun Tryz.prog 31 [uv x] (us (digs B x)):=by
 refine aF (mu:=muF) Tryz.func31 fun S hS=>?_
 repeat refine gN ?_
 refine aw_weak ⟨lk' [(4,us [x])],ov [] (pushS S)⟩ ?_ ?_
 ·(refine fz hS ?_ ?_;all_goals (repeat' (first | refine fJ ?_ ?_ | exact True.intro));all_goals (try (first | exact kv | (refine kW (ov_of lks) rfl ?_ ?_))))
  ·simp
  ·rfl
 obtain ⟨h1,h2⟩:=digs_of hB hx
 (refine zw ?_;refine s_call (c_nattrim [x] h2 (by simp)) ?_)
 rw [h1]
 repeat refine gN ?_
 (refine eF hS ?_ (fl':=[(2,us (digs B x))]);(repeat' (first | refine fJ ?_ ?_ | exact True.intro);all_goals (try (first | exact kv | (refine kW (ov_of lks) rfl ?_ ?_)))))

theorem c_low (l : List Nat) (hl : rng H l) (hs : l.length < 2 ^ 42) : AFun Tryz.prog 141 [us l] (us (digs H (val H l))):=by
 refine aF (mu:=muF) Tryz.func141 fun S hS=>?_
 have hU:=U_len l
 repeat refine gN ?_
 refine awp_midB (fun st=>Weak st ⟨lk' [(0,us l),(3,iv (digs H (val H l)).length)],ov [] (pushS S)⟩) ?_ ?_
 ·refine awp_rep (ι:=Nat) (fun n=>⟨lk' [(0,us l),(3,iv n)],ov [] (pushS S)⟩) (fun n=>n ≤ l.length∧val H (l.take n) = val H l) (fun n=>n) l.length ⟨Nat.le_refl _,by rw [take_all (Nat.le_refl _)]⟩ ?_ ?_
  ·(refine fz hS ?_ ?_;all_goals (repeat' (first | refine fJ ?_ ?_ | exact True.intro));all_goals (try (first | exact kv | (refine kW (ov_of lks) rfl ?_ ?_))))
  rintro n ⟨h1,h2⟩
  repeat refine gN ?_
  (refine zw ?_;refine s_cmp (fun h3=>?_) (fun h3=>?_))
  ·repeat refine gN ?_
   have e : ((n : Int) - 1).toNat = n - 1:=by omega
   rw [e]
   (refine zw ?_;refine s_cmp (fun h4=>?_) (fun h4=>?_))
   ·repeat refine gN ?_
    refine ⟨n - 1,?_,⟨by omega,?_⟩,by omega⟩
    ·(refine fz hS ?_ ?_;all_goals (repeat' (first | refine fJ ?_ ?_ | exact True.intro));all_goals (try (first | exact kv | (refine kW (ov_of lks) rfl ?_ ?_))))
    ·rw [← h2]
     conv=>rhs;rw [show n = n - 1 + 1 by omega,val_take_succ]
     rw [show l.getD (n - 1) 0 = 0 by omega];simp
   ·repeat refine gN ?_
    rw [← trim_end hH hl h1 h2 (.inr (by omega))]
    (refine fz hS ?_ ?_;all_goals (repeat' (first | refine fJ ?_ ?_ | exact True.intro));all_goals (try (first | exact kv | (refine kW (ov_of lks) rfl ?_ ?_))))
  ·repeat refine gN ?_
   rw [← trim_end hH hl h1 h2 (.inl (by omega))]
   (refine fz hS ?_ ?_;all_goals (repeat' (first | refine fJ ?_ ?_ | exact True.intro));all_goals (try (first | exact kv | (refine kW (ov_of lks) rfl ?_ ?_))))
 intro st hst
 refine awp_weak _ hst ?_
 clear hst st
 have h1:=(digs_pre hH hl).1
 have hd:=digs_take hH hl
 obtain ⟨D,hD⟩ : ∃ D,D = digs H (val H l):=⟨_,rfl⟩
 rw [← hD] at h1 hd ⊢
 repeat refine gN ?_
 rw [show ((D.length : Nat) : Int).toNat = D.length by omega,show List.take (D.length - 0) (List.drop 0 (U l)) = U D by rw [List.drop_zero,U_take,Nat.sub_zero,hd]]
 (refine eF hS ?_ (fl':=[(2,us D)]);(repeat' (first | refine fJ ?_ ?_ | exact True.intro);all_goals (try (first | exact kv | (refine kW (ov_of lks) rfl ?_ ?_)))))

def hv : List Nat→List Nat
 | []=>[]
 | x :: l=>x % 4294967296 :: x / 4294967296 :: hv l
theorem hv_snoc : ∀ (l : List Nat) (x : Nat),hv (l ++ [x]) = hv l ++ [x % 4294967296,x / 4294967296]
 | [],x=>rfl
 | y :: l,x=>by simp only [List.cons_append,hv,hv_snoc l x]
theorem hv_len : ∀ l : List Nat,(hv l).length = 2 * l.length
 | []=>rfl
 | x :: l=>by simp only [hv,List.length_cons,hv_len l];omega
theorem hv_val : ∀ l : List Nat,val H (hv l) = val B l
 | []=>rfl
 | x :: l=>by
  simp only [hv,val_cons,hv_val l]
  have e : ∀ a q r v : Nat,r + 4294967296 * q = a→r + 4294967296 * (q + 4294967296 * v) = a + 18446744073709551616 * v:=by intros;omega
  exact e _ _ _ _ (Nat.mod_add_div x 4294967296)
theorem hv_rng : ∀ {l : List Nat},rng B l→rng H (hv l)
 | [],_=>rng_nil
 | x :: l,h=>by
  obtain ⟨h1,h2⟩:=rng_cons.1 h
  have h1 : x < 18446744073709551616:=h1
  exact rng_cons.2 ⟨Nat.mod_lt _ (by decide),rng_cons.2 ⟨show x / 4294967296 < 4294967296 by omega,hv_rng h2⟩⟩

theorem c_halves (l : List Nat) (hl : rng B l) (hs : l.length < 2 ^ 40) : AFun Tryz.prog 102 [us l] (us (digs H (val B l))):=by
 refine aF (mu:=muF) Tryz.func102 fun S hS=>?_
 have hU:=U_len l
 repeat refine gN ?_
 refine awp_rep (ι:=Nat) (fun i=>⟨lk' [(0,us l),(3,.accv (.loc 23) ((hv (l.take i))).length),(4,iv i)],ov [(.loc 23,.accI 55 .u64 (U (hv (l.take i))))] (pushS S)⟩) (fun i=>i ≤ l.length) (fun i=>l.length - i) 0 (Nat.zero_le _) ?_ ?_
 ·refine frz hS (by exact rfl) (fSZ trivial) ?_
  (repeat' (first | refine fJ ?_ ?_ | exact True.intro);all_goals (try (first | exact kv | (refine kW (ov_of lks) rfl ?_ ?_))))
  exact kNZ (ov_of lks)
 intro i h1
 have hUo:=U_len (hv (l.take i))
 have hlo:=hv_len (l.take i)
 rw [List.length_take,Nat.min_eq_left h1] at hlo
 repeat refine gN ?_
 (refine zw ?_;refine s_cmp (fun h2=>?_) (fun h2=>?_))
 ·repeat refine gN ?_
  have hx : l.getD i 0 < 18446744073709551616:=getD_lt (by decide) hl i
  obtain ⟨x,hxe⟩ : ∃ x,x = l.getD i 0:=⟨_,rfl⟩
  rw [← hxe] at hx ⊢
  repeat refine gN ?_
  (refine zw ?_;refine s_app8 ttOk (Y:=[((x % 4294967296 : Nat) : Int),((x / 4294967296 : Nat) : Int)]) ?_ ?_ ?_;(· exact srcE_win (L:=[((x % 4294967296 : Nat) : Int),((x / 4294967296 : Nat) : Int)]) lks (by simp));(· simp only [List.length_append,List.length_nil,List.length_cons] at *;omega))
  repeat refine gN ?_
  have e : U (hv (l.take i)) ++ [((x % 4294967296 : Nat) : Int),((x / 4294967296 : Nat) : Int)] = U (hv (l.take (i + 1))):=by
   rw [take_snoc0 (by omega),hv_snoc,← hxe,← U_append];rfl
  rw [e]
  refine ⟨i + 1,?_,by omega,by omega⟩
  (refine fz hS ?_ ?_;all_goals (repeat' (first | refine fJ ?_ ?_ | exact True.intro));all_goals (try (first | exact kv | (refine kW (ov_of lks) rfl ?_ ?_))))
 ·repeat refine gN ?_
  have hi : i = l.length:=by omega
  subst hi
  rw [take_all (Nat.le_refl _)] at *
  ((first | refine aw_fzI 23 ?_ ?_ | refine awp_fzI 23 ?_ ?_);rotate_left;· (repeat' (first | exact True.intro | refine And.intro ?_ ?_)) <;> first | (show _ ≤ _;simp;done) | (show _ ≤ _;simp;omega) | (show _ ≤ _;omega))
  (refine zw ?_;refine s_call (c_low (hv l) (hv_rng hl) (by omega)) ?_)
  rw [hv_val]
  repeat refine gN ?_
  (refine eF hS ?_ (fl':=[(2,us (digs H (val B l)))]);(repeat' (first | refine fJ ?_ ?_ | exact True.intro);all_goals (try (first | exact kv | (refine kW (ov_of lks) rfl ?_ ?_)))))


theorem c_dig (l : List Nat) (i : Nat) (hi : i < 2 ^ 60) : AFun Tryz.prog 108 [us l,iv i] (uv (l.getD i 0)):=by
 refine aF (mu:=muF) Tryz.func108 fun S hS=>?_
 repeat refine gN ?_
 (refine zw ?_;refine s_cmp (fun h=>?_) (fun h=>?_))
 ·repeat refine gN ?_
  (refine eF hS ?_ (fl':=[(4,uv (l.getD i 0))]);(repeat' (first | refine fJ ?_ ?_ | exact True.intro);all_goals (try (first | exact kv | (refine kW (ov_of lks) rfl ?_ ?_)))))
 ·repeat refine gN ?_
  (refine eF hS ?_ (fl':=[(4,uv (l.getD i 0))]);(repeat' (first | refine fJ ?_ ?_ | exact True.intro);all_goals (try (first | exact kv | (refine kW (ov_of lks) rfl ?_ ?_)))))
  exact kN (by rw [List.getD_eq_getElem?_getD,List.getElem?_eq_none (by omega)];rfl)

theorem pair_step (l : List Nat) (k : Nat) : val H (l.take (2 * (k + 1))) = val H (l.take (2 * k)) + B ^ k * (l.getD (2 * k) 0 + 4294967296 * l.getD (2 * k + 1) 0):=by
 rw [show 2 * (k + 1) = 2 * k + 1 + 1 by omega,val_take_succ,val_take_succ,Nat.pow_succ,Nat.pow_mul,show H ^ 2 = B from rfl,Nat.mul_add,Nat.add_assoc,Nat.mul_assoc]

theorem c_limbs0 (l : List Nat) (hl : rng H l) (hs : l.length < 2 ^ 40) : AFun Tryz.prog 104 [us l] (us (digs B (val H l))):=by
 refine aF (mu:=muF) Tryz.func104 fun S hS=>?_
 have hU:=U_len l
 repeat refine gN ?_
 refine awp_rep2 (fun (k : Nat) (o : List Nat)=>⟨lk' [(0,us l),(3,.accv (.loc 32) o.length),(4,iv (2 * k))],ov [(.loc 32,.accI 55 .u64 (U o))] (pushS S)⟩)
  (fun k o=>2 * k ≤ l.length + 1∧o.length = k∧rng B o∧val B o = val H (l.take (2 * k))) (fun k _=>l.length + 2 - 2 * k) 0 [] ⟨by omega,rfl,rng_nil,rfl⟩ ?_ ?_
 ·refine frz hS (by exact rfl) (fSZ trivial) ?_
  (repeat' (first | refine fJ ?_ ?_ | exact True.intro);all_goals (try (first | exact kv | (refine kW (ov_of lks) rfl ?_ ?_))))
  exact kNZ (ov_of lks)
 rintro k o ⟨h1,h2,h3,h4⟩
 have hUo:=U_len o
 repeat refine gN ?_
 (refine zw ?_;refine s_cmp (fun h5=>?_) (fun h5=>?_))
 ·repeat refine gN ?_
  have hx : l.getD (2 * k) 0 < 4294967296:=getD_lt (by decide) hl _
  have hy : l.getD (2 * k + 1) 0 < 4294967296:=getD_lt (by decide) hl _
  have hps:=pair_step l k
  obtain ⟨x,hxe⟩ : ∃ x,x = l.getD (2 * k) 0:=⟨_,rfl⟩
  obtain ⟨y,hye⟩ : ∃ y,y = l.getD (2 * k + 1) 0:=⟨_,rfl⟩
  rw [← hxe] at hx ⊢
  rw [← hye] at hy
  rw [← hxe,← hye] at hps
  (refine zw ?_;refine s_cmp (fun h6=>?_) (fun h6=>?_))
  ·repeat refine gN ?_
   rw [← hye]
   (refine zw ?_;refine s_app8 ttOk (Y:=[((x + 4294967296 * y : Nat) : Int)]) ?_ ?_ ?_;(· exact srcE_win (L:=[((x + 4294967296 * y : Nat) : Int)]) lks (by simp));(· simp only [List.length_append,List.length_nil,List.length_cons] at *;omega))
   repeat refine gN ?_
   rw [U_snoc]
   refine ⟨k + 1,o ++ [x + 4294967296 * y],?_,⟨by omega,by simp [h2],rng_append.2 ⟨h3,rng1' (by omega)⟩,?_⟩,by omega⟩
   ·(refine fz hS ?_ ?_;all_goals (repeat' (first | refine fJ ?_ ?_ | exact True.intro));all_goals (try (first | exact kv | (refine kW (ov_of lks) rfl ?_ ?_))))
   ·rw [val_snoc,h2,h4,hps]
  ·have hy0 : y = 0:=by rw [hye,List.getD_eq_getElem?_getD,List.getElem?_eq_none (by omega)];rfl
   subst hy0
   repeat refine gN ?_
   (refine zw ?_;refine s_app8 ttOk (Y:=[((x : Nat) : Int)]) ?_ ?_ ?_;(· exact srcE_win (L:=[((x : Nat) : Int)]) lks (by simp));(· simp only [List.length_append,List.length_nil,List.length_cons] at *;omega))
   repeat refine gN ?_
   rw [U_snoc]
   refine ⟨k + 1,o ++ [x],?_,⟨by omega,by simp [h2],rng_append.2 ⟨h3,rng1' (by omega)⟩,?_⟩,by omega⟩
   ·(refine fz hS ?_ ?_;all_goals (repeat' (first | refine fJ ?_ ?_ | exact True.intro));all_goals (try (first | exact kv | (refine kW (ov_of lks) rfl ?_ ?_))))
   ·rw [val_snoc,h2,h4,hps,Nat.mul_zero,Nat.add_zero]
 ·repeat refine gN ?_
  rw [take_all (by omega)] at h4
  ((first | refine aw_fzI 32 ?_ ?_ | refine awp_fzI 32 ?_ ?_);rotate_left;· (repeat' (first | exact True.intro | refine And.intro ?_ ?_)) <;> first | (show _ ≤ _;simp;done) | (show _ ≤ _;simp;omega) | (show _ ≤ _;omega))
  (refine zw ?_;refine s_call (c_nattrim o h3 (by omega)) ?_)
  rw [h4]
  repeat refine gN ?_
  (refine eF hS ?_ (fl':=[(2,us (digs B (val H l)))]);(repeat' (first | refine fJ ?_ ?_ | exact True.intro);all_goals (try (first | exact kv | (refine kW (ov_of lks) rfl ?_ ?_)))))
end Go.Proofs

/-
  The reference's natural numbers: NatAdd, NatSub.
-/
namespace Go.Proofs
open Go Go.Abs Go.Nums
attribute [local irreducible] thenA blockA awp aw Stp EndF EndP EndN EndG aOps
set_option linter.unusedSimpArgs false
set_option maxHeartbeats 4000000

theorem digsH_len (a : Nat) : (digs H a).length ≤ 2 * (digs B a).length:=by
 rw [digs_len hH,Nat.pow_mul];exact digs_lt hB a
theorem c_halvesD (a : Nat) (ha : (digs B a).length < 2 ^ 40) : AFun Tryz.prog 102 [us (digs B a)] (us (digs H a)):=by
 have h:=c_halves (digs B a) (rng_digs hB a) ha
 rwa [val_digs hB] at h
theorem getH_lt (a i : Nat) : (digs H a).getD i 0 < 4294967296:=getD_lt (by decide) (rng_digs hH a) i

theorem c_natadd (a b : Nat) (ha : (digs B a).length < 2 ^ 38) (hb : (digs B b).length < 2 ^ 38) : AFun Tryz.prog 71 [us (digs B a),us (digs B b)] (us (digs B (a + b))):=by
 refine aF (mu:=muF) Tryz.func71 fun S hS=>?_
 repeat refine gN ?_
 (refine zw ?_;refine s_call (c_halvesD a (by omega)) ?_)
 repeat refine gN ?_
 (refine zw ?_;refine s_call (c_halvesD b (by omega)) ?_)
 repeat refine gN ?_
 have hla:=digsH_len a
 have hlb:=digsH_len b
 obtain ⟨m,hm⟩ : ∃ m,m = max (digs H a).length (digs H b).length:=⟨_,rfl⟩
 have hma : (digs H a).length ≤ m:=by omega
 have hmb : (digs H b).length ≤ m:=by omega
 have hmm : m ≤ (digs H a).length ∨ m ≤ (digs H b).length:=by omega
 refine awp_rep3 (fun (i : Nat) (o : List Nat) (c : Nat)=>⟨lk' [(5,us (digs H a)),(6,us (digs H b)),(7,.accv (.loc 44) o.length),(8,uv c),(9,iv i)],ov [(.loc 44,.accI 55 .u64 (U o))] (pushS S)⟩)
  (fun i o c=>o.length = i∧rng H o∧c ≤ 1∧i ≤ m + 1∧(i = m + 1→c = 0)∧val H o + H ^ i * c = val H ((digs H a).take i) + val H ((digs H b).take i)) (fun i _ _=>m + 1 - i)
  0 [] 0 ⟨rfl,rng_nil,by omega,by omega,by omega,rfl⟩ ?_ ?_
 ·refine frz hS (by exact rfl) (fSZ trivial) ?_
  (repeat' (first | refine fJ ?_ ?_ | exact True.intro);all_goals (try (first | exact kv | (refine kW (ov_of lks) rfl ?_ ?_))))
  exact kNZ (ov_of lks)
 rintro i o c ⟨h1,h2,h3,h4,h5,h6⟩
 have hUo:=U_len o
 refine awp_seq ?_
 refine awp_seq ?_
 refine awp_mid (fun st=>∃ bt : Bool,Weak st ⟨lk' [(5,us (digs H a)),(6,us (digs H b)),(7,.accv (.loc 44) o.length),(8,uv c),(9,iv i),(28,bvl bt)],ov [(.loc 44,.accI 55 .u64 (U o))] (pushS S)⟩ ∧
  ((bt = true∧(i < (digs H a).length ∨ i < (digs H b).length ∨ 0 < c)) ∨ (bt = false∧(digs H a).length ≤ i∧(digs H b).length ≤ i∧c = 0))) ?_ ?_
 ·repeat refine gN ?_
  (refine zw ?_;refine s_cmp (fun g1=>?_) (fun g1=>?_))
  ·repeat refine gN ?_
   refine ⟨true,?_,.inl ⟨rfl,by omega⟩⟩
   (refine fz hS ?_ ?_;all_goals (repeat' (first | refine fJ ?_ ?_ | exact True.intro));all_goals (try (first | exact kv | (refine kW (ov_of lks) rfl ?_ ?_))))
  repeat refine gN ?_
  (refine zw ?_;refine s_cmp (fun g2=>?_) (fun g2=>?_))
  ·repeat refine gN ?_
   refine ⟨true,?_,.inl ⟨rfl,by omega⟩⟩
   (refine fz hS ?_ ?_;all_goals (repeat' (first | refine fJ ?_ ?_ | exact True.intro));all_goals (try (first | exact kv | (refine kW (ov_of lks) rfl ?_ ?_))))
  repeat refine gN ?_
  (refine zw ?_;refine s_cmp (fun g3=>?_) (fun g3=>?_))
  ·repeat refine gN ?_
   refine ⟨true,?_,.inl ⟨rfl,by omega⟩⟩
   (refine fz hS ?_ ?_;all_goals (repeat' (first | refine fJ ?_ ?_ | exact True.intro));all_goals (try (first | exact kv | (refine kW (ov_of lks) rfl ?_ ?_))))
  repeat refine gN ?_
  refine ⟨false,?_,.inr ⟨rfl,by omega,by omega,by omega⟩⟩
  (refine fz hS ?_ ?_;all_goals (repeat' (first | refine fJ ?_ ?_ | exact True.intro));all_goals (try (first | exact kv | (refine kW (ov_of lks) rfl ?_ ?_))))
 rintro st ⟨bt,hw,hc⟩
 refine awp_weak _ hw ?_
 clear hw st
 have hxa:=getH_lt a i
 have hxb:=getH_lt b i
 have hta:=val_take_succ H (digs H a) i
 have htb:=val_take_succ H (digs H b) i
 obtain ⟨x,hx⟩ : ∃ x,x = (digs H a).getD i 0:=⟨_,rfl⟩
 obtain ⟨y,hy⟩ : ∃ y,y = (digs H b).getD i 0:=⟨_,rfl⟩
 rw [← hx] at hxa hta
 rw [← hy] at hxb htb
 rcases hc with ⟨rfl,hc⟩ | ⟨rfl,hc⟩
 ·repeat refine gN ?_
  (refine zw ?_;refine s_call (c_dig (digs H a) i (by omega)) ?_)
  rw [← hx]
  repeat refine gN ?_
  (refine zw ?_;refine s_call (c_dig (digs H b) i (by omega)) ?_)
  rw [← hy]
  repeat refine gN ?_
  (refine zw ?_;refine s_app8 ttOk (Y:=[(((x + y + c) % 4294967296 : Nat) : Int)]) ?_ ?_ ?_;(· exact srcE_win (L:=[(((x + y + c) % 4294967296 : Nat) : Int)]) lks (by simp));(· simp only [List.length_append,List.length_nil,List.length_cons] at *;omega))
  repeat refine gN ?_
  rw [U_snoc]
  refine ⟨i + 1,o ++ [(x + y + c) % 4294967296],(x + y + c) / 4294967296,?_,⟨by simp [h1],rng_append.2 ⟨h2,?_⟩,by omega,by omega,?_,?_⟩,by omega⟩
  ·(refine fz hS ?_ ?_;all_goals (repeat' (first | refine fJ ?_ ?_ | exact True.intro));all_goals (try (first | exact kv | (refine kW (ov_of lks) rfl ?_ ?_))))
  ·intro z hz;simp only [List.mem_singleton] at hz;subst hz;exact Nat.mod_lt _ (by decide)
  ·intro hi
   have z1 : x = 0:=by rw [hx,List.getD_eq_getElem?_getD,List.getElem?_eq_none (by omega)];rfl
   have z2 : y = 0:=by rw [hy,List.getD_eq_getElem?_getD,List.getElem?_eq_none (by omega)];rfl
   omega
  ·rw [val_snoc,h1,hta,htb]
   exact add_step H (H ^ i) _ _ _ x y c h6
 ·repeat refine gN ?_
  obtain ⟨c1,c2,rfl⟩:=hc
  rw [take_all (by omega),take_all (by omega),val_digs hH,val_digs hH,Nat.mul_zero,Nat.add_zero] at h6
  ((first | refine aw_fzI 44 ?_ ?_ | refine awp_fzI 44 ?_ ?_);rotate_left;· (repeat' (first | exact True.intro | refine And.intro ?_ ?_)) <;> first | (show _ ≤ _;simp;done) | (show _ ≤ _;simp;omega) | (show _ ≤ _;omega))
  (refine zw ?_;refine s_call (c_limbs0 o h2 (by omega)) ?_)
  rw [h6]
  repeat refine gN ?_
  (refine eF hS ?_ (fl':=[(4,us (digs B (a + b)))]);(repeat' (first | refine fJ ?_ ?_ | exact True.intro);all_goals (try (first | exact kv | (refine kW (ov_of lks) rfl ?_ ?_)))))

theorem c_natsub (a b : Nat) (hba : b ≤ a) (ha : (digs B a).length < 2 ^ 38) : AFun Tryz.prog 73 [us (digs B a),us (digs B b)] (us (digs B (a - b))):=by
 have hb : (digs B b).length < 2 ^ 38:=Nat.lt_of_le_of_lt (len_mono hB hba) ha
 refine aF (mu:=muF) Tryz.func73 fun S hS=>?_
 repeat refine gN ?_
 (refine zw ?_;refine s_call (c_halvesD a (by omega)) ?_)
 repeat refine gN ?_
 (refine zw ?_;refine s_call (c_halvesD b (by omega)) ?_)
 repeat refine gN ?_
 have hla:=digsH_len a
 have hlb : (digs H b).length ≤ (digs H a).length:=len_mono hH hba
 refine awp_rep3 (fun (i : Nat) (o : List Nat) (c : Nat)=>⟨lk' [(5,us (digs H a)),(6,us (digs H b)),(7,.accv (.loc 36) o.length),(8,uv c),(9,iv i)],ov [(.loc 36,.accI 55 .u64 (U o))] (pushS S)⟩)
  (fun i o c=>o.length = i∧rng H o∧c ≤ 1∧i ≤ (digs H a).length∧val H o + val H ((digs H b).take i) = val H ((digs H a).take i) + H ^ i * c) (fun i _ _=>(digs H a).length - i)
  0 [] 0 ⟨rfl,rng_nil,by omega,by omega,rfl⟩ ?_ ?_
 ·refine frz hS (by exact rfl) (fSZ trivial) ?_
  (repeat' (first | refine fJ ?_ ?_ | exact True.intro);all_goals (try (first | exact kv | (refine kW (ov_of lks) rfl ?_ ?_))))
  exact kNZ (ov_of lks)
 rintro i o c ⟨h1,h2,h3,h4,h5⟩
 have hUo:=U_len o
 repeat refine gN ?_
 (refine zw ?_;refine s_cmp (fun g1=>?_) (fun g1=>?_))
 ·have hxa:=getH_lt a i
  have hxb:=getH_lt b i
  have hta:=val_take_succ H (digs H a) i
  have htb:=val_take_succ H (digs H b) i
  obtain ⟨x,hx⟩ : ∃ x,x = (digs H a).getD i 0:=⟨_,rfl⟩
  obtain ⟨y,hy⟩ : ∃ y,y = (digs H b).getD i 0:=⟨_,rfl⟩
  rw [← hx] at hxa hta
  rw [← hy] at hxb htb
  repeat refine gN ?_
  rw [← hx]
  (refine zw ?_;refine s_call (c_dig (digs H b) i (by omega)) ?_)
  rw [← hy]
  repeat refine gN ?_
  (refine zw ?_;refine s_app8 ttOk (Y:=[(((4294967296 + x - y - c) % 4294967296 : Nat) : Int)]) ?_ ?_ ?_;(· exact srcE_win (L:=[(((4294967296 + x - y - c) % 4294967296 : Nat) : Int)]) lks (by simp));(· simp only [List.length_append,List.length_nil,List.length_cons] at *;omega))
  repeat refine gN ?_
  rw [U_snoc]
  refine ⟨i + 1,o ++ [(4294967296 + x - y - c) % 4294967296],1 - (4294967296 + x - y - c) / 4294967296,?_,⟨by simp [h1],rng_append.2 ⟨h2,?_⟩,by omega,by omega,?_⟩,by omega⟩
  ·(refine fz hS ?_ ?_;all_goals (repeat' (first | refine fJ ?_ ?_ | exact True.intro));all_goals (try (first | exact kv | (refine kW (ov_of lks) rfl ?_ ?_))))
  ·intro z hz;simp only [List.mem_singleton] at hz;subst hz;exact Nat.mod_lt _ (by decide)
  ·rw [val_snoc,h1,hta,htb]
   exact sub_step H (H ^ i) _ _ _ x y c _ _ h5 (show _ = x + 4294967296 * _ by omega)
 ·repeat refine gN ?_
  have hi : i = (digs H a).length:=by omega
  rw [take_all (by omega),take_all (by omega),val_digs hH,val_digs hH] at h5
  have hc : c = 0:=by
   rcases Nat.eq_zero_or_pos c with q | q
   ·exact q
   ·have e:=val_lt h2
    have : H ^ i ≤ H ^ i * c:=Nat.le_mul_of_pos_right _ q
    rw [h1] at e;omega
  subst hc
  ((first | refine aw_fzI 36 ?_ ?_ | refine awp_fzI 36 ?_ ?_);rotate_left;· (repeat' (first | exact True.intro | refine And.intro ?_ ?_)) <;> first | (show _ ≤ _;simp;done) | (show _ ≤ _;simp;omega) | (show _ ≤ _;omega))
  (refine zw ?_;refine s_call (c_limbs0 o h2 (by omega)) ?_)
  rw [show val H o = a - b by omega]
  repeat refine gN ?_
  (refine eF hS ?_ (fl':=[(4,us (digs B (a - b)))]);(repeat' (first | refine fJ ?_ ?_ | exact True.intro);all_goals (try (first | exact kv | (refine kW (ov_of lks) rfl ?_ ?_)))))
end Go.Proofs

/-
  The reference's natural numbers: product, NatMul.
-/
namespace Go.Proofs
open Go Go.Abs Go.Nums
attribute [local irreducible] thenA blockA awp aw Stp EndF EndP EndN EndG aOps
set_option linter.unusedSimpArgs false
set_option maxHeartbeats 4000000

theorem c_product (a b : Nat) (ha : (digs H a).length < 2 ^ 39) (hb : (digs H b).length < 2 ^ 39) : AFun Tryz.prog 109 [us (digs H a),us (digs H b)] (us (digs H (a * b))):=by
 refine aF (mu:=muF) Tryz.func109 fun S hS=>?_
 obtain ⟨n,hn⟩ : ∃ n,n = (digs H a).length:=⟨_,rfl⟩
 obtain ⟨m,hm⟩ : ∃ m,m = (digs H b).length:=⟨_,rfl⟩
 repeat refine gN ?_
 refine awp_rep2 (fun (i : Nat) (o : List Nat)=>⟨lk' [(0,us (digs H a)),(1,us (digs H b)),(5,.c (.win (.loc 15) 0 (n + m) (n + m))),(6,iv i)],ov [(.loc 15,.ints 55 .u64 (U o))] (pushS S)⟩)
  (fun i o=>i ≤ n∧o.length = n + m∧rng H o∧(∀ j,i + m ≤ j→o.getD j 0 = 0)∧val H o = val H ((digs H a).take i) * b) (fun i _=>n - i)
  0 (List.replicate (n + m) 0) ⟨Nat.zero_le _,by simp,rng_rep (by decide) _,fun j _=>getD_rep0 _ j,by rw [List.take_zero,val_nil,Nat.zero_mul];exact val_rep0 H _⟩ ?_ ?_
 ·have e0 : (((digs H a).length + (digs H b).length : Nat) : Int).toNat = n + m:=by omega
  rw [e0]
  (refine fz hS ?_ ?_;all_goals (repeat' (first | refine fJ ?_ ?_ | exact True.intro));all_goals (try (first | exact kv | (refine kW (ov_of lks) rfl ?_ ?_))))
  exact kO (U_rep _ 0)
 rintro i o ⟨h1,h2,h3,h4,h5⟩
 repeat refine gN ?_
 (refine zw ?_;refine s_cmp (fun g1=>?_) (fun g1=>?_))
 ·repeat refine gN ?_
  have hxl:=getH_lt a i
  have hta:=val_take_succ H (digs H a) i
  obtain ⟨x,hx⟩ : ∃ x,x = (digs H a).getD i 0:=⟨_,rfl⟩
  rw [← hx] at hxl hta
  refine awp_midB (fun st=>∃ (o' : List Nat) (c : Nat),Weak st ⟨lk' [(0,us (digs H a)),(1,us (digs H b)),(5,.c (.win (.loc 15) 0 (n + m) (n + m))),(6,iv i),(7,uv c)],ov [(.loc 15,.ints 55 .u64 (U o'))] (pushS S)⟩ ∧
   o'.length = n + m∧rng H o'∧c < 4294967296∧(∀ j,i + m ≤ j→o'.getD j 0 = 0)∧val H o' + H ^ (i + m) * c = val H ((digs H a).take i) * b + H ^ i * x * b) ?_ ?_
  ·refine awp_rep3 (fun (k : Nat) (o : List Nat) (c : Nat)=>⟨lk' [(0,us (digs H a)),(1,us (digs H b)),(5,.c (.win (.loc 15) 0 (n + m) (n + m))),(6,iv i),(7,uv c),(8,iv k)],ov [(.loc 15,.ints 55 .u64 (U o))] (pushS S)⟩)
    (fun k o c=>k ≤ m∧o.length = n + m∧rng H o∧c < 4294967296∧(∀ j,i + m ≤ j→o.getD j 0 = 0)∧val H o + H ^ (i + k) * c = val H ((digs H a).take i) * b + H ^ i * x * val H ((digs H b).take k)) (fun k _ _=>m - k)
    0 o 0 ⟨Nat.zero_le _,h2,h3,by decide,h4,by rw [h5,List.take_zero,val_nil];simp⟩ ?_ ?_
   ·(refine fz hS ?_ ?_;all_goals (repeat' (first | refine fJ ?_ ?_ | exact True.intro));all_goals (try (first | exact kv | (refine kW (ov_of lks) rfl ?_ ?_))))
   rintro k o c ⟨k1,k2,k3,k4,k5,k6⟩
   repeat refine gN ?_
   (refine zw ?_;refine s_cmp (fun g2=>?_) (fun g2=>?_))
   ·have hyl:=getH_lt b k
    have htb:=val_take_succ H (digs H b) k
    have hol : o.getD (i + k) 0 < 4294967296:=getD_lt (by decide) k3 _
    obtain ⟨y,hy⟩ : ∃ y,y = (digs H b).getD k 0:=⟨_,rfl⟩
    obtain ⟨z,hz⟩ : ∃ z,z = o.getD (i + k) 0:=⟨_,rfl⟩
    rw [← hy] at hyl htb
    rw [← hz] at hol
    have hxy : x * y ≤ 4294967295 * 4294967295:=Nat.mul_le_mul (Nat.le_of_lt_succ hxl) (Nat.le_of_lt_succ hyl)
    have hxy':=hxy
    rw [hx,hy] at hxy'
    repeat refine gN ?_
    rw [← hx,← hy,← hz]
    refine ⟨k + 1,o.set (i + k) ((x * y + z + c) % 4294967296),(x * y + z + c) / 4294967296,?_,⟨by omega,by simpa using k2,rng_set k3 (Nat.mod_lt _ (by decide)),by omega,fun j hj=>?_,?_⟩,by omega⟩
    ·(refine fz hS ?_ ?_;all_goals (repeat' (first | refine fJ ?_ ?_ | exact True.intro));all_goals (try (first | exact kv | (refine kW (ov_of lks) rfl ?_ ?_))))
    ·rw [Go.Nums.getD_set (by omega),if_neg (by omega)];exact k5 j hj
    ·rw [htb]
     have:=val_set H (l:=o) (j:=i + k) (s:=(x * y + z + c) % 4294967296) (by omega)
     rw [← hz] at this
     exact mul_step H i k (H ^ (i + k)) _ _ z _ c _ x y _ _ rfl this k6 (Nat.mod_add_div (x * y + z + c) 4294967296)
   ·repeat refine gN ?_
    have hk : k = m:=by omega
    subst hk
    refine ⟨o,c,?_,k2,k3,k4,k5,?_⟩
    ·(refine fz hS ?_ ?_;all_goals (repeat' (first | refine fJ ?_ ?_ | exact True.intro));all_goals (try (first | exact kv | (refine kW (ov_of lks) rfl ?_ ?_))))
    ·rw [k6,take_all (l:=digs H b) (by omega),val_digs hH]
  rintro st ⟨o',c,hw,j1,j2,j3,j4,j5⟩
  refine awp_weak _ hw ?_
  clear hw st
  repeat refine gN ?_
  rw [← hm]
  refine ⟨i + 1,o'.set (i + m) c,?_,⟨by omega,by simpa using j1,rng_set j2 j3,fun j hj=>?_,?_⟩,by omega⟩
  ·(refine fz hS ?_ ?_;all_goals (repeat' (first | refine fJ ?_ ?_ | exact True.intro));all_goals (try (first | exact kv | (refine kW (ov_of lks) rfl ?_ ?_))))
  ·rw [Go.Nums.getD_set (by omega),if_neg (by omega)];exact j4 j (by omega)
  ·have:=val_set H (l:=o') (j:=i + m) (s:=c) (by omega)
   rw [j4 (i + m) (Nat.le_refl _),Nat.mul_zero,Nat.add_zero,j5] at this
   rw [this,hta,Nat.add_mul]
 ·repeat refine gN ?_
  have hi : i = n:=by omega
  rw [take_all (by omega),val_digs hH] at h5
  have hUo:=U_len o
  refine aw_weak ⟨lk' [(62,us o)],ov [] (pushS S)⟩ ?_ ?_
  ·(refine fz hS ?_ ?_;all_goals (repeat' (first | refine fJ ?_ ?_ | exact True.intro));all_goals (try (first | exact kv | (refine kW (ov_of lks) rfl ?_ ?_))))
   ·omega
   ·rw [List.drop_zero,U_take,take_all (by omega)]
  (refine zw ?_;refine s_call (c_low o h3 (by omega)) ?_)
  rw [h5]
  repeat refine gN ?_
  (refine eF hS ?_ (fl':=[(4,us (digs H (a * b)))]);(repeat' (first | refine fJ ?_ ?_ | exact True.intro);all_goals (try (first | exact kv | (refine kW (ov_of lks) rfl ?_ ?_)))))

theorem c_natmul (a b : Nat) (ha : (digs B a).length < 2 ^ 37) (hb : (digs B b).length < 2 ^ 37) : AFun Tryz.prog 74 [us (digs B a),us (digs B b)] (us (digs B (a * b))):=by
 refine aF (mu:=muF) Tryz.func74 fun S hS=>?_
 have hla:=digsH_len a
 have hlb:=digsH_len b
 have hl:=digs_mul_le' hH a b
 repeat refine gN ?_
 (refine zw ?_;refine s_call (c_halvesD a (by omega)) ?_)
 repeat refine gN ?_
 (refine zw ?_;refine s_call (c_halvesD b (by omega)) ?_)
 repeat refine gN ?_
 (refine zw ?_;refine s_call (c_product a b (by omega) (by omega)) ?_)
 repeat refine gN ?_
 (refine zw ?_;refine s_call (c_limbs0 (digs H (a * b)) (rng_digs hH _) (by omega)) ?_)
 rw [val_digs hH]
 repeat refine gN ?_
 (refine eF hS ?_ (fl':=[(4,us (digs B (a * b)))]);(repeat' (first | refine fJ ?_ ?_ | exact True.intro);all_goals (try (first | exact kv | (refine kW (ov_of lks) rfl ?_ ?_)))))
end Go.Proofs

/-
  The reference's natural numbers: NatCmp, NatBits, NatUp.
-/
namespace Go.Proofs
open Go Go.Abs Go.Nums
attribute [local irreducible] thenA blockA awp aw Stp EndF EndP EndN EndG aOps
set_option linter.unusedSimpArgs false
set_option maxHeartbeats 4000000

theorem c_nattrimD (a : Nat) (ha : (digs B a).length < 2 ^ 42) : AFun Tryz.prog 59 [us (digs B a)] (us (digs B a)):=by
 have h:=c_nattrim (digs B a) (rng_digs hB a) ha
 rwa [val_digs hB] at h
theorem c_halvesE (a : Nat) (ha : (digs B a).length < 2 ^ 40) : AFun Tryz.prog 102 [us (digs B a)] (us (digs H a)):=by
 have h:=c_halves (digs B a) (rng_digs hB a) ha
 rwa [val_digs hB] at h

theorem digsH_lenE (a : Nat) : (digs H a).length ≤ 2 * (digs B a).length:=by
 rw [digs_len hH,Nat.pow_mul];exact digs_lt hB a
theorem getH_ltE (a i : Nat) : (digs H a).getD i 0 < 4294967296:=getD_lt (by decide) (rng_digs hH a) i

theorem c_natcmp (a b : Nat) (ha : (digs B a).length < 2 ^ 40) (hb : (digs B b).length < 2 ^ 40) : AFun Tryz.prog 72 [us (digs B a),us (digs B b)] (ivl .i64 (cmpN a b)):=by
 refine aF (mu:=muF) Tryz.func72 fun S hS=>?_
 repeat refine gN ?_
 (refine zw ?_;refine s_call (c_nattrimD a (by omega)) ?_)
 repeat refine gN ?_
 (refine zw ?_;refine s_call (c_nattrimD b (by omega)) ?_)
 repeat refine gN ?_
 (refine zw ?_;refine s_cmp (fun h1=>?_) (fun h1=>?_))
 ·repeat refine gN ?_
  (refine zw ?_;refine s_cmp (fun h2=>?_) (fun h2=>?_))
  ·repeat refine gN ?_
   have:=len_lt hB (n:=a) (m:=b) (by omega)
   rw [show cmpN a b = -1 by simp [cmpN,this]]
   (refine eF hS ?_ (fl':=[(4,ivl .i64 (-1))]);(repeat' (first | refine fJ ?_ ?_ | exact True.intro);all_goals (try (first | exact kv | (refine kW (ov_of lks) rfl ?_ ?_)))))
  ·repeat refine gN ?_
   have:=len_lt hB (n:=b) (m:=a) (by omega)
   rw [show cmpN a b = 1 by simp [cmpN,this,show ¬ a < b by omega]]
   (refine eF hS ?_ (fl':=[(4,ivl .i64 1)]);(repeat' (first | refine fJ ?_ ?_ | exact True.intro);all_goals (try (first | exact kv | (refine kW (ov_of lks) rfl ?_ ?_)))))
 ·repeat refine gN ?_
  have hn : (digs B a).length = (digs B b).length:=by omega
  refine awp_rep (ι:=Nat) (fun i=>⟨lk' [(5,us (digs B a)),(6,us (digs B b)),(7,ivl .i64 ((i : Int) - 1))],ov [] (pushS S)⟩) (fun i=>i ≤ (digs B a).length∧(digs B a).drop i = (digs B b).drop i) (fun i=>i) (digs B a).length
   ⟨Nat.le_refl _,by rw [List.drop_of_length_le (Nat.le_refl _),List.drop_of_length_le (by omega)]⟩ ?_ ?_
  ·(refine fz hS ?_ ?_;all_goals (repeat' (first | refine fJ ?_ ?_ | exact True.intro));all_goals (try (first | exact kv | (refine kW (ov_of lks) rfl ?_ ?_))))
  rintro i ⟨hi,he⟩
  repeat refine gN ?_
  (refine zw ?_;refine s_cmp (fun h3=>?_) (fun h3=>?_))
  ·repeat refine gN ?_
   have e1 : ((i : Int) - 1).toNat = i - 1:=by omega
   rw [e1]
   (refine zw ?_;refine s_cmp (fun h4=>?_) (fun h4=>?_))
   ·repeat refine gN ?_
    have:=val_top_lt (rng_digs hB a) (i:=i - 1) (m:=digs B b) (by omega) (by omega) (by rw [show i - 1 + 1 = i by omega];exact he) (by omega)
    rw [val_digs hB,val_digs hB] at this
    rw [show cmpN a b = -1 by simp [cmpN,this]]
    (refine eF hS ?_ (fl':=[(4,ivl .i64 (-1))]);(repeat' (first | refine fJ ?_ ?_ | exact True.intro);all_goals (try (first | exact kv | (refine kW (ov_of lks) rfl ?_ ?_)))))
   ·repeat refine gN ?_
    rw [e1]
    (refine zw ?_;refine s_cmp (fun h5=>?_) (fun h5=>?_))
    ·repeat refine gN ?_
     have:=val_top_lt (rng_digs hB b) (i:=i - 1) (m:=digs B a) (by omega) (by omega) (by rw [show i - 1 + 1 = i by omega];exact he.symm) (by omega)
     rw [val_digs hB,val_digs hB] at this
     rw [show cmpN a b = 1 by simp [cmpN,this,show ¬ a < b by omega]]
     (refine eF hS ?_ (fl':=[(4,ivl .i64 1)]);(repeat' (first | refine fJ ?_ ?_ | exact True.intro);all_goals (try (first | exact kv | (refine kW (ov_of lks) rfl ?_ ?_)))))
    ·repeat refine gN ?_
     refine ⟨i - 1,?_,⟨by omega,?_⟩,by omega⟩
     ·(refine fz hS ?_ ?_;all_goals (repeat' (first | refine fJ ?_ ?_ | exact True.intro));all_goals (try (first | exact kv | (refine kW (ov_of lks) rfl ?_ ?_))))
     rw [drop_getD (l:=digs B a) (i:=i - 1) (by omega),drop_getD (l:=digs B b) (i:=i - 1) (by omega),show i - 1 + 1 = i by omega,he]
     congr 1
     omega
  ·repeat refine gN ?_
   have hi0 : i = 0:=by omega
   subst hi0
   have:=digs_inj hB (by simpa using he : digs B a = digs B b)
   rw [show cmpN a b = 0 by simp [cmpN,this]]
   (refine eF hS ?_ (fl':=[(4,ivl .i64 0)]);(repeat' (first | refine fJ ?_ ?_ | exact True.intro);all_goals (try (first | exact kv | (refine kW (ov_of lks) rfl ?_ ?_)))))

theorem blen_topR {lo top k : Nat} (hlo : lo < B ^ k) (ht : top ≠ 0) : blen (lo + B ^ k * top) = 64 * k + blen top:=by
 have h0 : 1 ≤ blen top:=by
  rcases Nat.eq_zero_or_pos (blen top) with h | h
  ·have:=(blen_le top 0).1 (by omega);omega
  ·exact h
 have e : B ^ k = 2 ^ (64 * k):=by rw [Nat.pow_mul]
 have hle : ∀ j,blen (lo + B ^ k * top) ≤ 64 * k + j ↔ blen top ≤ j:=fun j=>by
  rw [blen_le,blen_le,Nat.pow_add,← e]
  constructor
  ·intro h
   refine Nat.lt_of_not_le fun g=>?_
   have:=Nat.mul_le_mul_left (B ^ k) g
   omega
  ·intro h
   have:=Nat.mul_le_mul_left (B ^ k) (show top + 1 ≤ 2 ^ j from h)
   rw [Nat.mul_add] at this
   omega
 refine Nat.le_antisymm ((hle _).2 (Nat.le_refl _)) ?_
 have hn : ¬ blen (lo + B ^ k * top) ≤ 64 * k + (blen top - 1):=fun h=>by have:=(hle _).1 h;omega
 omega

theorem blen_half {t : Nat} (h : 0 < t) : blen t = blen (t / 2) + 1:=by
 refine Nat.le_antisymm ?_ ?_
 ·rw [blen_le,Nat.pow_succ]
  have:=(blen_le (t / 2) _).1 (Nat.le_refl _)
  omega
 ·rcases e : blen t with _ | k
  ·have:=(blen_le t 0).1 (by omega);simp at this;omega
  ·have h1:=(blen_le t (k + 1)).1 (by omega)
   rw [Nat.pow_succ] at h1
   have:=(blen_le (t / 2) k).2 (by omega)
   omega
theorem blen0 : blen 0 = 0:=rfl
theorem blen_digs {a : Nat} (h : (digs B a).length ≠ 0) : blen a = 64 * ((digs B a).length - 1) + blen ((digs B a).getD ((digs B a).length - 1) 0):=by
 obtain ⟨m,hm⟩ : ∃ m,(digs B a).length = m + 1:=⟨(digs B a).length - 1,by omega⟩
 have hv:=val_last B hm
 rw [val_digs hB] at hv
 have ht : (digs B a).getD m 0 ≠ 0:=by
  have hne : digs B a ≠ []:=fun q=>by rw [q] at hm;simp at hm
  have:=digs_top hB hne
  rw [getLast_getD hne,hm] at this
  exact this
 conv=>lhs;rw [hv]
 rw [hm,blen_topR (val_take_lt (rng_digs hB a) (by omega)) ht];rfl

theorem c_natbits (a : Nat) (ha : (digs B a).length < 2 ^ 42) : AFun Tryz.prog 60 [us (digs B a)] (iv (blen a)):=by
 refine aF (mu:=muF) Tryz.func60 fun S hS=>?_
 repeat refine gN ?_
 (refine zw ?_;refine s_call (c_nattrimD a ha) ?_)
 repeat refine gN ?_
 (refine zw ?_;refine s_cmp (fun h1=>?_) (fun h1=>?_))
 ·repeat refine gN ?_
  have h0 : a = 0:=(digs_nil hB).1 (List.eq_nil_of_length_eq_zero (by omega))
  subst h0
  (refine eF hS ?_ (fl':=[(2,iv (blen 0))]);(repeat' (first | refine fJ ?_ ?_ | exact True.intro);all_goals (try (first | exact kv | (refine kW (ov_of lks) rfl ?_ ?_)))))
 repeat refine gN ?_
 have e1 : (((digs B a).length : Int) - 1).toNat = (digs B a).length - 1:=by omega
 have hb:=blen_digs (a:=a) (by omega)
 have hlt : (digs B a).getD ((digs B a).length - 1) 0 < 18446744073709551616:=getD_lt (by decide) (rng_digs hB a) _
 have hb64 : blen ((digs B a).getD ((digs B a).length - 1) 0) ≤ 64:=(blen_le _ 64).2 hlt
 rw [e1]
 refine awp_rep2 (fun (n t : Nat)=>⟨lk' [(4,iv n),(5,uv t)],ov [] (pushS S)⟩) (fun n t=>n + blen t = blen a∧t < 18446744073709551616) (fun _ t=>t) (64 * ((digs B a).length - 1)) ((digs B a).getD ((digs B a).length - 1) 0) ⟨hb.symm,hlt⟩ ?_ ?_
 ·(refine fz hS ?_ ?_;all_goals (repeat' (first | refine fJ ?_ ?_ | exact True.intro));all_goals (try (first | exact kv | (refine kW (ov_of lks) rfl ?_ ?_))))
 rintro n t ⟨hn,ht6⟩
 repeat refine gN ?_
 (refine zw ?_;refine s_cmp (fun h2=>?_) (fun h2=>?_))
 ·repeat refine gN ?_
  have:=blen_half (t:=t) (by omega)
  refine ⟨n + 1,t / 2,?_,⟨by omega,by omega⟩,by omega⟩
  (refine fz hS ?_ ?_;all_goals (repeat' (first | refine fJ ?_ ?_ | exact True.intro));all_goals (try (first | exact kv | (refine kW (ov_of lks) rfl ?_ ?_))))
 ·repeat refine gN ?_
  have ht : t = 0:=by omega
  subst ht
  rw [blen0] at hn
  rw [← hn]
  (refine eF hS ?_ (fl':=[(2,iv (n + 0))]);(repeat' (first | refine fJ ?_ ?_ | exact True.intro);all_goals (try (first | exact kv | (refine kW (ov_of lks) rfl ?_ ?_)))))

theorem up_step {x P c : Nat} (hx : x < 4294967296) (hP : P ≤ 2147483648) (hc : c < P) : x * P + c < 18446744073709551616∧x * P < 18446744073709551616∧(x * P + c) / 4294967296 < P:=by
 have h1 : x * P ≤ 4294967295 * P:=Nat.mul_le_mul_right _ (by omega)
 refine ⟨by omega,by omega,Nat.div_lt_of_lt_mul (by omega)⟩

theorem c_natup (a n : Nat) (ha : (digs B a).length < 2 ^ 37) (hn : n < 2 ^ 40) : AFun Tryz.prog 70 [us (digs B a),iv n] (us (digs B (a * 2 ^ n))):=by
 refine aF (mu:=muF) Tryz.func70 fun S hS=>?_
 repeat refine gN ?_
 (refine zw ?_;refine s_call (c_halvesE a (by omega)) ?_)
 repeat refine gN ?_
 (refine zw ?_;refine s_cmp (fun h1=>?_) (fun h1=>?_))
 ·repeat refine gN ?_
  have h0 : a = 0:=by
   have:=(digs_nil hH).1 (List.eq_nil_of_length_eq_zero (by omega) : digs H a = [])
   exact this
  subst h0
  rw [Nat.zero_mul,digs_zero]
  (refine eF hS ?_ (fl':=[(4,us [])]);(repeat' (first | refine fJ ?_ ?_ | exact True.intro);all_goals (try (first | exact kv | (refine kW (ov_of lks) rfl ?_ ?_)))))
 repeat refine gM ?_
 ((refine zw ?_;refine s_makeA8 ttOk ?_ ?_);rotate_left;(· omega))
 repeat refine gN ?_
 obtain ⟨z,hz⟩ : ∃ z,z = n / 32:=⟨_,rfl⟩
 obtain ⟨s,hs⟩ : ∃ s,s = n % 32:=⟨_,rfl⟩
 have hs32 : s < 32:=by omega
 rw [← hz]
 have hrep : List.replicate z (0 : Int) = U (List.replicate z 0):=U_rep z 0
 rw [hrep]
 have hla:=digsH_lenE a
 refine awp_midB (fun st=>Weak st ⟨lk' [(5,us (digs H a)),(6,.accv (.loc 19) (List.replicate z 0).length),(7,uv 0),(8,uv (2 ^ s))],ov [(.loc 19,.accI 55 .u64 (U (List.replicate z 0)))] (pushS S)⟩) ?_ ?_
 ·refine awp_rep (ι:=Nat) (fun j=>⟨lk' [(1,iv n),(5,us (digs H a)),(6,.accv (.loc 19) (List.replicate z 0).length),(7,uv 0),(8,uv (2 ^ j)),(9,iv j)],ov [(.loc 19,.accI 55 .u64 (U (List.replicate z 0)))] (pushS S)⟩) (fun j=>j ≤ s) (fun j=>s - j) 0 (Nat.zero_le _) ?_ ?_
  ·(refine fz hS ?_ ?_;all_goals (repeat' (first | refine fJ ?_ ?_ | exact True.intro));all_goals (try (first | exact kv | (refine kW (ov_of lks) rfl ?_ ?_))))
  intro j hj
  have h31 : 2 ^ j ≤ 2147483648:=Nat.pow_le_pow_right (n:=2) (by decide) (show j ≤ 31 by omega)
  repeat refine gN ?_
  (refine zw ?_;refine s_cmp (fun g1=>?_) (fun g1=>?_))
  ·repeat refine gN ?_
   refine ⟨j + 1,?_,by omega,by omega⟩
   (refine fz hS ?_ ?_;all_goals (repeat' (first | refine fJ ?_ ?_ | exact True.intro));all_goals (try (first | exact kv | (refine kW (ov_of lks) rfl ?_ ?_))))
  ·repeat refine gN ?_
   have : j = s:=by omega
   subst this
   (refine fz hS ?_ ?_;all_goals (repeat' (first | refine fJ ?_ ?_ | exact True.intro));all_goals (try (first | exact kv | (refine kW (ov_of lks) rfl ?_ ?_))))
 intro st hst
 refine awp_weak _ hst ?_
 clear hst st
 obtain ⟨p,hp⟩ : ∃ p,p = 2 ^ s:=⟨_,rfl⟩
 have hp31 : p ≤ 2147483648:=by rw [hp];exact Nat.pow_le_pow_right (n:=2) (by decide) (show s ≤ 31 by omega)
 have hp0 : 0 < p:=by rw [hp];exact Nat.two_pow_pos _
 rw [← hp]
 repeat refine gN ?_
 refine awp_rep3 (fun (i : Nat) (o : List Nat) (c : Nat)=>⟨lk' [(5,us (digs H a)),(6,.accv (.loc 19) (List.replicate z 0 ++ o).length),(7,uv c),(8,uv p),(10,iv i)],ov [(.loc 19,.accI 55 .u64 (U (List.replicate z 0 ++ o)))] (pushS S)⟩)
  (fun i o c=>i ≤ (digs H a).length∧o.length = i∧rng H o∧c < p∧val H o + H ^ i * c = val H ((digs H a).take i) * p) (fun i _ _=>(digs H a).length - i)
  0 [] 0 ⟨Nat.zero_le _,rfl,rng_nil,hp0,by simp [val]⟩ ?_ ?_
 ·rw [List.append_nil]
  (refine fz hS ?_ ?_;all_goals (repeat' (first | refine fJ ?_ ?_ | exact True.intro));all_goals (try (first | exact kv | (refine kW (ov_of lks) rfl ?_ ?_))))
 rintro i o c ⟨h2,h3,h4,h5,h6⟩
 have hUo:=U_len (List.replicate z 0 ++ o)
 have hlo : (List.replicate z 0 ++ o).length = z + o.length:=by simp
 repeat refine gN ?_
 (refine zw ?_;refine s_cmp (fun g1=>?_) (fun g1=>?_))
 ·have hxl:=getH_ltE a i
  have hta:=val_take_succ H (digs H a) i
  obtain ⟨x,hx⟩ : ∃ x,x = (digs H a).getD i 0:=⟨_,rfl⟩
  rw [← hx] at hxl hta
  obtain ⟨u1,u2,u3⟩:=up_step hxl hp31 h5
  have u1':=u1
  have u2':=u2
  rw [hx] at u1' u2'
  repeat refine gN ?_
  rw [← hx]
  (refine zw ?_;refine s_app8 ttOk (Y:=[(((x * p + c) % 4294967296 : Nat) : Int)]) ?_ ?_ ?_;(· exact srcE_win (L:=[(((x * p + c) % 4294967296 : Nat) : Int)]) lks (by simp));(· simp only [List.length_append,List.length_nil,List.length_cons] at *;omega))
  repeat refine gN ?_
  rw [U_snoc,List.append_assoc]
  refine ⟨i + 1,o ++ [(x * p + c) % 4294967296],(x * p + c) / 4294967296,?_,⟨by omega,by simp [h3],rng_append.2 ⟨h4,?_⟩,u3,?_⟩,by omega⟩
  ·(refine fz hS ?_ ?_;all_goals (repeat' (first | refine fJ ?_ ?_ | exact True.intro));all_goals (try (first | exact kv | (refine kW (ov_of lks) rfl ?_ ?_))))
  ·intro y hy;simp only [List.mem_singleton] at hy;subst hy;exact Nat.mod_lt _ (by decide)
  ·rw [val_snoc,h3,hta,Nat.add_mul,← h6,Nat.pow_succ,Nat.mul_assoc (H ^ i) H,Nat.add_assoc,← Nat.mul_add,show (x * p + c) % 4294967296 + H * ((x * p + c) / 4294967296) = x * p + c from Nat.mod_add_div _ _,Nat.mul_add,Nat.mul_assoc]
   omega
 ·repeat refine gN ?_
  (refine zw ?_;refine s_app8 ttOk (Y:=[((c : Nat) : Int)]) ?_ ?_ ?_;(· exact srcE_win (L:=[((c : Nat) : Int)]) lks (by simp));(· simp only [List.length_append,List.length_nil,List.length_cons] at *;omega))
  rw [U_snoc,List.append_assoc]
  ((first | refine aw_fzI 19 ?_ ?_ | refine awp_fzI 19 ?_ ?_);rotate_left;· (repeat' (first | exact True.intro | refine And.intro ?_ ?_)) <;> first | (show _ ≤ _;simp;done) | (show _ ≤ _;simp;omega) | (show _ ≤ _;omega))
  have hi : i = (digs H a).length:=by omega
  rw [take_all (by omega),val_digs hH] at h6
  (refine zw ?_;refine s_call (c_limbs0 (List.replicate z 0 ++ (o ++ [c])) (rng_zeros (by decide) z (rng_append.2 ⟨h4,fun y hy=>by simp only [List.mem_singleton] at hy;subst hy;show y < 4294967296;omega⟩)) (by simp;omega)) ?_)
  have e : val H (List.replicate z 0 ++ (o ++ [c])) = a * 2 ^ n:=by
   rw [val_zeros,val_snoc,h3,h6,hp,show H = 2 ^ 32 from rfl,← Nat.pow_mul,Nat.mul_left_comm,← Nat.pow_add,show 32 * z + s = n by omega]
  rw [e]
  repeat refine gN ?_
  (refine eF hS ?_ (fl':=[(4,us (digs B (a * 2 ^ n)))]);(repeat' (first | refine fJ ?_ ?_ | exact True.intro);all_goals (try (first | exact kv | (refine kW (ov_of lks) rfl ?_ ?_)))))
end Go.Proofs

/-
  Exact numbers: a sign, a size, a power of two. What they are worth.
-/
namespace Go.Proofs
open Go Go.Abs Go.Nums
set_option linter.unusedSimpArgs false
set_option linter.unusedVariables false

structure Nu where
 s : Bool
 n : Nat
 e : Int

namespace Nu
def val (x : Nu) : Int:=sg x.s x.n * 2 ^ x.e.toNat
def ok (x : Nu) (K : Nat) : Prop:=0 ≤ x.e∧(blen x.n : Int) + x.e ≤ K
def times (x y : Nu) : Nu:=⟨x.s != y.s,x.n * y.n,x.e + y.e⟩
def plus0 (x y : Nu) : Nu :=
 if x.s = y.s then ⟨x.s,x.n + y.n * 2 ^ (y.e - x.e).toNat,x.e⟩
 else if y.n * 2 ^ (y.e - x.e).toNat ≤ x.n then ⟨x.s,x.n - y.n * 2 ^ (y.e - x.e).toNat,x.e⟩ else ⟨y.s,y.n * 2 ^ (y.e - x.e).toNat - x.n,x.e⟩
def plus (x y : Nu) : Nu:=if x.n = 0 then y else if y.n = 0 then x else if y.e < x.e then plus0 y x else plus0 x y
end Nu

theorem blen_mono {a b : Nat} (h : a ≤ b) : blen a ≤ blen b:=(blen_le _ _).2 (Nat.lt_of_le_of_lt h ((blen_le _ _).1 (Nat.le_refl _)))
theorem blen_lt (a : Nat) : a < 2 ^ blen a:=(blen_le _ _).1 (Nat.le_refl _)
theorem blen_add (a b : Nat) : blen (a + b) ≤ max (blen a) (blen b) + 1:=by
 rw [blen_le,Nat.pow_succ]
 have h1:=Nat.lt_of_lt_of_le (blen_lt a) (Nat.pow_le_pow_right (n:=2) (by decide) (Nat.le_max_left (blen a) (blen b)))
 have h2:=Nat.lt_of_lt_of_le (blen_lt b) (Nat.pow_le_pow_right (n:=2) (by decide) (Nat.le_max_right (blen a) (blen b)))
 omega
theorem blen_mul (a b : Nat) : blen (a * b) ≤ blen a + blen b:=by
 rw [blen_le,Nat.pow_add]
 exact Nat.mul_lt_mul'' (blen_lt a) (blen_lt b)
theorem blen_pos {a : Nat} (h : a ≠ 0) : 0 < blen a:=by
 rcases Nat.eq_zero_or_pos (blen a) with q | q
 ·have:=blen_lt a;rw [q] at this;simp at this;omega
 ·exact q
theorem blen_shl (a k : Nat) : blen (a * 2 ^ k) ≤ blen a + k:=by
 rw [blen_le,Nat.pow_add]
 exact Nat.mul_lt_mul_of_pos_right (blen_lt a) (Nat.two_pow_pos k)
theorem len_blen (a : Nat) : 64 * (digs B a).length ≤ blen a + 63:=by
 rcases Nat.eq_zero_or_pos (digs B a).length with q | q
 ·omega
 ·have h : ¬ (digs B a).length ≤ (digs B a).length - 1:=by omega
  rw [digs_len hB,show B = 2 ^ 64 from rfl,← Nat.pow_mul] at h
  have:=mt (blen_le a (64 * ((digs (2 ^ 64) a).length - 1))).1 h
  have e : (digs (2 ^ 64) a).length = (digs B a).length:=rfl
  omega
theorem len_blen' (a : Nat) : (digs B a).length ≤ blen a:=by
 have h1:=len_blen a
 rcases Nat.eq_zero_or_pos a with q | q
 ·subst q;rw [digs_zero];simp
 ·have:=blen_pos (a:=a) (by omega)
  omega

namespace Nu
theorem ok_times {x y : Nu} {K L : Nat} (h : x.ok K) (g : y.ok L) : (x.times y).ok (K + L):=by
 obtain ⟨h1,h2⟩:=h
 obtain ⟨g1,g2⟩:=g
 have:=blen_mul x.n y.n
 exact ⟨show 0 ≤ x.e + y.e by omega,show (blen (x.n * y.n) : Int) + (x.e + y.e) ≤ ((K + L : Nat) : Int) by omega⟩
theorem ok_mono {x : Nu} {K L : Nat} (h : x.ok K) (hl : K ≤ L) : x.ok L:=⟨h.1,by have:=h.2;omega⟩
theorem ok_plus0 {x y : Nu} {K : Nat} (h : x.ok K) (g : y.ok K) (he : x.e ≤ y.e) : (plus0 x y).ok (K + 1):=by
 obtain ⟨h1,h2⟩:=h
 obtain ⟨g1,g2⟩:=g
 obtain ⟨m,hm⟩ : ∃ m,m = y.n * 2 ^ (y.e - x.e).toNat:=⟨_,rfl⟩
 have hb : (blen m : Int) + x.e ≤ K:=by
  have:=blen_shl y.n (y.e - x.e).toNat
  rw [← hm] at this;omega
 have ha:=blen_add x.n m
 unfold plus0
 rw [← hm]
 split
 ·exact ⟨h1,show (blen (x.n + m) : Int) + x.e ≤ ((K + 1 : Nat) : Int) by omega⟩
 ·split
  ·have:=blen_mono (Nat.sub_le x.n m)
   exact ⟨h1,show (blen (x.n - m) : Int) + x.e ≤ ((K + 1 : Nat) : Int) by omega⟩
  ·have:=blen_mono (Nat.sub_le m x.n)
   exact ⟨h1,show (blen (m - x.n) : Int) + x.e ≤ ((K + 1 : Nat) : Int) by omega⟩
theorem ok_plus {x y : Nu} {K : Nat} (h : x.ok K) (g : y.ok K) : (plus x y).ok (K + 1):=by
 unfold plus
 split
 ·exact ok_mono g (by omega)
 ·split
  ·exact ok_mono h (by omega)
  ·split
   ·exact ok_plus0 g h (by omega)
   ·exact ok_plus0 h g (by omega)
theorem sg_times (s t : Bool) (n m : Nat) : sg (s != t) (n * m) = sg s n * sg t m:=by
 cases s <;> cases t <;> simp [sg,Int.neg_mul,Int.mul_neg]
theorem val_times {x y : Nu} (h : 0 ≤ x.e) (g : 0 ≤ y.e) : (x.times y).val = x.val * y.val:=by
 simp only [val,times]
 rw [sg_times,show (x.e + y.e).toNat = x.e.toNat + y.e.toNat by omega,Int.pow_add,Int.mul_assoc,Int.mul_assoc]
 congr 1
 rw [Int.mul_left_comm]
theorem val_plus0 {x y : Nu} (h : 0 ≤ x.e) (he : x.e ≤ y.e) : (plus0 x y).val = x.val + y.val:=by
 obtain ⟨m,hm⟩ : ∃ m,m = y.n * 2 ^ (y.e - x.e).toNat:=⟨_,rfl⟩
 have hy : y.val = sg y.s m * 2 ^ x.e.toNat:=by
  have e1 : (2 : Int) ^ y.e.toNat = 2 ^ (y.e - x.e).toNat * 2 ^ x.e.toNat:=by rw [← Int.pow_add];congr 1;omega
  simp only [val]
  rw [e1,← Int.mul_assoc]
  congr 1
  rw [hm]
  cases y.s <;> simp [sg,Int.neg_mul]
 rw [hy]
 unfold plus0
 rw [← hm]
 split
 ·rename_i hs
  simp only [val,← hs]
  rw [← Int.add_mul]
  congr 1
  cases x.s <;> simp [sg] <;> omega
 ·rename_i hs
  split
  ·simp only [val]
   rw [← Int.add_mul]
   congr 1
   revert hs
   cases x.s <;> cases y.s <;> simp [sg] <;> omega
  ·simp only [val]
   rw [← Int.add_mul]
   congr 1
   revert hs
   cases x.s <;> cases y.s <;> simp [sg] <;> omega
theorem sg_zero (s : Bool) : sg s 0 = 0:=by cases s <;> simp [sg]
theorem val_zero {x : Nu} (h : x.n = 0) : x.val = 0:=by simp only [val,h,sg_zero,Int.zero_mul]
theorem val_plus {x y : Nu} (h : 0 ≤ x.e) (g : 0 ≤ y.e) : (plus x y).val = x.val + y.val:=by
 unfold plus
 split
 ·rename_i q;rw [val_zero q,Int.zero_add]
 ·split
  ·rename_i q;rw [val_zero q,Int.add_zero]
  ·split
   ·rw [val_plus0 g (by omega),Int.add_comm]
   ·rw [val_plus0 h (by omega)]
theorem sign_val (x : Nu) : Int.sign (sg x.s x.n) = Int.sign x.val:=by
 have hp : (0 : Int) < 2 ^ x.e.toNat:=Int.pow_pos (by decide)
 simp only [val]
 rw [Int.sign_mul,Int.sign_eq_one_of_pos hp,Int.mul_one]
theorem abs_val (x : Nu) : x.val.natAbs = x.n * 2 ^ x.e.toNat:=by
 simp only [val]
 rw [Int.natAbs_mul,sg_abs,Int.natAbs_pow];rfl
end Nu
end Go.Proofs

/-
  The reference's exact numbers: Zero, Sign, Top, Whole, Int, Minus, Scaled, Times, Plus, Less, Compare, TellInt.
-/
namespace Go.Proofs
open Go Go.Abs Go.Nums
attribute [local irreducible] thenA blockA awp aw Stp EndF EndP EndN EndG aOps
set_option linter.unusedSimpArgs false
set_option maxHeartbeats 4000000

abbrev nu (x : Nu) : AVal:=.agg [.sc (.bool x.s),.ints .u64 (U (digs B x.n)),.sc (.int .i64 x.e)]
abbrev np (x : Nu) : AVal:=.c (.pim [.sc (.bool x.s),.ints .u64 (U (digs B x.n)),.sc (.int .i64 x.e)])

theorem c_numzero1 (x : Nu) (hl : (digs B x.n).length < 2 ^ 42) (h : x.n = 0) : AFun Tryz.prog 69 [nu x] (bvl true):=by
 refine aF (mu:=muF) Tryz.func69 fun S hS=>?_
 repeat refine gN ?_
 (refine zw ?_;refine s_call (c_natbits x.n hl) ?_)
 repeat refine gN ?_
 (refine zw ?_;refine s_cmp (fun h2=>?_) (fun h2=>?_))
 ·repeat refine gN ?_
  (refine eF hS ?_ (fl':=[(2,bvl true)]);(repeat' (first | refine fJ ?_ ?_ | exact True.intro);all_goals (try (first | exact kv | (refine kW (ov_of lks) rfl ?_ ?_)))))
 ·exact absurd (by rw [h,blen0];rfl) h2
theorem c_numzero2 (x : Nu) (hl : (digs B x.n).length < 2 ^ 42) (h : x.n ≠ 0) : AFun Tryz.prog 69 [nu x] (bvl false):=by
 refine aF (mu:=muF) Tryz.func69 fun S hS=>?_
 repeat refine gN ?_
 (refine zw ?_;refine s_call (c_natbits x.n hl) ?_)
 repeat refine gN ?_
 have:=blen_pos h
 (refine zw ?_;refine s_cmp (fun h2=>?_) (fun h2=>?_))
 ·omega
 ·repeat refine gN ?_
  (refine eF hS ?_ (fl':=[(2,bvl false)]);(repeat' (first | refine fJ ?_ ?_ | exact True.intro);all_goals (try (first | exact kv | (refine kW (ov_of lks) rfl ?_ ?_)))))

theorem c_numtop (x : Nu) (hl : (digs B x.n).length < 2 ^ 42) (hb : blen x.n < 2 ^ 50) (he : -1125899906842624 ≤ x.e∧x.e ≤ 1125899906842624) : AFun Tryz.prog 48 [nu x] (ivl .i64 (x.e + blen x.n)):=by
 refine aF (mu:=muF) Tryz.func48 fun S hS=>?_
 repeat refine gN ?_
 (refine zw ?_;refine s_call (c_natbits x.n hl) ?_)
 repeat refine gN ?_
 (refine eF hS ?_ (fl':=[(2,ivl .i64 (x.e + blen x.n))]);(repeat' (first | refine fJ ?_ ?_ | exact True.intro);all_goals (try (first | exact kv | (refine kW (ov_of lks) rfl ?_ ?_)))))

theorem c_numint (s : Bool) (l : List Nat) (hr : rng B l) (hl : l.length < 2 ^ 42) : AFun Tryz.prog 25 [wi s l] (nu ⟨s,val B l,0⟩):=by
 refine aF (mu:=muF) Tryz.func25 fun S hS=>?_
 repeat refine gN ?_
 (refine zw ?_;refine s_call (c_nattrim l hr hl) ?_)
 repeat refine gN ?_
 (refine eF hS ?_ (fl':=[(2,np ⟨s,val B l,0⟩)]);(repeat' (first | refine fJ ?_ ?_ | exact True.intro);all_goals (try (first | exact kv | (refine kW (ov_of lks) rfl ?_ ?_)))))

theorem c_numwhole1 (n : Nat) (h : n < 2 ^ 63) : AFun Tryz.prog 27 [ivl .i64 n] (nu ⟨false,n,0⟩):=by
 refine aF (mu:=muF) Tryz.func27 fun S hS=>?_
 repeat refine gN ?_
 (refine zw ?_;refine s_cmp (fun h1=>?_) (fun h1=>?_))
 ·omega
 repeat refine gN ?_
 (refine zw ?_;refine s_cmp (fun h2=>?_) (fun h2=>?_))
 ·omega
 repeat refine gN ?_
 (refine zw ?_;refine s_call (c_natof n (show n < 18446744073709551616 by omega)) ?_)
 repeat refine gN ?_
 (refine eF hS ?_ (fl':=[(2,np ⟨false,n,0⟩)]);(repeat' (first | refine fJ ?_ ?_ | exact True.intro);all_goals (try (first | exact kv | (refine kW (ov_of lks) rfl ?_ ?_)))))

theorem c_numwhole2 (n : Nat) (h0 : 0 < n) (h : n ≤ 2 ^ 63) : AFun Tryz.prog 27 [ivl .i64 (-(n : Int))] (nu ⟨true,n,0⟩):=by
 refine aF (mu:=muF) Tryz.func27 fun S hS=>?_
 repeat refine gN ?_
 (refine zw ?_;refine stp_pure ttOk false (by exact rfl) siX ?_)
 repeat refine gN ?_
 have e1 : IntKind.u64.wrap (-(n : Int)) = ((18446744073709551616 - n : Nat) : Int):=by rw [wrap_u64i];omega
 rw [e1]
 (refine zw ?_;refine s_cmp (fun h1=>?_) (fun h1=>?_))
 ·repeat refine gN ?_
  (refine zw ?_;refine stp_pure ttOk false (by exact rfl) siX ?_)
  have e2 : IntKind.u64.wrap (0 - ((18446744073709551616 - n : Nat) : Int)) = (n : Int):=by rw [wrap_u64i];omega
  rw [e2]
  repeat refine gN ?_
  (refine zw ?_;refine s_cmp (fun h2=>?_) (fun h2=>?_))
  ·repeat refine gN ?_
   (refine zw ?_;refine s_call (c_natof n (show n < 18446744073709551616 by omega)) ?_)
   repeat refine gN ?_
   (refine eF hS ?_ (fl':=[(2,np ⟨true,n,0⟩)]);(repeat' (first | refine fJ ?_ ?_ | exact True.intro);all_goals (try (first | exact kv | (refine kW (ov_of lks) rfl ?_ ?_)))))
  ·omega
 ·omega

theorem ok_len {x : Nu} {K : Nat} (h : x.ok K) (hK : K ≤ 2 ^ 36) : (digs B x.n).length ≤ 2 ^ 36∧blen x.n ≤ 2 ^ 36∧0 ≤ x.e∧x.e ≤ 68719476736:=by
 obtain ⟨h1,h2⟩:=h
 have:=len_blen' x.n
 omega

theorem c_numtimes (x y : Nu) (K L : Nat) (hx : x.ok K) (hy : y.ok L) (hK : K ≤ 2 ^ 36) (hL : L ≤ 2 ^ 36) : AFun Tryz.prog 29 [nu x,nu y] (nu (x.times y)):=by
 obtain ⟨a1,a2,a3,a4⟩:=ok_len hx hK
 obtain ⟨b1,b2,b3,b4⟩:=ok_len hy hL
 refine aF (mu:=muF) Tryz.func29 fun S hS=>?_
 repeat refine gN ?_
 (refine zw ?_;refine s_call (c_natmul x.n y.n (by omega) (by omega)) ?_)
 repeat refine gN ?_
 (refine eF hS ?_ (fl':=[(4,np (x.times y))]);(repeat' (first | refine fJ ?_ ?_ | exact True.intro);all_goals (try (first | exact kv | (refine kW (ov_of lks) rfl ?_ ?_)))))

theorem shl_len {n k : Nat} (hn : blen n + k ≤ 2 ^ 37) : (digs B (n * 2 ^ k)).length ≤ 2 ^ 37 - 2 ^ 36:=by
 have h1:=len_blen (n * 2 ^ k)
 have h2:=blen_shl n k
 omega

theorem c_plus0 (x y : Nu) (K : Nat) (hx : x.ok K) (hy : y.ok K) (hK : K ≤ 2 ^ 36) (he : x.n = 0 ∨ y.n = 0 ∨ x.e ≤ y.e) : AFun Tryz.prog 28 [nu x,nu y] (nu (x.plus y)):=by
 obtain ⟨a1,a2,a3,a4⟩:=ok_len hx hK
 obtain ⟨b1,b2,b3,b4⟩:=ok_len hy hK
 by_cases g1 : x.n = 0
 ·rw [show x.plus y = y by rw [Nu.plus,if_pos g1]]
  refine aF (mu:=muF) Tryz.func28 fun S hS=>?_
  repeat refine gN ?_
  (refine zw ?_;refine s_call (c_numzero1 x (by omega) g1) ?_)
  repeat refine gN ?_
  (refine eF hS ?_ (fl':=[(4,np y)]);(repeat' (first | refine fJ ?_ ?_ | exact True.intro);all_goals (try (first | exact kv | (refine kW (ov_of lks) rfl ?_ ?_)))))
 by_cases g2 : y.n = 0
 ·rw [show x.plus y = x by rw [Nu.plus,if_neg g1,if_pos g2]]
  refine aF (mu:=muF) Tryz.func28 fun S hS=>?_
  repeat refine gN ?_
  (refine zw ?_;refine s_call (c_numzero2 x (by omega) g1) ?_)
  repeat refine gN ?_
  (refine zw ?_;refine s_call (c_numzero1 y (by omega) g2) ?_)
  repeat refine gN ?_
  (refine eF hS ?_ (fl':=[(4,np x)]);(repeat' (first | refine fJ ?_ ?_ | exact True.intro);all_goals (try (first | exact kv | (refine kW (ov_of lks) rfl ?_ ?_)))))
 have g3 : x.e ≤ y.e:=by omega
 rw [show x.plus y = x.plus0 y by rw [Nu.plus,if_neg g1,if_neg g2,if_neg (by omega)]]
 obtain ⟨k,hk⟩ : ∃ k : Nat,k = (y.e - x.e).toNat:=⟨_,rfl⟩
 have hk' : y.e - x.e = (k : Int):=by omega
 have hs:=shl_len (n:=y.n) (k:=k) (by have:=hy.2;omega)
 have e : Nu.plus0 x y = if x.s = y.s then ⟨x.s,x.n + y.n * 2 ^ k,x.e⟩ else if y.n * 2 ^ k ≤ x.n then ⟨x.s,x.n - y.n * 2 ^ k,x.e⟩ else ⟨y.s,y.n * 2 ^ k - x.n,x.e⟩:=by rw [Nu.plus0,hk]
 rw [e]
 obtain ⟨m,hm⟩ : ∃ m,m = y.n * 2 ^ k:=⟨_,rfl⟩
 refine aF (mu:=muF) Tryz.func28 fun S hS=>?_
 repeat refine gN ?_
 (refine zw ?_;refine s_call (c_numzero2 x (by omega) g1) ?_)
 repeat refine gN ?_
 (refine zw ?_;refine s_call (c_numzero2 y (by omega) g2) ?_)
 repeat refine gN ?_
 (refine zw ?_;refine s_cmp (fun g4=>?_) (fun g4=>?_))
 ·omega
 repeat refine gN ?_
 rw [hk']
 (refine zw ?_;refine s_call (c_natup y.n k (by omega) (by omega)) ?_)
 rw [← hm] at hs ⊢
 repeat refine gN ?_
 refine awp_if (by exact rfl) (fun g5=>?_) (fun g5=>?_)
 ·rw [if_pos (by simpa using g5)]
  repeat refine gN ?_
  (refine zw ?_;refine s_call (c_natadd x.n m (by omega) (by omega)) ?_)
  repeat refine gN ?_
  (refine eF hS ?_ (fl':=[(4,np ⟨x.s,x.n + m,x.e⟩)]);(repeat' (first | refine fJ ?_ ?_ | exact True.intro);all_goals (try (first | exact kv | (refine kW (ov_of lks) rfl ?_ ?_)))))
 ·rw [if_neg (by simpa using g5)]
  repeat refine gN ?_
  (refine zw ?_;refine s_call (c_natcmp x.n m (by omega) (by omega)) ?_)
  repeat refine gN ?_
  (refine zw ?_;refine s_cmp (fun g6=>?_) (fun g6=>?_))
  ·have g7 : m ≤ x.n:=by unfold cmpN at g6;split at g6 <;> omega
   rw [if_pos g7]
   repeat refine gN ?_
   (refine zw ?_;refine s_call (c_natsub x.n m g7 (by omega)) ?_)
   repeat refine gN ?_
   (refine eF hS ?_ (fl':=[(4,np ⟨x.s,x.n - m,x.e⟩)]);(repeat' (first | refine fJ ?_ ?_ | exact True.intro);all_goals (try (first | exact kv | (refine kW (ov_of lks) rfl ?_ ?_)))))
  ·have g7 : ¬ m ≤ x.n:=by
    intro q;apply g6;unfold cmpN
    split
    ·omega
    ·split <;> omega
   rw [if_neg g7]
   repeat refine gN ?_
   (refine zw ?_;refine s_call (c_natsub m x.n (by omega) (by omega)) ?_)
   repeat refine gN ?_
   (refine eF hS ?_ (fl':=[(4,np ⟨y.s,m - x.n,x.e⟩)]);(repeat' (first | refine fJ ?_ ?_ | exact True.intro);all_goals (try (first | exact kv | (refine kW (ov_of lks) rfl ?_ ?_)))))

theorem c_numplus (x y : Nu) (K : Nat) (hx : x.ok K) (hy : y.ok K) (hK : K ≤ 2 ^ 36) : AFun Tryz.prog 28 [nu x,nu y] (nu (x.plus y)):=by
 by_cases g : x.n = 0 ∨ y.n = 0 ∨ x.e ≤ y.e
 ·exact c_plus0 x y K hx hy hK g
 obtain ⟨a1,a2,a3,a4⟩:=ok_len hx hK
 obtain ⟨b1,b2,b3,b4⟩:=ok_len hy hK
 have g1 : x.n ≠ 0:=fun q=>g (.inl q)
 have g2 : y.n ≠ 0:=fun q=>g (.inr (.inl q))
 have g3 : y.e < x.e:=by omega
 rw [show x.plus y = y.plus x by rw [Nu.plus,Nu.plus,if_neg g1,if_neg g2,if_neg g2,if_neg g1,if_pos g3,if_neg (by omega)]]
 refine aF (mu:=muF) Tryz.func28 fun S hS=>?_
 repeat refine gN ?_
 (refine zw ?_;refine s_call (c_numzero2 x (by omega) g1) ?_)
 repeat refine gN ?_
 (refine zw ?_;refine s_call (c_numzero2 y (by omega) g2) ?_)
 repeat refine gN ?_
 (refine zw ?_;refine s_cmp (fun g4=>?_) (fun g4=>?_))
 ·repeat refine gN ?_
  (refine zw ?_;refine s_call (c_plus0 y x K hy hx hK (.inr (.inr (by omega)))) ?_)
  repeat refine gN ?_
  (refine eF hS ?_ (fl':=[(4,np (y.plus x))]);(repeat' (first | refine fJ ?_ ?_ | exact True.intro);all_goals (try (first | exact kv | (refine kW (ov_of lks) rfl ?_ ?_)))))
 ·omega

theorem sign_cases (X : Int) : (X < 0∧X.sign = -1) ∨ (X = 0∧X.sign = 0) ∨ (0 < X∧X.sign = 1):=by
 rcases Int.lt_trichotomy X 0 with h | h | h
 ·exact .inl ⟨h,Int.sign_eq_neg_one_of_neg h⟩
 ·subst h;exact .inr (.inl ⟨rfl,rfl⟩)
 ·exact .inr (.inr ⟨h,Int.sign_eq_one_of_pos h⟩)

abbrev vz (n : Int) : AVal:=wi (decide (n < 0)) (digs B n.natAbs)
abbrev v0 : AVal:=.agg [.sc (.bool false),.ints .u64 []]
theorem vz_zero : vz 0 = v0:=by
 show wi (decide ((0 : Int) < 0)) (digs B 0) = v0
 rw [digs_zero];rfl
theorem sg_lt {s : Bool} {m : Nat} (h : m ≠ 0) : decide (sg s m < 0) = s:=by cases s <;> simp [sg] <;> omega
theorem vz_val {x : Nu} (h : x.n ≠ 0) : vz x.val = wi x.s (digs B (x.n * 2 ^ x.e.toNat)):=by
 have e : decide (x.val < 0) = x.s:=by
  rw [← sg_lt (s:=x.s) h]
  have h1:=Nu.sign_val x
  have h2:=sign_cases x.val
  have h3:=sign_cases (sg x.s x.n)
  rw [decide_eq_decide];omega
 show wi (decide (x.val < 0)) (digs B x.val.natAbs) = _
 rw [e,Nu.abs_val]

theorem c_tellint1 (x : Nu) (K : Nat) (hx : x.ok K) (hK : K ≤ 2 ^ 36) (hs : x.n = 0 ∨ (blen x.n : Int) + x.e ≤ 262144) : AFun Tryz.prog 30 [nu x] (.tup [vz x.val,bvl true]):=by
 obtain ⟨a1,a2,a3,a4⟩:=ok_len hx hK
 by_cases h : x.n = 0
 ·rw [Nu.val_zero h,vz_zero]
  refine aF (mu:=muF) Tryz.func30 fun S hS=>?_
  repeat refine gN ?_
  (refine zw ?_;refine s_call (c_numzero1 x (by omega) h) ?_)
  repeat refine gN ?_
  (refine eF hS ?_ (fl':=[(2,.c (.pim [.sc (.bool false),.ints .u64 []])),(3,bvl true)]);(repeat' (first | refine fJ ?_ ?_ | exact True.intro);all_goals (try (first | exact kv | (refine kW (ov_of lks) rfl ?_ ?_)))))
 ·rw [vz_val h]
  obtain ⟨k,hk⟩ : ∃ k : Nat,x.e = (k : Int):=⟨x.e.toNat,by omega⟩
  rw [show x.e.toNat = k by omega]
  obtain ⟨s,n,e⟩:=x
  obtain rfl : e = (k : Int):=hk
  have a1' : (digs B n).length ≤ 2 ^ 36:=a1
  have a4' : (k : Int) ≤ 68719476736:=a4
  refine aF (mu:=muF) Tryz.func30 fun S hS=>?_
  repeat refine gN ?_
  (refine zw ?_;refine s_call (c_numzero2 ⟨s,n,k⟩ (by omega) h) ?_)
  repeat refine gN ?_
  (refine zw ?_;refine s_call (c_numtop ⟨s,n,k⟩ (by omega) (by omega) (by omega)) ?_)
  repeat refine gN ?_
  (refine zw ?_;refine s_cmp (fun g1=>?_) (fun g1=>?_))
  ·omega
  repeat refine gN ?_
  (refine zw ?_;refine s_call (c_natup n k (by omega) (by omega)) ?_)
  repeat refine gN ?_
  (refine eF hS ?_ (fl':=[(2,.c (.pim [.sc (.bool s),.ints .u64 (U (digs B (n * 2 ^ k)))])),(3,bvl true)]);(repeat' (first | refine fJ ?_ ?_ | exact True.intro);all_goals (try (first | exact kv | (refine kW (ov_of lks) rfl ?_ ?_)))))

end Go.Proofs
