/-
  Contracts of functions: part Nc (no statement by itself).
-/
import Derived.Test.YtdbjhcgogmfghaaGreatDoorNb
import Derived.Test.YtdbjhcgogmfghaaGreatDoorMak
set_option linter.unusedVariables false
set_option linter.unusedSimpArgs false
set_option linter.unnecessarySimpa false

/-
  big: BitLen, DivMod, Mod, Rem.
-/
namespace Go.Proofs
open Go Go.Abs Go.Nums
attribute [local irreducible] thenA blockA awp aw Stp EndF EndP EndN EndG aOps
set_option linter.unusedSimpArgs false
set_option maxHeartbeats 4000000

theorem c_bitlen (n : Int) (hn : (digs B n.natAbs).length < 2 ^ 40) : AFun Tryz.prog 45 [bp n] (iv (blen n.natAbs)):=by
 refine aF (mu:=muF) Tryz.func45 fun S hS=>?_
 repeat refine gO ?_
 (refine zw ?_;refine s_call (c_size n.natAbs hn) ?_)
 repeat refine gO ?_
 (refine eF hS ?_ (fl':=[(2,iv (blen n.natAbs))]);(repeat' (first | refine fJ ?_ ?_ | exact True.intro);all_goals (try (first | exact kv | (refine kW (ov_of lks) rfl ?_ ?_)))))

theorem tm_neg {n m : Int} (hm : 0 < m) (h : n.tmod m < 0) : n.tdiv m - 1 = n / m∧n.tmod m + m = n % m:=by
 have h1:=Int.mul_tdiv_add_tmod n m
 have h2 : -m < n.tmod m:=by have:=Int.lt_tmod_of_pos n hm;omega
 have e : n = m * (n.tdiv m - 1) + (n.tmod m + m):=by rw [Int.mul_sub];omega
 have:=(Int.ediv_emod_unique (a:=n) (b:=m) (q:=n.tdiv m - 1) (r:=n.tmod m + m) hm).2 ⟨by omega,by omega,by omega⟩
 exact ⟨this.1.symm,this.2.symm⟩
theorem tm_pos {n m : Int} (hm : 0 < m) (h : ¬ n.tmod m < 0) : n.tdiv m = n / m∧n.tmod m = n % m:=by
 have h1:=Int.mul_tdiv_add_tmod n m
 have h2 : n.tmod m < m:=Int.tmod_lt_of_pos n hm
 have:=(Int.ediv_emod_unique (a:=n) (b:=m) (q:=n.tdiv m) (r:=n.tmod m) hm).2 ⟨by omega,by omega,by omega⟩
 exact ⟨this.1.symm,this.2.symm⟩
theorem c_divmod (z r : Nm) (hzr : z ≠ r) (a b c d : Leaf) (xv : AVal) (n m : Int) (hx : BArg2 z a b r c d xv n) (hm0 : 0 < m) (hn : (digs B n.natAbs).length < 2 ^ 36) (hm : (digs B m.natAbs).length < 2 ^ 36) :
  AProc Tryz.prog 100 [ptr z,xv,bp m,ptr r] [(z,.cells tBig ([a,b].map Leaf.cell)),(r,.cells tBig ([c,d].map Leaf.cell))] [(z,bo (n / m)),(r,bo (n % m))] (.tup [ptr z,ptr r]):=by
 have hq : (digs B (n.tdiv m).natAbs).length ≤ (digs B n.natAbs).length:=len_mono hB (by rw [Int.natAbs_tdiv];exact Nat.div_le_self _ _)
 have hr : (digs B (n.tmod m).natAbs).length ≤ (digs B n.natAbs).length:=len_mono hB (by rw [Int.natAbs_tmod];exact Nat.mod_le _ _)
 have h1 : (digs B (1 : Int).natAbs).length < 2 ^ 40:=by rw [show (1 : Int).natAbs = 1 from rfl,digs_one];decide
 rcases hx with _ | ⟨_,rfl,rfl⟩ | ⟨_,rfl,rfl⟩
 ·(refine aproc2 (mu:=muF) hzr Tryz.func100 rfl (by decide) rfl (by decide) (Nat.le_of_ble_eq_true rfl) (by simp [AVal.at,AVal.at1,Cell.at] <;> grind) (by simp [AVal.at,AVal.at1,Cell.at]) (by simp [AVal.at,AVal.at1,Cell.at]) (by simp [AVal.at,AVal.at1,Cell.at] <;> grind) nmX nmX nmX nmX fun S hS=>?_;simp only [List.map_cons,List.map_nil,AVal.map,AVal.map1,Cell.map])
  repeat refine gO ?_
  (refine zw ?_;refine s_proc (c_set (.loc 11) (.sc (.bool false)) (.sc (.slice none 0 0)) _ m (.im m) (by omega)) ?_ preX)
  repeat refine gO ?_
  ((first | refine aw_fz 11 ?_ ?_ | refine awp_fz 11 ?_ ?_);rotate_left;· (repeat' (first | exact True.intro | refine And.intro ?_ ?_)) <;> first | (show _ ≤ _;simp;done) | (show _ ≤ _;simp;omega) | (show _ ≤ _;omega))
  (refine zw ?_;refine s_proc (c_quorem (.out z) (.out r) (by simpa using hzr) _ _ _ _ _ n m (.im n) (by omega) (by omega) (by omega)) ?_ preX)
  repeat refine gO ?_
  refine awp_if (by exact rfl) (fun g=>?_) (fun g=>?_)
  ·have g2 : n.tmod m < 0:=by simpa using g
   obtain ⟨e1,e2⟩:=tm_neg hm0 g2
   have hz1 : (digs B (n.tdiv m).natAbs).length < 2 ^ 40:=by omega
   repeat refine gO ?_
   refine awp_if (by exact rfl) (fun g3=>?_) (fun g3=>?_)
   ·exact absurd g3 (by simp;omega)
   repeat refine gO ?_
   (refine zw ?_;refine s_new (c_newint 1 (by omega) (by omega)) ?_)
   ((first | refine aw_fz 37 ?_ ?_ | refine awp_fz 37 ?_ ?_);rotate_left;· (repeat' (first | exact True.intro | refine And.intro ?_ ?_)) <;> first | (show _ ≤ _;simp;done) | (show _ ≤ _;simp;omega) | (show _ ≤ _;omega))
   (refine zw ?_;refine s_proc (c_sub (.out z) _ _ _ _ (n.tdiv m) 1 (.self _ rfl rfl) rfl hz1 h1) ?_ preX)
   repeat refine gO ?_
   (refine zw ?_;refine s_proc (c_add (.out r) _ _ _ _ (n.tmod m) m (.self _ rfl rfl) (.im m) (by omega) (by omega)) ?_ preX)
   repeat refine gO ?_
   (refine endP2 ttOk (fl':=[(8,ptr (.out z)),(9,ptr (.out r))]) (.inr rfl) hS hzr lks lks nmX nmX (by intro m hm hm2;simp [lkS,addL,delL,Nm.isLoc,hm,hm2]) ?_ ?_ ?_ (by exact rfl) (by exact rfl) (by exact rfl))
   ·rw [e1]
   ·rw [e2]
   ·(repeat' (first | refine fJ ?_ ?_ | exact True.intro);all_goals (try (first | exact kv | (refine kW (ov_of lks) rfl ?_ ?_))))
  ·have g2 : ¬ n.tmod m < 0:=by simpa using g
   obtain ⟨e1,e2⟩:=tm_pos hm0 g2
   repeat refine gO ?_
   (refine endP2 ttOk (fl':=[(8,ptr (.out z)),(9,ptr (.out r))]) (.inr rfl) hS hzr lks lks nmX nmX (by intro m hm hm2;simp [lkS,addL,delL,Nm.isLoc,hm,hm2]) ?_ ?_ ?_ (by exact rfl) (by exact rfl) (by exact rfl))
   ·rw [e1]
   ·rw [e2]
   ·(repeat' (first | refine fJ ?_ ?_ | exact True.intro);all_goals (try (first | exact kv | (refine kW (ov_of lks) rfl ?_ ?_))))
 ·(refine aproc2 (mu:=muF) hzr Tryz.func100 rfl (by decide) rfl (by decide) (Nat.le_of_ble_eq_true rfl) (by simp [AVal.at,AVal.at1,Cell.at] <;> grind) (by simp [AVal.at,AVal.at1,Cell.at]) (by simp [AVal.at,AVal.at1,Cell.at]) (by simp [AVal.at,AVal.at1,Cell.at] <;> grind) nmX nmX nmX nmX fun S hS=>?_;simp only [List.map_cons,List.map_nil,AVal.map,AVal.map1,Cell.map])
  repeat refine gO ?_
  (refine zw ?_;refine s_proc (c_set (.loc 11) (.sc (.bool false)) (.sc (.slice none 0 0)) _ m (.im m) (by omega)) ?_ preX)
  repeat refine gO ?_
  ((first | refine aw_fz 11 ?_ ?_ | refine awp_fz 11 ?_ ?_);rotate_left;· (repeat' (first | exact True.intro | refine And.intro ?_ ?_)) <;> first | (show _ ≤ _;simp;done) | (show _ ≤ _;simp;omega) | (show _ ≤ _;omega))
  (refine zw ?_;refine s_proc (c_quorem (.out z) (.out r) (by simpa using hzr) _ _ _ _ _ n m (.one n rfl rfl) (by omega) (by omega) (by omega)) ?_ preX)
  repeat refine gO ?_
  refine awp_if (by exact rfl) (fun g=>?_) (fun g=>?_)
  ·have g2 : n.tmod m < 0:=by simpa using g
   obtain ⟨e1,e2⟩:=tm_neg hm0 g2
   have hz1 : (digs B (n.tdiv m).natAbs).length < 2 ^ 40:=by omega
   repeat refine gO ?_
   refine awp_if (by exact rfl) (fun g3=>?_) (fun g3=>?_)
   ·exact absurd g3 (by simp;omega)
   repeat refine gO ?_
   (refine zw ?_;refine s_new (c_newint 1 (by omega) (by omega)) ?_)
   ((first | refine aw_fz 37 ?_ ?_ | refine awp_fz 37 ?_ ?_);rotate_left;· (repeat' (first | exact True.intro | refine And.intro ?_ ?_)) <;> first | (show _ ≤ _;simp;done) | (show _ ≤ _;simp;omega) | (show _ ≤ _;omega))
   (refine zw ?_;refine s_proc (c_sub (.out z) _ _ _ _ (n.tdiv m) 1 (.self _ rfl rfl) rfl hz1 h1) ?_ preX)
   repeat refine gO ?_
   (refine zw ?_;refine s_proc (c_add (.out r) _ _ _ _ (n.tmod m) m (.self _ rfl rfl) (.im m) (by omega) (by omega)) ?_ preX)
   repeat refine gO ?_
   (refine endP2 ttOk (fl':=[(8,ptr (.out z)),(9,ptr (.out r))]) (.inr rfl) hS hzr lks lks nmX nmX (by intro m hm hm2;simp [lkS,addL,delL,Nm.isLoc,hm,hm2]) ?_ ?_ ?_ (by exact rfl) (by exact rfl) (by exact rfl))
   ·rw [e1]
   ·rw [e2]
   ·(repeat' (first | refine fJ ?_ ?_ | exact True.intro);all_goals (try (first | exact kv | (refine kW (ov_of lks) rfl ?_ ?_))))
  ·have g2 : ¬ n.tmod m < 0:=by simpa using g
   obtain ⟨e1,e2⟩:=tm_pos hm0 g2
   repeat refine gO ?_
   (refine endP2 ttOk (fl':=[(8,ptr (.out z)),(9,ptr (.out r))]) (.inr rfl) hS hzr lks lks nmX nmX (by intro m hm hm2;simp [lkS,addL,delL,Nm.isLoc,hm,hm2]) ?_ ?_ ?_ (by exact rfl) (by exact rfl) (by exact rfl))
   ·rw [e1]
   ·rw [e2]
   ·(repeat' (first | refine fJ ?_ ?_ | exact True.intro);all_goals (try (first | exact kv | (refine kW (ov_of lks) rfl ?_ ?_))))
 ·(refine aproc2 (mu:=muF) hzr Tryz.func100 rfl (by decide) rfl (by decide) (Nat.le_of_ble_eq_true rfl) (by simp [AVal.at,AVal.at1,Cell.at] <;> grind) (by simp [AVal.at,AVal.at1,Cell.at]) (by simp [AVal.at,AVal.at1,Cell.at]) (by simp [AVal.at,AVal.at1,Cell.at] <;> grind) nmX nmX nmX nmX fun S hS=>?_;simp only [List.map_cons,List.map_nil,AVal.map,AVal.map1,Cell.map])
  repeat refine gO ?_
  (refine zw ?_;refine s_proc (c_set (.loc 11) (.sc (.bool false)) (.sc (.slice none 0 0)) _ m (.im m) (by omega)) ?_ preX)
  repeat refine gO ?_
  ((first | refine aw_fz 11 ?_ ?_ | refine awp_fz 11 ?_ ?_);rotate_left;· (repeat' (first | exact True.intro | refine And.intro ?_ ?_)) <;> first | (show _ ≤ _;simp;done) | (show _ ≤ _;simp;omega) | (show _ ≤ _;omega))
  (refine zw ?_;refine s_proc (c_quorem (.out z) (.out r) (by simpa using hzr) _ _ _ _ _ n m (.two n rfl rfl) (by omega) (by omega) (by omega)) ?_ preX)
  repeat refine gO ?_
  refine awp_if (by exact rfl) (fun g=>?_) (fun g=>?_)
  ·have g2 : n.tmod m < 0:=by simpa using g
   obtain ⟨e1,e2⟩:=tm_neg hm0 g2
   have hz1 : (digs B (n.tdiv m).natAbs).length < 2 ^ 40:=by omega
   repeat refine gO ?_
   refine awp_if (by exact rfl) (fun g3=>?_) (fun g3=>?_)
   ·exact absurd g3 (by simp;omega)
   repeat refine gO ?_
   (refine zw ?_;refine s_new (c_newint 1 (by omega) (by omega)) ?_)
   ((first | refine aw_fz 37 ?_ ?_ | refine awp_fz 37 ?_ ?_);rotate_left;· (repeat' (first | exact True.intro | refine And.intro ?_ ?_)) <;> first | (show _ ≤ _;simp;done) | (show _ ≤ _;simp;omega) | (show _ ≤ _;omega))
   (refine zw ?_;refine s_proc (c_sub (.out z) _ _ _ _ (n.tdiv m) 1 (.self _ rfl rfl) rfl hz1 h1) ?_ preX)
   repeat refine gO ?_
   (refine zw ?_;refine s_proc (c_add (.out r) _ _ _ _ (n.tmod m) m (.self _ rfl rfl) (.im m) (by omega) (by omega)) ?_ preX)
   repeat refine gO ?_
   (refine endP2 ttOk (fl':=[(8,ptr (.out z)),(9,ptr (.out r))]) (.inr rfl) hS hzr lks lks nmX nmX (by intro m hm hm2;simp [lkS,addL,delL,Nm.isLoc,hm,hm2]) ?_ ?_ ?_ (by exact rfl) (by exact rfl) (by exact rfl))
   ·rw [e1]
   ·rw [e2]
   ·(repeat' (first | refine fJ ?_ ?_ | exact True.intro);all_goals (try (first | exact kv | (refine kW (ov_of lks) rfl ?_ ?_))))
  ·have g2 : ¬ n.tmod m < 0:=by simpa using g
   obtain ⟨e1,e2⟩:=tm_pos hm0 g2
   repeat refine gO ?_
   (refine endP2 ttOk (fl':=[(8,ptr (.out z)),(9,ptr (.out r))]) (.inr rfl) hS hzr lks lks nmX nmX (by intro m hm hm2;simp [lkS,addL,delL,Nm.isLoc,hm,hm2]) ?_ ?_ ?_ (by exact rfl) (by exact rfl) (by exact rfl))
   ·rw [e1]
   ·rw [e2]
   ·(repeat' (first | refine fJ ?_ ?_ | exact True.intro);all_goals (try (first | exact kv | (refine kW (ov_of lks) rfl ?_ ?_))))

theorem c_mod (z : Nm) (a b : Leaf) (xv : AVal) (n m : Int) (hx : BArg z a b xv n) (hm0 : 0 < m) (hn : (digs B n.natAbs).length < 2 ^ 36) (hm : (digs B m.natAbs).length < 2 ^ 36) :
  AProc Tryz.prog 52 [ptr z,xv,bp m] [(z,.cells tBig ([a,b].map Leaf.cell))] [(z,bo (n % m))] (ptr z):=by
 rcases hx with _ | ⟨_,rfl,rfl⟩
 ·(refine aproc1 (mu:=muF) Tryz.func52 rfl (by decide) rfl (by decide) (Nat.le_of_ble_eq_true rfl) (by simp [AVal.at,AVal.at1,Cell.at]) (by simp [AVal.at,AVal.at1,Cell.at]) (by simp [AVal.at,AVal.at1,Cell.at]) nmX nmX fun S hS=>?_;simp only [List.map_cons,List.map_nil,AVal.map,AVal.map1,Cell.map])
  repeat refine gO ?_
  (refine zw ?_;refine s_proc (c_divmod (.loc 7) (.out z) (by simp) (.sc (.bool false)) (.sc (.slice none 0 0)) _ _ _ n m (.im n) hm0 hn hm) ?_ preX)
  repeat refine gO ?_
  (refine endP1 ttOk (fl':=[(6,ptr (.out z))]) (.inr rfl) hS lks nmX (by intro m hm;simp [lkS,addL,delL,Nm.isLoc,hm]) ?_ ?_ (by exact rfl) (by exact rfl) (by exact rfl))
  ·rfl
  ·(repeat' (first | refine fJ ?_ ?_ | exact True.intro);all_goals (try (first | exact kv | (refine kW (ov_of lks) rfl ?_ ?_))))
 ·(refine aproc1 (mu:=muF) Tryz.func52 rfl (by decide) rfl (by decide) (Nat.le_of_ble_eq_true rfl) (by simp [AVal.at,AVal.at1,Cell.at]) (by simp [AVal.at,AVal.at1,Cell.at]) (by simp [AVal.at,AVal.at1,Cell.at]) nmX nmX fun S hS=>?_;simp only [List.map_cons,List.map_nil,AVal.map,AVal.map1,Cell.map])
  repeat refine gO ?_
  (refine zw ?_;refine s_proc (c_divmod (.loc 7) (.out z) (by simp) (.sc (.bool false)) (.sc (.slice none 0 0)) _ _ _ n m (.two n rfl rfl) hm0 hn hm) ?_ preX)
  repeat refine gO ?_
  (refine endP1 ttOk (fl':=[(6,ptr (.out z))]) (.inr rfl) hS lks nmX (by intro m hm;simp [lkS,addL,delL,Nm.isLoc,hm]) ?_ ?_ (by exact rfl) (by exact rfl) (by exact rfl))
  ·rfl
  ·(repeat' (first | refine fJ ?_ ?_ | exact True.intro);all_goals (try (first | exact kv | (refine kW (ov_of lks) rfl ?_ ?_))))

theorem c_rem (z : Nm) (a b : Leaf) (n m : Int) (hm0 : m ≠ 0) (hn : (digs B n.natAbs).length < 2 ^ 37) (hm : (digs B m.natAbs).length < 2 ^ 37) :
  AProc Tryz.prog 143 [ptr z,bp n,bp m] [(z,.cells tBig ([a,b].map Leaf.cell))] [(z,bo (n.tmod m))] (ptr z):=by
 (refine aproc1 (mu:=muF) Tryz.func143 rfl (by decide) rfl (by decide) (Nat.le_of_ble_eq_true rfl) (by simp [AVal.at,AVal.at1,Cell.at]) (by simp [AVal.at,AVal.at1,Cell.at]) (by simp [AVal.at,AVal.at1,Cell.at]) nmX nmX fun S hS=>?_;simp only [List.map_cons,List.map_nil,AVal.map,AVal.map1,Cell.map])
 repeat refine gO ?_
 (refine zw ?_;refine s_proc (c_quorem (.loc 10) (.out z) (by simp) (.sc (.bool false)) (.sc (.slice none 0 0)) _ _ _ n m (.im n) hm0 hn hm) ?_ preX)
 repeat refine gO ?_
 (refine endP1 ttOk (fl':=[(6,ptr (.out z))]) (.inr rfl) hS lks nmX (by intro m hm;simp [lkS,addL,delL,Nm.isLoc,hm]) ?_ ?_ (by exact rfl) (by exact rfl) (by exact rfl))
 ·rfl
 ·(repeat' (first | refine fJ ?_ ?_ | exact True.intro);all_goals (try (first | exact kv | (refine kW (ov_of lks) rfl ?_ ?_))))
end Go.Proofs
