/-
  An abstract machine for this program, and contracts of its functions: part Maj (no statement by itself).
-/
import Derived.Test.YtdbjhcgogmfghaaGreatDoorMai
set_option linter.unusedVariables false
set_option linter.unusedSimpArgs false
set_option linter.unnecessarySimpa false

/-
  big: digit.
-/
namespace Go.Proofs
open Go Go.Abs Go.Nums
attribute [local irreducible] thenA blockA awp aw Stp EndF EndP EndN EndG aOps
set_option linter.unusedSimpArgs false
set_option maxHeartbeats 4000000

theorem c_digit (z : Nm) (p w r : List Nat) (y cm m : Nat) (hm : (digs B y).length = m) (hm1 : 1 ≤ m) (hm2 : m < 2 ^ 40) (hp : p.length < 2 ^ 40) (hwl : w.length = m + 1) (hw : rng B w) (hlt : val B w < y * B) (hcm : m + 1 ≤ cm) :
    AProc Tryz.prog 168 [.c (.win z p.length (m + 1) cm),us (digs B y)] [(z,oi (p ++ w ++ r))] [(z,oi (p ++ padd (m + 1) (val B w % y) ++ r))] (uv (val B w / y)):=by
  (refine aproc1 (mu:=muF) Tryz.func168 rfl (by decide) rfl (by decide) (Nat.le_of_ble_eq_true rfl) (by simp [AVal.at,AVal.at1,Cell.at]) (by simp [AVal.at,AVal.at1,Cell.at]) (by simp [AVal.at,AVal.at1,Cell.at]) nmX nmX fun S hS=>?_;simp only [List.map_cons,List.map_nil,AVal.map,AVal.map1,Cell.map])
  have hy0 : 0 < y:=Nat.pos_of_ne_zero fun h=>by subst h;simp [digs_zero] at hm;omega
  have hU:=U_len (p ++ w ++ r)
  have hUv:=U_len (digs B y)
  have hlen : (p ++ w ++ r).length = p.length + (m + 1) + r.length:=by simp [hwl];omega
  have hvr:=rng_digs hB y
  have ea : ((m : Int)).toNat = m:=by omega
  obtain ⟨vt,hvt⟩ : ∃ vt,vt = (digs B y).getD (m - 1) 0:=⟨_,rfl⟩
  obtain ⟨a,ha⟩ : ∃ a,a = w.getD m 0:=⟨_,rfl⟩
  obtain ⟨b,hb⟩ : ∃ b,b = w.getD (m - 1) 0:=⟨_,rfl⟩
  have hvt64 : vt < 18446744073709551616:=by rw [hvt];exact getD_lt (b:=B) (by decide) hvr _
  have ha64 : a < 18446744073709551616:=by rw [ha];exact getD_lt (b:=B) (by decide) hw _
  have hb64 : b < 18446744073709551616:=by rw [hb];exact getD_lt (b:=B) (by decide) hw _
  have hne : digs B y ≠ []:=fun h=>by rw [h] at hm;simp at hm;omega
  have hvt0 : vt ≠ 0:=by
    have:=digs_top hB hne
    rw [getLast_getD hne,hm,← hvt] at this;exact this
  have hyT : B ^ (m - 1) * vt ≤ y:=by
    have:=val_last B (w:=digs B y) (m:=m - 1) (by omega)
    rw [val_digs hB,← hvt] at this;omega
  have hW : val B w = val B (w.take (m - 1)) + B ^ (m - 1) * (a * 18446744073709551616 + b):=by
    have e1:=val_last B hwl
    have e2:=val_take_succ B w (m - 1)
    rw [show m - 1 + 1 = m by omega,← hb] at e2
    rw [e1,e2,← ha,Nat.mul_add,show B ^ m = B ^ (m - 1) * B by rw [← Nat.pow_succ];congr 1;omega,Nat.mul_assoc,Nat.mul_comm a,show B * a = 18446744073709551616 * a from rfl]
    omega
  have hWlo : val B (w.take (m - 1)) < B ^ (m - 1):=val_take_lt hw (by omega)
  have hUv2 : (U (digs B y)).length = m:=by omega
  have e0 : (((U (digs B y)).length : Int)).toNat = m:=by omega
  have e1 : (((U (digs B y)).length : Int) - 1).toNat = m - 1:=by omega
  have ga : (U (p ++ w ++ r)).getD (p.length + m) 0 = (a : Int):=by rw [U_get,mid_get (by omega),ha]
  have gb : (U (p ++ w ++ r)).getD (p.length + (m - 1)) 0 = (b : Int):=by rw [U_get,mid_get (by omega),hb]
  have gv : (U (digs B y)).getD (m - 1) 0 = (vt : Int):=by rw [U_get,hvt]
  repeat refine gOR ?_
  iterate 3 (refine awp_seq ?_;repeat refine gOR ?_)
  refine awp_seq ?_
  refine awp_mid (fun st=>∃ q : Nat,Weak st ⟨lk' [(0,.c (.win (.out z) p.length (m + 1) cm)),(1,us (digs B y)),(5,iv m),(6,uv q)],ov [(.out z,oi (p ++ w ++ r))] (pushS S)⟩∧q < 18446744073709551616∧val B w / y ≤ q) ?_ ?_
  · repeat refine gO ?_
    rw [e0,e1,ga,gv]
    (refine zw ?_;refine s_cmp (fun h1=>?_) (fun h1=>?_))
    · repeat refine gO ?_
      rw [e0,e1,ga,gb,gv]
      have hlt1 : a < vt:=by omega
      (refine zw ?_;refine s_call (c_div64 a b vt hlt1 hb64 hvt64) ?_)
      repeat refine gO ?_
      have hq : (a * 18446744073709551616 + b) / vt < 18446744073709551616:=by
        rw [Nat.div_lt_iff_lt_mul (by omega),Nat.mul_comm]
        have : (a + 1) * 18446744073709551616 ≤ vt * 18446744073709551616:=Nat.mul_le_mul_right _ hlt1
        rw [Nat.add_mul] at this
        rw [Nat.mul_comm 18446744073709551616]
        omega
      refine ⟨(a * 18446744073709551616 + b) / vt,?_,hq,kq hW hWlo hyT hy0 ?_⟩
      · (refine frz1 hS lks nmX (by intro m hm;simp [lkS,addL,delL,Nm.isLoc,hm]) (by exact rfl) ?_ trivial ?_)
        · rfl
        · (repeat' (first | refine fJ ?_ ?_ | exact True.intro);all_goals (try (first | exact kv | (refine kW (ov_of lks) rfl ?_ ?_))))
      · rw [Nat.mul_comm (_ / vt + 1)];exact Nat.lt_mul_div_succ _ (by omega)
    · repeat refine gO ?_
      refine ⟨18446744073709551615,?_,by omega,?_⟩
      · (refine frz1 hS lks nmX (by intro m hm;simp [lkS,addL,delL,Nm.isLoc,hm]) (by exact rfl) ?_ trivial ?_)
        · rfl
        · (repeat' (first | refine fJ ?_ ?_ | exact True.intro);all_goals (try (first | exact kv | (refine kW (ov_of lks) rfl ?_ ?_))))
      · have : val B w / y < B:=(Nat.div_lt_iff_lt_mul hy0).2 (by rw [Nat.mul_comm];exact hlt)
        exact Nat.le_of_lt_succ this
  rintro st ⟨q,hst,hq64,hqt⟩
  refine awp_weak _ hst ?_
  clear hst st
  have hgw : ∀ (w' : List Nat) i,w'.length = m + 1→i < m + 1→(U (p ++ w' ++ r)).getD (p.length + i) 0 = ((w'.getD i 0 : Nat) : Int):=fun w' i h1 h2=>by rw [U_get,mid_get (by omega)]
  have hsw : ∀ (w' : List Nat) (i s : Nat),w'.length = m + 1→i < m + 1→(U (p ++ w' ++ r)).set (p.length + i) (s : Int) = U (p ++ w'.set i s ++ r):=fun w' i s h1 h2=>by rw [U_set,mid_set (by omega)]
  have hlw : ∀ w' : List Nat,w'.length = m + 1→(U (p ++ w' ++ r)).length = p.length + (m + 1) + r.length:=fun w' h=>by rw [U_len];simp [h];omega
  repeat refine gOR ?_
  iterate 1 (refine awp_seq ?_;repeat refine gOR ?_)
  refine awp_seq ?_
  repeat refine gOR ?_
  refine awp_seq ?_
  repeat refine gOR ?_
  refine awp_midB (fun st=>∃ (w' : List Nat) (br cy : Nat),Weak st ⟨lk' [(0,.c (.win (.out z) p.length (m + 1) cm)),(1,us (digs B y)),(5,iv m),(6,uv q),(7,uv br),(8,uv cy)],ov [(.out z,oi (p ++ w' ++ r))] (pushS S)⟩ ∧
    w'.length = m + 1∧rng B w'∧br ≤ 1∧cy < 18446744073709551616∧w'.getD m 0 = w.getD m 0∧val B (w'.take m) + q * y = val B (w.take m) + B ^ m * (br + cy)) ?_ ?_
  · refine awp_rep4 (fun (i : Nat) (w' : List Nat) (br cy : Nat)=>⟨lk' [(0,.c (.win (.out z) p.length (m + 1) cm)),(1,us (digs B y)),(5,iv m),(6,uv q),(7,uv br),(8,uv cy),(47,us (digs B y)),(48,iv m),(49,iv i)],ov [(.out z,oi (p ++ w' ++ r))] (pushS S)⟩)
      (fun i w' br cy=>i ≤ m∧w'.length = m + 1∧rng B w'∧br ≤ 1∧cy < 18446744073709551616∧(∀ j,i ≤ j→w'.getD j 0 = w.getD j 0)∧val B (w'.take i) + q * val B ((digs B y).take i) = val B (w.take i) + B ^ i * (br + cy)) (fun i _ _ _=>m - i)
      0 w 0 0 ⟨Nat.zero_le _,hwl,hw,by omega,by omega,fun _ _=>rfl,by simp [val]⟩ ?_ ?_
    · (refine frz1 hS lks nmX (by intro m hm;simp [lkS,addL,delL,Nm.isLoc,hm]) (by exact rfl) ?_ trivial ?_)
      · rfl
      · (repeat' (first | refine fJ ?_ ?_ | exact True.intro);all_goals (try (first | exact kv | (refine kW (ov_of lks) rfl ?_ ?_))))
    rintro i w' br cy ⟨h1,h2,h3,h4,h5,h6,h7⟩
    repeat refine gO ?_
    (refine zw ?_;refine s_cmp (fun h8=>?_) (fun h8=>?_))
    · repeat refine gO ?_
      have ei : (i : Int).toNat = i:=by omega
      have hlw':=hlw w' h2
      rw [ei,U_get]
      obtain ⟨v,hv⟩ : ∃ v,v = (digs B y).getD i 0:=⟨_,rfl⟩
      have hv64 : v < 18446744073709551616:=by rw [hv];exact getD_lt (b:=B) (by decide) hvr _
      rw [← hv]
      (refine zw ?_;refine s_call (c_mul64 q v hq64 hv64) ?_)
      repeat refine gO ?_
      (refine zw ?_;refine s_call (c_add64 _ _ 0 (by decide)) ?_)
      have hqv : q * v ≤ 18446744073709551615 * 18446744073709551615:=Nat.mul_le_mul (by omega) (by omega)
      repeat refine gO ?_
      rw [ei,hgw w' i h2 (by omega),h6 i (Nat.le_refl _)]
      obtain ⟨u,hu⟩ : ∃ u,u = w.getD i 0:=⟨_,rfl⟩
      have hu64 : u < 18446744073709551616:=by rw [hu];exact getD_lt (b:=B) (by decide) hw _
      rw [← hu]
      obtain ⟨hi,hhi⟩ : ∃ hi,hi = q * v / 18446744073709551616:=⟨_,rfl⟩
      obtain ⟨lo,hlo⟩ : ∃ lo,lo = q * v % 18446744073709551616:=⟨_,rfl⟩
      have hqv2 : hi * 18446744073709551616 + lo = q * v:=by omega
      rw [← hhi,← hlo]
      obtain ⟨c,hc⟩ : ∃ c,c = (lo + cy + 0) / 18446744073709551616:=⟨_,rfl⟩
      obtain ⟨lo',hlo'⟩ : ∃ lo',lo' = (lo + cy + 0) % 18446744073709551616:=⟨_,rfl⟩
      have hlc : lo' + 18446744073709551616 * c = lo + cy:=by omega
      rw [← hc,← hlo']
      (refine zw ?_;refine s_call (c_sub64 u lo' br h4) ?_)
      repeat refine gO ?_
      obtain ⟨br',hbr'⟩ : ∃ br',br' = (if u < lo' + br then 1 else 0):=⟨_,rfl⟩
      obtain ⟨s,hs⟩ : ∃ s,s = (u + 18446744073709551616 - lo' - br) % 18446744073709551616:=⟨_,rfl⟩
      have hbr1 : br' ≤ 1:=by rw [hbr'];split <;> omega
      have hsu : s + lo' + br = u + 18446744073709551616 * br':=by rw [hbr'];split <;> omega
      rw [← hbr',← hs]
      have hs64 : s < B:=by rw [hs];exact Nat.mod_lt _ (by decide)
      refine ⟨i + 1,w'.set i s,br',hi + c,?_,⟨by omega,by simpa using h2,rng_set h3 hs64,hbr1,by omega,fun j hj=>?_,?_⟩,by omega⟩
      · (refine frz1 hS lks nmX (by intro m hm;simp [lkS,addL,delL,Nm.isLoc,hm]) (by exact rfl) ?_ trivial ?_)
        · rw [ei,hsw w' i s h2 (by omega)]
        · (repeat' (first | refine fJ ?_ ?_ | exact True.intro);all_goals (try (first | exact kv | (refine kW (ov_of lks) rfl ?_ ?_))))
      · rw [getD_set (by omega),if_neg (by omega)];exact h6 j (by omega)
      · rw [val_set_take (by omega),val_take_succ,val_take_succ,← hv,← hu]
        exact dig1 B _ _ _ _ _ _ _ _ _ _ _ _ _ _ _ h7 hqv2 hlc hsu
    · repeat refine gO ?_
      have hi : i = m:=by omega
      subst hi
      refine ⟨w',br,cy,?_,h2,h3,h4,h5,h6 _ (Nat.le_refl _),?_⟩
      · (refine frz1 hS lks nmX (by intro m hm;simp [lkS,addL,delL,Nm.isLoc,hm]) (by exact rfl) ?_ trivial ?_)
        · rfl
        · (repeat' (first | refine fJ ?_ ?_ | exact True.intro);all_goals (try (first | exact kv | (refine kW (ov_of lks) rfl ?_ ?_))))
      · rw [take_all (l:=digs B y) (by omega),val_digs hB] at h7;exact h7
  rintro st ⟨w1,br,cy,hst,h2,h3,h4,h5,h6,h7⟩
  refine awp_weak _ hst ?_
  clear hst st
  have hlw1:=hlw w1 h2
  repeat refine gO ?_
  have em : ((m : Int)).toNat = m:=by omega
  rw [em,hgw w1 m h2 (by omega),h6,← ha]
  (refine zw ?_;refine s_call (c_sub64 a cy br h4) ?_)
  repeat refine gO ?_
  rw [em]
  obtain ⟨br1,hbr1⟩ : ∃ br1,br1 = (if a < cy + br then 1 else 0):=⟨_,rfl⟩
  obtain ⟨s,hs⟩ : ∃ s,s = (a + 18446744073709551616 - cy - br) % 18446744073709551616:=⟨_,rfl⟩
  have hbr1' : br1 ≤ 1:=by rw [hbr1];split <;> omega
  have hsu : s + cy + br = a + 18446744073709551616 * br1:=by rw [hbr1];split <;> omega
  rw [← hbr1,← hs,hsw w1 m s h2 (by omega)]
  have hs64 : s < B:=by rw [hs];exact Nat.mod_lt _ (by decide)
  have hBp : 0 < B ^ m:=Nat.pow_pos (by decide)
  have hq0 : val B (w1.set m s) + q * y = val B w + B ^ (m + 1) * br1:=by
    rw [val_last B (w:=w1.set m s) (m:=m) (by simpa using h2),List.take_set_of_le (Nat.le_refl _),getD_set (by omega),if_pos rfl,val_last B hwl,← ha,Nat.pow_succ]
    have k:=congrArg (B ^ m * ·) hsu
    simp only [Nat.mul_add,← Nat.mul_assoc] at k
    rw [Nat.mul_add] at h7
    rw [show B ^ m * B * br1 = B ^ m * 18446744073709551616 * br1 from rfl]
    omega
  refine awp_midB (fun st=>Weak st ⟨lk' [(6,uv (val B w / y))],ov [(.out z,oi (p ++ padd (m + 1) (val B w % y) ++ r))] (pushS S)⟩) ?_ ?_
  · refine awp_rep3 (fun (w' : List Nat) (q br : Nat)=>⟨lk' [(0,.c (.win (.out z) p.length (m + 1) cm)),(1,us (digs B y)),(5,iv m),(6,uv q),(7,uv br)],ov [(.out z,oi (p ++ w' ++ r))] (pushS S)⟩)
      (fun w' q br=>w'.length = m + 1∧rng B w'∧br ≤ 1∧q < 18446744073709551616∧val B w / y ≤ q∧val B w' + q * y = val B w + B ^ (m + 1) * br) (fun _ q _=>q)
      (w1.set m s) q br1 ⟨by simpa using h2,rng_set h3 hs64,hbr1',hq64,hqt,hq0⟩ ?_ ?_
    · (refine frz1 hS lks nmX (by intro m hm;simp [lkS,addL,delL,Nm.isLoc,hm]) (by exact rfl) ?_ trivial ?_)
      · rfl
      · (repeat' (first | refine fJ ?_ ?_ | exact True.intro);all_goals (try (first | exact kv | (refine kW (ov_of lks) rfl ?_ ?_))))
    clear h2 h3 h4 h5 h6 h7 hlw1 hq0 hqt hq64 hs hs64 hsu hbr1 hbr1' br1 s w1 br cy q
    rintro w' q br ⟨h2,h3,h4,h5,h6,h7⟩
    have hw'lt:=val_lt h3
    rw [h2] at hw'lt
    repeat refine gO ?_
    (refine zw ?_;refine s_cmp (fun h8=>?_) (fun h8=>?_))
    · have hbr : br = 1:=by omega
      subst hbr
      rw [Nat.mul_one] at h7
      have hq0 : 0 < q:=Nat.pos_of_ne_zero fun h=>by rw [h] at h7;omega
      have hqlt : val B w / y < q:=by
        rw [Nat.div_lt_iff_lt_mul hy0];omega
      repeat refine gO ?_
      refine awp_midB (fun st=>∃ (w2 : List Nat) (c : Nat),Weak st ⟨lk' [(0,.c (.win (.out z) p.length (m + 1) cm)),(1,us (digs B y)),(5,iv m),(6,uv (q - 1)),(7,uv 1),(14,uv c)],ov [(.out z,oi (p ++ w2 ++ r))] (pushS S)⟩ ∧
        w2.length = m + 1∧rng B w2∧c ≤ 1∧w2.getD m 0 = w'.getD m 0∧val B (w2.take m) + B ^ m * c = val B (w'.take m) + y) ?_ ?_
      · refine awp_rep3 (fun (i : Nat) (w2 : List Nat) (c : Nat)=>⟨lk' [(0,.c (.win (.out z) p.length (m + 1) cm)),(1,us (digs B y)),(5,iv m),(6,uv (q - 1)),(7,uv 1),(14,uv c),(100,us (digs B y)),(101,iv m),(102,iv i)],ov [(.out z,oi (p ++ w2 ++ r))] (pushS S)⟩)
          (fun i w2 c=>i ≤ m∧w2.length = m + 1∧rng B w2∧c ≤ 1∧(∀ j,i ≤ j→w2.getD j 0 = w'.getD j 0)∧val B (w2.take i) + B ^ i * c = val B (w'.take i) + val B ((digs B y).take i)) (fun i _ _=>m - i)
          0 w' 0 ⟨Nat.zero_le _,h2,h3,by omega,fun _ _=>rfl,by simp [val]⟩ ?_ ?_
        · (refine frz1 hS lks nmX (by intro m hm;simp [lkS,addL,delL,Nm.isLoc,hm]) (by exact rfl) ?_ trivial ?_)
          · rfl
          · (repeat' (first | refine fJ ?_ ?_ | exact True.intro);all_goals (try (first | exact kv | (refine kW (ov_of lks) rfl ?_ ?_))))
        rintro i w2 c ⟨k1,k2,k3,k4,k5,k6⟩
        have hlw2:=hlw w2 k2
        repeat refine gO ?_
        (refine zw ?_;refine s_cmp (fun k8=>?_) (fun k8=>?_))
        · repeat refine gO ?_
          have ei : (i : Int).toNat = i:=by omega
          rw [ei,U_get,hgw w2 i k2 (by omega),k5 i (Nat.le_refl _)]
          have hx64:=getD_lt (b:=B) (by decide) h3 i
          have hy64:=getD_lt (b:=B) (by decide) hvr i
          (refine zw ?_;refine s_call (c_add64 (w'.getD i 0) ((digs B y).getD i 0) c k4) ?_)
          repeat refine gO ?_
          rw [ei,hsw w2 i _ k2 (by omega)]
          refine ⟨i + 1,w2.set i ((w'.getD i 0 + (digs B y).getD i 0 + c) % 18446744073709551616),(w'.getD i 0 + (digs B y).getD i 0 + c) / 18446744073709551616,?_,⟨by omega,by simpa using k2,rng_set k3 (Nat.mod_lt _ (by decide)),?_,fun j hj=>?_,?_⟩,by omega⟩
          · (refine frz1 hS lks nmX (by intro m hm;simp [lkS,addL,delL,Nm.isLoc,hm]) (by exact rfl) ?_ trivial ?_)
            · rfl
            · (repeat' (first | refine fJ ?_ ?_ | exact True.intro);all_goals (try (first | exact kv | (refine kW (ov_of lks) rfl ?_ ?_))))
          · have : w'.getD i 0 + (digs B y).getD i 0 + c < 18446744073709551616 * 2:=by
              have e1 : w'.getD i 0 < 18446744073709551616:=hx64
              have e2 : (digs B y).getD i 0 < 18446744073709551616:=hy64
              omega
            have:=Nat.div_lt_of_lt_mul this
            omega
          · rw [getD_set (by omega),if_neg (by omega)];exact k5 j (by omega)
          · rw [val_set_take (by omega),val_take_succ,val_take_succ]
            exact add_step B (B ^ i) _ _ _ _ _ _ k6
        · repeat refine gO ?_
          have hi : i = m:=by omega
          subst hi
          refine ⟨w2,c,?_,k2,k3,k4,k5 _ (Nat.le_refl _),?_⟩
          · (refine frz1 hS lks nmX (by intro m hm;simp [lkS,addL,delL,Nm.isLoc,hm]) (by exact rfl) ?_ trivial ?_)
            · rfl
            · (repeat' (first | refine fJ ?_ ?_ | exact True.intro);all_goals (try (first | exact kv | (refine kW (ov_of lks) rfl ?_ ?_))))
          · rw [take_all (l:=digs B y) (by omega),val_digs hB] at k6;exact k6
      · rintro st ⟨w2,c,hst,k2,k3,k4,k5,k6⟩
        refine awp_weak _ hst ?_
        clear hst st
        have hlw2:=hlw w2 k2
        repeat refine gO ?_
        rw [em,hgw w2 m k2 (by omega),k5]
        obtain ⟨t,ht⟩ : ∃ t,t = w'.getD m 0:=⟨_,rfl⟩
        have ht64 : t < 18446744073709551616:=by rw [ht];exact getD_lt (b:=B) (by decide) h3 _
        rw [← ht]
        (refine zw ?_;refine s_call (c_add64 t 0 c k4) ?_)
        repeat refine gO ?_
        rw [em,hsw w2 m _ k2 (by omega)]
        obtain ⟨c',hc'⟩ : ∃ c',c' = (t + 0 + c) / 18446744073709551616:=⟨_,rfl⟩
        obtain ⟨s,hs⟩ : ∃ s,s = (t + 0 + c) % 18446744073709551616:=⟨_,rfl⟩
        have hsc : s + 18446744073709551616 * c' = t + c:=by omega
        have hc1 : c' ≤ 1:=by omega
        rw [← hc',← hs]
        repeat refine gO ?_
        refine ⟨w2.set m s,q - 1,1 - c',?_,⟨by simpa using k2,rng_set k3 (by rw [hs];exact Nat.mod_lt _ (by decide)),by omega,by omega,by omega,?_⟩,by omega⟩
        · (refine frz1 hS lks nmX (by intro m hm;simp [lkS,addL,delL,Nm.isLoc,hm]) (by exact rfl) ?_ trivial ?_)
          · rfl
          · (repeat' (first | refine fJ ?_ ?_ | exact True.intro);all_goals (try (first | exact kv | (refine kW (ov_of lks) rfl ?_ ?_))))
        · have e1 : val B (w2.set m s) + B ^ (m + 1) * c' = val B w' + y:=by
            rw [val_last B (w:=w2.set m s) (m:=m) (by simpa using k2),List.take_set_of_le (Nat.le_refl _),getD_set (by omega),if_pos rfl,val_last B h2,← ht,Nat.pow_succ]
            have k:=congrArg (B ^ m * ·) hsc
            simp only [Nat.mul_add,← Nat.mul_assoc] at k
            rw [show B ^ m * B * c' = B ^ m * 18446744073709551616 * c' from rfl]
            omega
          have e2 : (q - 1) * y + y = q * y:=by rw [← Nat.succ_mul];congr 1;omega
          have e3 : B ^ (m + 1) * (1 - c') + B ^ (m + 1) * c' = B ^ (m + 1):=by rw [← Nat.mul_add,show 1 - c' + c' = 1 by omega,Nat.mul_one]
          omega
    · have hbr : br = 0:=by omega
      subst hbr
      rw [Nat.mul_zero,Nat.add_zero] at h7
      have hq : q = val B w / y:=Nat.le_antisymm ((Nat.le_div_iff_mul_le hy0).2 (by omega)) h6
      have hv : val B w' = val B w % y:=by
        have:=Nat.div_add_mod (val B w) y
        rw [← hq,Nat.mul_comm] at this
        omega
      repeat refine gO ?_
      (refine frz1 hS lks nmX (by intro m hm;simp [lkS,addL,delL,Nm.isLoc,hm]) (by exact rfl) ?_ trivial ?_)
      · rw [padd_eq h3,h2,hv]
      · (repeat' (first | refine fJ ?_ ?_ | exact True.intro);all_goals (try (first | exact kv | (refine kW (ov_of lks) rfl ?_ ?_))))
  · intro st hst
    refine awp_weak _ hst ?_
    repeat refine gO ?_
    (refine endP1 ttOk (fl':=[(4,uv (val B w / y))]) (.inr rfl) hS lks nmX (by intro m hm;simp [lkS,addL,delL,Nm.isLoc,hm]) ?_ ?_ (by exact rfl) (by exact rfl) (by exact rfl))
    · rfl
    · (repeat' (first | refine fJ ?_ ?_ | exact True.intro);all_goals (try (first | exact kv | (refine kW (ov_of lks) rfl ?_ ?_))))
end Go.Proofs
