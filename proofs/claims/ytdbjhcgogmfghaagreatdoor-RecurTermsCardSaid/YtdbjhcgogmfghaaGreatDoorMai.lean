/-
  An abstract machine for this program, and contracts of its functions: part Mai (no statement by itself).
-/
import Derived.Test.YtdbjhcgogmfghaaGreatDoorMah
set_option linter.unusedVariables false
set_option linter.unusedSimpArgs false
set_option linter.unnecessarySimpa false

/-
  big: times.
-/
namespace Go.Proofs
open Go Go.Abs Go.Nums
attribute [local irreducible] thenA blockA awp aw Stp EndF aOps
set_option linter.unusedSimpArgs false

theorem c_times (p q : Nat) (hp : (digs B p).length < 2 ^ 39) (hq : (digs B q).length < 2 ^ 39) : AFun Tryz.prog 93 [us (digs B p),us (digs B q)] (us (digs B (p * q))):=by
  refine aF (mu:=muF) Tryz.func93 fun S hS=>?_
  have hlp:=U_len (digs B p)
  have hlq:=U_len (digs B q)
  repeat refine gO ?_
  (refine zw ?_;refine s_cmp (fun g1=>?_) (fun g1=>?_))
  · repeat refine gO ?_
    have h0 : p = 0:=(digs_nil hB).1 (List.eq_nil_of_length_eq_zero (by omega))
    subst h0
    refine eF hS ?_ (fl':=[(4,us (digs B (0 * q)))])
    refine ⟨⟨_,rfl,?_⟩,trivial⟩
    rw [Nat.zero_mul,digs_zero];exact kJ
  repeat refine gO ?_
  (refine zw ?_;refine s_cmp (fun g2=>?_) (fun g2=>?_))
  · repeat refine gO ?_
    have h0 : q = 0:=(digs_nil hB).1 (List.eq_nil_of_length_eq_zero (by omega))
    subst h0
    refine eF hS ?_ (fl':=[(4,us (digs B (p * 0)))])
    refine ⟨⟨_,rfl,?_⟩,trivial⟩
    rw [Nat.mul_zero,digs_zero];exact kJ
  repeat refine gO ?_
  obtain ⟨n,hn⟩ : ∃ n,n = (digs B p).length:=⟨_,rfl⟩
  obtain ⟨m,hm⟩ : ∃ m,m = (digs B q).length:=⟨_,rfl⟩
  obtain ⟨N,hN⟩ : ∃ N,N = n + m:=⟨_,rfl⟩
  have e0 : (((U (digs B p)).length : Int) + ((U (digs B q)).length : Int)).toNat = N:=by omega
  refine awp_rep2 (fun (i : Nat) (o : List Nat)=>⟨lk' [(0,us (digs B p)),(1,us (digs B q)),(5,.c (.win (.loc 28) 0 N N)),(29,us (digs B p)),(30,iv n),(31,iv i)],ov [(.loc 28,.ints 55 .u64 (U o))] (pushS S)⟩)
    (fun i o=>i ≤ n∧o.length = N∧rng B o∧(∀ j,i + m ≤ j→o.getD j 0 = 0)∧val B o = val B ((digs B p).take i) * q) (fun i _=>n - i)
    0 (List.replicate N 0) ⟨Nat.zero_le _,by simp,rng_rep (by decide) _,fun j _=>getD_rep0 N j,by
      rw [List.take_zero,val_nil,Nat.zero_mul]
      exact val_rep0 B N⟩
    (frz hS rfl ⟨.inl ⟨_,ov_of lks,kO (by rw [e0];exact U_rep _ 0)⟩,trivial⟩
      ⟨⟨_,rfl,kU rfl⟩,⟨_,rfl,kU rfl⟩,⟨_,rfl,kWin (by simp [ov,lkS]) rfl e0 e0⟩,⟨_,rfl,kU rfl⟩,⟨_,rfl,kN (by omega)⟩,⟨_,rfl,kN rfl⟩,trivial⟩) ?_
  rintro i o ⟨h1,h2,h3,h4,h5⟩
  repeat refine gO ?_
  (refine zw ?_;refine s_cmp (fun h6=>?_) (fun h6=>?_))
  · repeat refine gO ?_
    have ei : (i : Int).toNat = i:=by omega
    have hx:=getD_lt (b:=B) (by decide) (rng_digs hB p) i
    obtain ⟨x,hxe⟩ : ∃ x,x = (digs B p).getD i 0:=⟨_,rfl⟩
    rw [← hxe] at hx
    refine awp_midB (fun st=>∃ (o' : List Nat) (c : Nat),Weak st ⟨lk' [(0,us (digs B p)),(1,us (digs B q)),(5,.c (.win (.loc 28) 0 N N)),(6,iv i),(7,uv x),(8,uv c),(29,us (digs B p)),(30,iv n),(31,iv i)],ov [(.loc 28,.ints 55 .u64 (U o'))] (pushS S)⟩ ∧
      o'.length = N∧rng B o'∧c < B∧(∀ j,i + m ≤ j→o'.getD j 0 = 0)∧val B o' + B ^ (i + m) * c = val B ((digs B p).take i) * q + B ^ i * x * q) ?_ ?_
    · refine awp_rep3 (fun (k : Nat) (o : List Nat) (c : Nat)=>⟨lk' [(0,us (digs B p)),(1,us (digs B q)),(5,.c (.win (.loc 28) 0 N N)),(6,iv i),(7,uv x),(8,uv c),(29,us (digs B p)),(30,iv n),(31,iv i),(36,us (digs B q)),(37,iv m),(38,iv k)],ov [(.loc 28,.ints 55 .u64 (U o))] (pushS S)⟩)
        (fun k o c=>k ≤ m∧o.length = N∧rng B o∧c < B∧(∀ j,i + m ≤ j→o.getD j 0 = 0)∧val B o + B ^ (i + k) * c = val B ((digs B p).take i) * q + B ^ i * x * val B ((digs B q).take k)) (fun k _ _=>m - k)
        0 o 0 ⟨Nat.zero_le _,h2,h3,by decide,h4,by rw [h5,List.take_zero,val_nil];simp⟩ ?_ ?_
      · exact frz hS rfl ⟨.inl ⟨_,ov_of lks,kO rfl⟩,trivial⟩
          ⟨⟨_,rfl,kU rfl⟩,⟨_,rfl,kU rfl⟩,⟨_,rfl,kWin (by simp [ov,lkS]) rfl rfl rfl⟩,⟨_,rfl,kN rfl⟩,⟨_,rfl,kN (by rw [hxe,ei,U_get])⟩,⟨_,rfl,kN rfl⟩,⟨_,rfl,kU rfl⟩,⟨_,rfl,kN rfl⟩,⟨_,rfl,kN rfl⟩,⟨_,rfl,kU rfl⟩,⟨_,rfl,kN (by omega)⟩,⟨_,rfl,kN rfl⟩,trivial⟩
      · rintro k o c ⟨k1,k2,k3,k4,k5,k6⟩
        have hlo:=U_len o
        repeat refine gO ?_
        (refine zw ?_;refine s_cmp (fun k7=>?_) (fun k7=>?_))
        · repeat refine gO ?_
          have ek : (k : Int).toNat = k:=by omega
          have eik : ((i : Int) + (k : Int)).toNat = i + k:=by omega
          have hy:=getD_lt (b:=B) (by decide) (rng_digs hB q) k
          have ho:=getD_lt (b:=B) (by decide) k3 (i + k)
          rw [ek,U_get]
          obtain ⟨y,hye⟩ : ∃ y,y = (digs B q).getD k 0:=⟨_,rfl⟩
          rw [← hye] at hy ⊢
          have hxy : x * y ≤ 18446744073709551615 * 18446744073709551615:=Nat.mul_le_mul (Nat.le_of_lt_succ hx) (Nat.le_of_lt_succ hy)
          (refine zw ?_;refine s_call (c_mul64 x y hx hy) ?_)
          repeat refine gO ?_
          rw [eik,Nat.zero_add,U_get]
          obtain ⟨oj,hoj⟩ : ∃ oj,oj = o.getD (i + k) 0:=⟨_,rfl⟩
          rw [← hoj] at ho ⊢
          have hx' : x < 18446744073709551616:=hx
          have hy' : y < 18446744073709551616:=hy
          have ho' : oj < 18446744073709551616:=ho
          have k4' : c < 18446744073709551616:=k4
          (refine zw ?_;refine s_call (c_add64 _ _ 0 (by decide)) ?_)
          repeat refine gO ?_
          (refine zw ?_;refine s_call (c_add64 _ _ 0 (by decide)) ?_)
          repeat refine gO ?_
          obtain ⟨t,ht⟩ : ∃ t,t = x * y + oj + c:=⟨_,rfl⟩
          have hs : ((x * y % 18446744073709551616 + oj + 0) % 18446744073709551616 + c + 0) % 18446744073709551616 = t % 18446744073709551616:=by omega
          have hc' : t / 18446744073709551616 < 18446744073709551616:=by omega
          refine ⟨k + 1,o.set (i + k) (t % 18446744073709551616),t / 18446744073709551616,
            frz hS rfl ⟨.inl ⟨_,ov_of lks,kO (by rw [eik,Nat.zero_add,hs];exact U_set _ _ _)⟩,trivial⟩
              ⟨⟨_,rfl,kU rfl⟩,⟨_,rfl,kU rfl⟩,⟨_,rfl,kWin (by simp [ov,lkS]) rfl rfl rfl⟩,⟨_,rfl,kN rfl⟩,⟨_,rfl,kN rfl⟩,⟨_,rfl,kN (by omega)⟩,⟨_,rfl,kU rfl⟩,⟨_,rfl,kN rfl⟩,⟨_,rfl,kN rfl⟩,⟨_,rfl,kU rfl⟩,⟨_,rfl,kN rfl⟩,⟨_,rfl,kN rfl⟩,trivial⟩,
            ⟨by omega,by simpa using k2,rng_set k3 (Nat.mod_lt _ (by decide)),hc',fun j hj=>?_,?_⟩,by omega⟩
          · rw [getD_set (by omega),if_neg (by omega)];exact k5 j hj
          · rw [val_take_succ,← hye]
            have:=val_set B (l:=o) (j:=i + k) (s:=t % 18446744073709551616) (by omega)
            rw [← hoj] at this
            exact mul_step B i k (B ^ (i + k)) _ _ oj _ c _ x y _ _ rfl this k6 (by rw [← ht];exact Nat.mod_add_div t 18446744073709551616)
        · repeat refine gO ?_
          have hk : k = m:=by omega
          subst hk
          refine ⟨o,c,frz hS rfl ⟨.inl ⟨_,ov_of lks,kO rfl⟩,trivial⟩
            ⟨⟨_,rfl,kU rfl⟩,⟨_,rfl,kU rfl⟩,⟨_,rfl,kWin (by simp [ov,lkS]) rfl rfl rfl⟩,⟨_,rfl,kN rfl⟩,⟨_,rfl,kN rfl⟩,⟨_,rfl,kN rfl⟩,⟨_,rfl,kU rfl⟩,⟨_,rfl,kN rfl⟩,⟨_,rfl,kN rfl⟩,trivial⟩,k2,k3,k4,k5,?_⟩
          rw [k6,take_all (l:=digs B q) (by omega),val_digs hB]
    · rintro st ⟨o',c,hw,j1,j2,j3,j4,j5⟩
      refine awp_weak _ hw ?_
      have hlo:=U_len o'
      repeat refine gO ?_
      have eim : ((i : Int) + ((U (digs B q)).length : Int)).toNat = i + m:=by omega
      refine ⟨i + 1,o'.set (i + m) c,frz hS rfl ⟨.inl ⟨_,ov_of lks,kO (by rw [eim,Nat.zero_add];exact U_set _ _ _)⟩,trivial⟩
        ⟨⟨_,rfl,kU rfl⟩,⟨_,rfl,kU rfl⟩,⟨_,rfl,kWin (by simp [ov,lkS]) rfl rfl rfl⟩,⟨_,rfl,kU rfl⟩,⟨_,rfl,kN rfl⟩,⟨_,rfl,kN rfl⟩,trivial⟩,
        ⟨by omega,by simpa using j1,rng_set j2 j3,fun j hj=>?_,?_⟩,by omega⟩
      · rw [getD_set (by omega),if_neg (by omega)];exact j4 j (by omega)
      · have:=val_set B (l:=o') (j:=i + m) (s:=c) (by omega)
        rw [j4 (i + m) (Nat.le_refl _),Nat.mul_zero,Nat.add_zero,j5] at this
        rw [this,val_take_succ,← hxe,Nat.add_mul]
  · repeat refine gO ?_
    have hi : i = n:=by omega
    subst hi
    refine aw_weak ⟨lk' [(87,us o)],ov [] (pushS S)⟩ ?_ ?_
    · refine frz hS rfl trivial ⟨⟨_,rfl,kW (ov_of lks) rfl (by rw [U_len];omega) ?_⟩,trivial⟩
      rw [List.drop_zero,U_take,take_all (by omega)]
    (refine zw ?_;refine s_call (c_trim o h3 (by omega)) ?_)
    repeat refine gO ?_
    refine eF hS ?_ (fl':=[(4,us (digs B (p * q)))])
    refine ⟨⟨_,rfl,kU ?_⟩,trivial⟩
    rw [h5,take_all (by omega),val_digs hB]
end Go.Proofs

/-
  big: short.
-/
namespace Go.Proofs
open Go Go.Abs Go.Nums
attribute [local irreducible] thenA blockA awp aw Stp EndF aOps
set_option linter.unusedSimpArgs false

theorem c_short (p d : Nat) (hp : (digs B p).length < 2 ^ 40) (hd0 : 0 < d) (hd : d < 18446744073709551616) : AFun Tryz.prog 166 [us (digs B p),uv d] (.tup [us (digs B (p / d)),uv (p % d)]):=by
  refine aF (mu:=muF) Tryz.func166 fun S hS=>?_
  have hlp:=U_len (digs B p)
  repeat refine gO ?_
  obtain ⟨n,hn⟩ : ∃ n,n = (digs B p).length:=⟨_,rfl⟩
  have e0 : ((U (digs B p)).length : Int).toNat = n:=by omega
  refine awp_rep3 (fun (i : Nat) (o : List Nat) (r : Nat)=>⟨lk' [(0,us (digs B p)),(1,uv d),(6,.c (.win (.loc 11) 0 n n)),(7,uv r),(8,ivl .i64 ((i : Int) - 1))],ov [(.loc 11,.ints 55 .u64 (U o))] (pushS S)⟩)
    (fun i o r=>i ≤ n∧o.length = n∧rng B o∧r < d∧val B ((digs B p).drop i) = val B (o.drop i) * d + r) (fun i _ _=>i)
    n (List.replicate n 0) 0 ⟨Nat.le_refl _,by simp,rng_rep (by decide) _,hd0,by rw [List.drop_of_length_le (by omega),List.drop_of_length_le (by simp)];simp [val]⟩ ?_ ?_
  · exact frz hS rfl ⟨.inl ⟨_,ov_of lks,kO (by rw [e0];exact U_rep _ 0)⟩,trivial⟩
      ⟨⟨_,rfl,kU rfl⟩,⟨_,rfl,kN rfl⟩,⟨_,rfl,kWin (by simp [ov,lkS]) rfl e0 e0⟩,⟨_,rfl,kN rfl⟩,⟨_,rfl,kN (by omega)⟩,trivial⟩
  rintro i o r ⟨h1,h2,h3,h4,h5⟩
  have hlo:=U_len o
  repeat refine gO ?_
  (refine zw ?_;refine s_cmp (fun h6=>?_) (fun h6=>?_))
  · repeat refine gO ?_
    have ei : ((i : Int) - 1).toNat = i - 1:=by omega
    have hx:=getD_lt (b:=B) (by decide) (rng_digs hB p) (i - 1)
    rw [ei,U_get]
    obtain ⟨x,hxe⟩ : ∃ x,x = (digs B p).getD (i - 1) 0:=⟨_,rfl⟩
    rw [← hxe] at hx ⊢
    have hx' : x < 18446744073709551616:=hx
    (refine zw ?_;refine s_call (c_div64 r x d h4 hx' hd) ?_)
    repeat refine gO ?_
    have hq : (r * 18446744073709551616 + x) / d < 18446744073709551616:=by
      rw [Nat.div_lt_iff_lt_mul hd0]
      have : (r + 1) * 18446744073709551616 ≤ d * 18446744073709551616:=Nat.mul_le_mul_right _ h4
      omega
    refine ⟨i - 1,o.set (i - 1) ((r * 18446744073709551616 + x) / d),(r * 18446744073709551616 + x) % d,
      frz hS rfl ⟨.inl ⟨_,ov_of lks,kO (by rw [ei,Nat.zero_add];exact U_set _ _ _)⟩,trivial⟩
        ⟨⟨_,rfl,kU rfl⟩,⟨_,rfl,kN rfl⟩,⟨_,rfl,kWin (by simp [ov,lkS]) rfl rfl rfl⟩,⟨_,rfl,kN rfl⟩,⟨_,rfl,kN (by omega)⟩,trivial⟩,
      ⟨by omega,by simpa using h2,rng_set h3 hq,Nat.mod_lt _ hd0,?_⟩,by omega⟩
    rw [drop_set_at (by omega),drop_getD (l:=digs B p) (by omega),val_cons,val_cons,← hxe,show i - 1 + 1 = i by omega]
    exact short_step B _ _ d r x _ _ h5 (Nat.div_add_mod' _ _)
  · repeat refine gO ?_
    have hi : i = 0:=by omega
    subst hi
    refine aw_weak ⟨lk' [(32,us o),(7,uv r)],ov [] (pushS S)⟩ ?_ ?_
    · refine frz hS rfl trivial ⟨⟨_,rfl,kW (ov_of lks) rfl (by omega) ?_⟩,⟨_,rfl,kN rfl⟩,trivial⟩
      rw [List.drop_zero,U_take,take_all (by omega)]
    (refine zw ?_;refine s_call (c_trim o h3 (by omega)) ?_)
    repeat refine gO ?_
    rw [List.drop_zero,List.drop_zero,val_digs hB] at h5
    refine eF hS ?_ (fl':=[(4,us (digs B (p / d))),(5,uv (p % d))])
    refine ⟨⟨_,rfl,kU ?_⟩,⟨_,rfl,kN ?_⟩,trivial⟩
    · rw [h5,Nat.mul_comm,Nat.mul_add_div hd0,Nat.div_eq_of_lt h4,Nat.add_zero]
    · rw [h5,Nat.mul_comm,Nat.mul_add_mod,Nat.mod_eq_of_lt h4]
end Go.Proofs

/-
  big: left.
-/
namespace Go.Proofs
open Go Go.Abs Go.Nums
attribute [local irreducible] thenA blockA awp aw Stp EndF aOps
set_option linter.unusedSimpArgs false

theorem c_left (p n : Nat) (hp : (digs B p).length < 2 ^ 38) (hn : n < 2 ^ 38) : AFun Tryz.prog 167 [us (digs B p),uv n] (us (digs B (p * 2 ^ n))):=by
  refine aF (mu:=muF) Tryz.func167 fun S hS=>?_
  have hlp:=U_len (digs B p)
  repeat refine gO ?_
  (refine zw ?_;refine s_cmp (fun g1=>?_) (fun g1=>?_))
  · repeat refine gO ?_
    have h0 : p = 0:=(digs_nil hB).1 (List.eq_nil_of_length_eq_zero (by omega))
    subst h0
    refine eF hS ?_ (fl':=[(4,us (digs B (0 * 2 ^ n)))])
    refine ⟨⟨_,rfl,?_⟩,trivial⟩
    rw [Nat.zero_mul,digs_zero];exact kJ
  repeat refine gO ?_
  obtain ⟨m,hm⟩ : ∃ m,m = (digs B p).length:=⟨_,rfl⟩
  obtain ⟨k,hk⟩ : ∃ k,k = n / 64:=⟨_,rfl⟩
  obtain ⟨s,hs⟩ : ∃ s,s = n % 64:=⟨_,rfl⟩
  have hs64 : s < 64:=by omega
  have e1 : ((n / 64 : Nat) : Int).toNat = k:=by omega
  have e2 : (((n / 64 : Nat) : Int) + ((U (digs B p)).length : Int) + 1).toNat = k + m + 1:=by omega
  refine awp_rep3 (fun (i : Nat) (o : List Nat) (low : Nat)=>⟨lk' [(0,us (digs B p)),(1,uv n),(5,.c (.win (.loc 21) 0 (k + i) (k + m + 1))),(6,uv low),(22,us (digs B p)),(23,iv m),(24,iv i)],
      ov [(.loc 21,.ints 55 .u64 (U (List.replicate k 0 ++ o ++ List.replicate (m + 1 - i) 0)))] (pushS S)⟩)
    (fun i o low=>i ≤ m∧o.length = i∧rng B o∧low < 2 ^ s∧val B o + B ^ i * low = val B ((digs B p).take i) * 2 ^ s) (fun i _ _=>m - i)
    0 [] 0 ⟨Nat.zero_le _,rfl,rng_nil,Nat.two_pow_pos _,by simp [val]⟩ ?_ ?_
  · refine frz hS rfl ⟨.inl ⟨_,ov_of lks,kO ?_⟩,trivial⟩
      ⟨⟨_,rfl,kU rfl⟩,⟨_,rfl,kN rfl⟩,⟨_,rfl,kWin (by simp [ov,lkS]) rfl e1 e2⟩,⟨_,rfl,kN rfl⟩,⟨_,rfl,kU rfl⟩,⟨_,rfl,kN (by omega)⟩,⟨_,rfl,kN rfl⟩,trivial⟩
    rw [e2,List.append_nil,List.replicate_append_replicate,show k + (m + 1 - 0) = k + m + 1 by omega];exact U_rep _ 0
  rintro i o low ⟨h1,h2,h3,h4,h5⟩
  repeat refine gO ?_
  (refine zw ?_;refine s_cmp (fun h6=>?_) (fun h6=>?_))
  · repeat refine gO ?_
    have ei : (i : Int).toNat = i:=by omega
    have hx:=getD_lt (b:=B) (by decide) (rng_digs hB p) i
    rw [ei,U_get]
    obtain ⟨x,hxe⟩ : ∃ x,x = (digs B p).getD i 0:=⟨_,rfl⟩
    rw [← hxe] at hx ⊢
    have hx' : x < 18446744073709551616:=hx
    obtain ⟨q1,q2,q3⟩:=push_up hx' hs64 h4
    have hl64 : low < 18446744073709551616:=Nat.lt_of_lt_of_le h4 (Nat.pow_le_pow_right (by decide) (show s ≤ 64 by omega))
    (first | refine stp_shlN (x) (s) (by exact rfl) (by exact rfl) (by first | exact True.intro | omega | (simp only [and_true,List.length_map,List.length_replicate,List.length_set,List.length_append,List.length_cons,List.length_nil,List.length_take,List.length_drop] at *;omega)) (by first | exact True.intro | omega | (simp only [and_true,List.length_map,List.length_replicate,List.length_set,List.length_append,List.length_cons,List.length_nil,List.length_take,List.length_drop] at *;omega)) ?_ | refine aw_cons (stp_shlN (x) (s) (by exact rfl) (by exact rfl) (by first | exact True.intro | omega | (simp only [and_true,List.length_map,List.length_replicate,List.length_set,List.length_append,List.length_cons,List.length_nil,List.length_take,List.length_drop] at *;omega)) (by first | exact True.intro | omega | (simp only [and_true,List.length_map,List.length_replicate,List.length_set,List.length_append,List.length_cons,List.length_nil,List.length_take,List.length_drop] at *;omega)) ?_) | refine aOps_cons (stp_shlN (x) (s) (by exact rfl) (by exact rfl) (by first | exact True.intro | omega | (simp only [and_true,List.length_map,List.length_replicate,List.length_set,List.length_append,List.length_cons,List.length_nil,List.length_take,List.length_drop] at *;omega)) (by first | exact True.intro | omega | (simp only [and_true,List.length_map,List.length_replicate,List.length_set,List.length_append,List.length_cons,List.length_nil,List.length_take,List.length_drop] at *;omega)) ?_))
    repeat refine gO ?_
    (first | refine stp_orN (x * 2 ^ s % 18446744073709551616) (low) (by exact rfl) (by exact rfl) (by first | exact True.intro | omega | (simp only [and_true,List.length_map,List.length_replicate,List.length_set,List.length_append,List.length_cons,List.length_nil,List.length_take,List.length_drop] at *;omega)) (by first | exact True.intro | omega | (simp only [and_true,List.length_map,List.length_replicate,List.length_set,List.length_append,List.length_cons,List.length_nil,List.length_take,List.length_drop] at *;omega)) (by first | exact True.intro | omega | (simp only [and_true,List.length_map,List.length_replicate,List.length_set,List.length_append,List.length_cons,List.length_nil,List.length_take,List.length_drop] at *;omega)) (by first | exact True.intro | omega | (simp only [and_true,List.length_map,List.length_replicate,List.length_set,List.length_append,List.length_cons,List.length_nil,List.length_take,List.length_drop] at *;omega)) ?_ | refine aw_cons (stp_orN (x * 2 ^ s % 18446744073709551616) (low) (by exact rfl) (by exact rfl) (by first | exact True.intro | omega | (simp only [and_true,List.length_map,List.length_replicate,List.length_set,List.length_append,List.length_cons,List.length_nil,List.length_take,List.length_drop] at *;omega)) (by first | exact True.intro | omega | (simp only [and_true,List.length_map,List.length_replicate,List.length_set,List.length_append,List.length_cons,List.length_nil,List.length_take,List.length_drop] at *;omega)) (by first | exact True.intro | omega | (simp only [and_true,List.length_map,List.length_replicate,List.length_set,List.length_append,List.length_cons,List.length_nil,List.length_take,List.length_drop] at *;omega)) (by first | exact True.intro | omega | (simp only [and_true,List.length_map,List.length_replicate,List.length_set,List.length_append,List.length_cons,List.length_nil,List.length_take,List.length_drop] at *;omega)) ?_) | refine aOps_cons (stp_orN (x * 2 ^ s % 18446744073709551616) (low) (by exact rfl) (by exact rfl) (by first | exact True.intro | omega | (simp only [and_true,List.length_map,List.length_replicate,List.length_set,List.length_append,List.length_cons,List.length_nil,List.length_take,List.length_drop] at *;omega)) (by first | exact True.intro | omega | (simp only [and_true,List.length_map,List.length_replicate,List.length_set,List.length_append,List.length_cons,List.length_nil,List.length_take,List.length_drop] at *;omega)) (by first | exact True.intro | omega | (simp only [and_true,List.length_map,List.length_replicate,List.length_set,List.length_append,List.length_cons,List.length_nil,List.length_take,List.length_drop] at *;omega)) (by first | exact True.intro | omega | (simp only [and_true,List.length_map,List.length_replicate,List.length_set,List.length_append,List.length_cons,List.length_nil,List.length_take,List.length_drop] at *;omega)) ?_))
    repeat refine gO ?_
    obtain ⟨w,hw⟩ : ∃ w,w = (x * 2 ^ s % 18446744073709551616 ||| low):=⟨_,rfl⟩
    rw [← hw] at q1 q3 ⊢
    have hL : (U (List.replicate k 0 ++ o ++ List.replicate (m + 1 - i) 0)).length = k + m + 1:=by rw [U_len];simp;omega
    refine zw1 (s_appR ttOk (Y:=[(w : Int)]) ?_ ⟨?_,?_⟩ ?_)
    · exact srcE_win (L:=[(w : Int)]) lks (by simp)
    · simp;omega
    · rw [hL];simp;omega
    repeat refine gO ?_
    (first | refine stp_shrN (x) (64 - s) (by exact rfl) (by exact rfl) (by first | exact True.intro | omega | (simp only [and_true,List.length_map,List.length_replicate,List.length_set,List.length_append,List.length_cons,List.length_nil,List.length_take,List.length_drop] at *;omega)) (by first | exact True.intro | omega | (simp only [and_true,List.length_map,List.length_replicate,List.length_set,List.length_append,List.length_cons,List.length_nil,List.length_take,List.length_drop] at *;omega)) (by first | exact True.intro | omega | (simp only [and_true,List.length_map,List.length_replicate,List.length_set,List.length_append,List.length_cons,List.length_nil,List.length_take,List.length_drop] at *;omega)) ?_ | refine aw_cons (stp_shrN (x) (64 - s) (by exact rfl) (by exact rfl) (by first | exact True.intro | omega | (simp only [and_true,List.length_map,List.length_replicate,List.length_set,List.length_append,List.length_cons,List.length_nil,List.length_take,List.length_drop] at *;omega)) (by first | exact True.intro | omega | (simp only [and_true,List.length_map,List.length_replicate,List.length_set,List.length_append,List.length_cons,List.length_nil,List.length_take,List.length_drop] at *;omega)) (by first | exact True.intro | omega | (simp only [and_true,List.length_map,List.length_replicate,List.length_set,List.length_append,List.length_cons,List.length_nil,List.length_take,List.length_drop] at *;omega)) ?_) | refine aOps_cons (stp_shrN (x) (64 - s) (by exact rfl) (by exact rfl) (by first | exact True.intro | omega | (simp only [and_true,List.length_map,List.length_replicate,List.length_set,List.length_append,List.length_cons,List.length_nil,List.length_take,List.length_drop] at *;omega)) (by first | exact True.intro | omega | (simp only [and_true,List.length_map,List.length_replicate,List.length_set,List.length_append,List.length_cons,List.length_nil,List.length_take,List.length_drop] at *;omega)) (by first | exact True.intro | omega | (simp only [and_true,List.length_map,List.length_replicate,List.length_set,List.length_append,List.length_cons,List.length_nil,List.length_take,List.length_drop] at *;omega)) ?_))
    repeat refine gO ?_
    refine ⟨i + 1,o ++ [w],x / 2 ^ (64 - s),frz hS rfl ⟨.inl ⟨_,ov_of lks,kO ?_⟩,trivial⟩
      ⟨⟨_,rfl,kU rfl⟩,⟨_,rfl,kN rfl⟩,⟨_,rfl,kWin (by simp [ov,lkS]) rfl (by simp;omega) rfl⟩,⟨_,rfl,kN rfl⟩,⟨_,rfl,kU rfl⟩,⟨_,rfl,kN rfl⟩,⟨_,rfl,kN rfl⟩,trivial⟩,
      ⟨by omega,by simp;omega,rng_append.2 ⟨h3,by simp [rng];exact q3⟩,q2,?_⟩,by omega⟩
    · exact fill_next k m h2 h1
    · rw [val_snoc,val_take_succ,← hxe,h2,Nat.add_mul,← h5,powS,Nat.mul_assoc (B ^ i) B,Nat.add_assoc,← Nat.mul_add,show w + B * (x / 2 ^ (64 - s)) = x * 2 ^ s + low from q1,Nat.mul_add,Nat.mul_assoc]
      omega
  · repeat refine gO ?_
    have hi : i = m:=by omega
    subst hi
    have hL : (U (List.replicate k 0 ++ o ++ List.replicate (i + 1 - i) 0)).length = k + i + 1:=by rw [U_len];simp;omega
    refine zw1 (s_appR ttOk (Y:=[(low : Int)]) ?_ ⟨?_,?_⟩ ?_)
    · exact srcE_win (L:=[(low : Int)]) lks (by simp)
    · simp
    · rw [hL];simp
    refine aw_weak ⟨lk' [(46,us (List.replicate k 0 ++ (o ++ [low])))],ov [] (pushS S)⟩ ?_ ?_
    · refine frz hS rfl trivial ⟨⟨_,rfl,kW (ov_of lks) rfl ?_ ?_⟩,trivial⟩
      · rw [show (List.take (k + i) (U (List.replicate k 0 ++ o ++ List.replicate (i + 1 - i) 0)) ++ [(low : Int)] ++ List.drop (k + i + [(low : Int)].length) (U (List.replicate k 0 ++ o ++ List.replicate (i + 1 - i) 0))) = _ from fill_next k i h2 (Nat.le_refl _),U_len]
        simp;omega
      · rw [show (List.take (k + i) (U (List.replicate k 0 ++ o ++ List.replicate (i + 1 - i) 0)) ++ [(low : Int)] ++ List.drop (k + i + [(low : Int)].length) (U (List.replicate k 0 ++ o ++ List.replicate (i + 1 - i) 0))) = _ from fill_next k i h2 (Nat.le_refl _),List.drop_zero,U_take]
        rw [Nat.sub_self,List.replicate_zero,List.append_nil,take_all (by simp;omega)]
    have hl64 : low < B:=Nat.lt_of_lt_of_le h4 (Nat.pow_le_pow_right (by decide) (show s ≤ 64 by omega))
    have hr : rng B (List.replicate k 0 ++ (o ++ [low])):=rng_zeros (by decide) k (rng_append.2 ⟨h3,by simp [rng];exact hl64⟩)
    (refine zw ?_;refine s_call (c_trim (List.replicate k 0 ++ (o ++ [low])) hr (by simp;omega)) ?_)
    repeat refine gO ?_
    refine eF hS ?_ (fl':=[(4,us (digs B (p * 2 ^ n)))])
    refine ⟨⟨_,rfl,kU ?_⟩,trivial⟩
    rw [take_all (by omega),val_digs hB] at h5
    rw [val_zeros,val_snoc,h2,h5]
    congr 1
    rw [show B = 2 ^ 64 from rfl,← Nat.pow_mul,Nat.mul_left_comm,← Nat.pow_add,show 64 * k + s = n by omega]
end Go.Proofs

/-
  big: right.
-/
namespace Go.Proofs
open Go Go.Abs Go.Nums
attribute [local irreducible] thenA blockA awp aw Stp EndF aOps
set_option linter.unusedSimpArgs false

theorem c_right (p n : Nat) (hp : (digs B p).length < 2 ^ 38) (hn : n < 2 ^ 63) : AFun Tryz.prog 169 [us (digs B p),uv n] (.tup [us (digs B (p / 2 ^ n)),bvl (decide (p % 2 ^ n ≠ 0))]):=by
  refine aF (mu:=muF) Tryz.func169 fun S hS=>?_
  have hlp:=U_len (digs B p)
  obtain ⟨m,hm⟩ : ∃ m,m = (digs B p).length:=⟨_,rfl⟩
  obtain ⟨k,hk⟩ : ∃ k,k = min (n / 64) m:=⟨_,rfl⟩
  obtain ⟨s,hs⟩ : ∃ s,s = n % 64:=⟨_,rfl⟩
  have hs64 : s < 64:=by omega
  repeat refine gO ?_
  have e3 : (if ((U (digs B p)).length : Int) < ((n / 64 : Nat) : Int) then ((U (digs B p)).length : Int) else ((n / 64 : Nat) : Int)) = (k : Int):=by split <;> omega
  have hlk : ((digs B p).take k).length = k:=by simp;omega
  have e4 : (U (digs B p)).take (((k : Int)).toNat - 0) = U ((digs B p).take k):=by rw [U_take];congr 2
  refine awp_midB (fun st=>Weak st ⟨lk' [(0,us (digs B p)),(1,uv n),(6,iv k),(7,bvl (decide (val B ((digs B p).take k) ≠ 0)))],ov [] (pushS S)⟩) ?_ ?_
  · refine awp_rep2 (fun (i : Nat) (b : Bool)=>⟨lk' [(0,us (digs B p)),(1,uv n),(6,iv k),(7,bvl b),(22,us ((digs B p).take k)),(23,iv k),(24,iv i)],ov [] (pushS S)⟩)
      (fun i b=>i ≤ k∧b = decide (val B ((digs B p).take i) ≠ 0)) (fun i _=>k - i) 0 false ⟨Nat.zero_le _,by simp [val]⟩ ?_ ?_
    · exact frz hS rfl trivial ⟨⟨_,rfl,kU rfl⟩,⟨_,rfl,kN rfl⟩,⟨_,rfl,kN e3⟩,⟨_,rfl,kS⟩,⟨_,rfl,kI (by rw [e3,List.drop_zero];exact e4)⟩,⟨_,rfl,kN (by rw [e3,List.drop_zero,e4,U_len,hlk])⟩,⟨_,rfl,kN rfl⟩,trivial⟩
    · rintro i b ⟨h1,h2⟩
      have hlu:=U_len ((digs B p).take k)
      have ei : (i : Int).toNat = i:=by omega
      have hbp : ∀ j,0 < B ^ j:=fun j=>Nat.pow_pos (by decide)
      repeat refine gO ?_
      (refine zw ?_;refine s_cmp (fun h3=>?_) (fun h3=>?_))
      · have hg : ((digs B p).take k).getD i 0 = (digs B p).getD i 0:=by rw [List.getD_eq_getElem?_getD,List.getD_eq_getElem?_getD,List.getElem?_take_of_lt (by omega)]
        cases b with
        | true =>
          repeat refine gO ?_
          refine ⟨i + 1,true,frz hS rfl trivial ⟨⟨_,rfl,kU rfl⟩,⟨_,rfl,kN rfl⟩,⟨_,rfl,kN rfl⟩,⟨_,rfl,kS⟩,⟨_,rfl,kU rfl⟩,⟨_,rfl,kN rfl⟩,⟨_,rfl,kN rfl⟩,trivial⟩,⟨by omega,?_⟩,by omega⟩
          rw [val_take_succ]
          have:=of_decide_eq_true h2.symm
          simp;omega
        | false =>
          have h0 : val B ((digs B p).take i) = 0:=by simpa using h2
          repeat refine gO ?_
          rw [ei,U_get,hg]
          (refine zw ?_;refine s_cmp (fun h4=>?_) (fun h4=>?_))
          · repeat refine gO ?_
            refine ⟨i + 1,true,frz hS rfl trivial ⟨⟨_,rfl,kU rfl⟩,⟨_,rfl,kN rfl⟩,⟨_,rfl,kN rfl⟩,⟨_,rfl,kS⟩,⟨_,rfl,kU rfl⟩,⟨_,rfl,kN rfl⟩,⟨_,rfl,kN rfl⟩,trivial⟩,⟨by omega,?_⟩,by omega⟩
            have hne : (digs B p).getD i 0 ≠ 0:=by omega
            have:=Nat.mul_ne_zero (Nat.ne_of_gt (hbp i)) hne
            rw [val_take_succ]
            rw [h0,Nat.zero_add]
            exact (decide_eq_true this).symm
          · repeat refine gO ?_
            refine ⟨i + 1,false,frz hS rfl trivial ⟨⟨_,rfl,kU rfl⟩,⟨_,rfl,kN rfl⟩,⟨_,rfl,kN rfl⟩,⟨_,rfl,kS⟩,⟨_,rfl,kU rfl⟩,⟨_,rfl,kN rfl⟩,⟨_,rfl,kN rfl⟩,trivial⟩,⟨by omega,?_⟩,by omega⟩
            have hne : (digs B p).getD i 0 = 0:=by omega
            rw [val_take_succ,h0,hne]
            simp
      · repeat refine gO ?_
        have hi : i = k:=by omega
        subst hi
        exact frz hS rfl trivial ⟨⟨_,rfl,kU rfl⟩,⟨_,rfl,kN rfl⟩,⟨_,rfl,kN rfl⟩,⟨_,rfl,kB h2⟩,trivial⟩
  · intro st hw
    refine awp_weak _ hw ?_
    repeat refine gO ?_
    obtain ⟨D,hD⟩ : ∃ D,D = (digs B p).drop k:=⟨_,rfl⟩
    have hDl : D.length = m - k:=by rw [hD];simp;omega
    have hlD:=U_len D
    have hDr : rng B D:=by rw [hD];exact rng_drop (rng_digs hB p) k
    have e5 : (U (digs B p)).drop ((k : Int)).toNat = U D:=by rw [U_drop,hD];congr 2
    have e6 : ((U (digs B p)).drop ((k : Int)).toNat).take ((U (digs B p)).length - ((k : Int)).toNat) = U D:=by rw [e5];exact List.take_of_length_le (by omega)
    have hsplit:=val_split B (l:=digs B p) (i:=k) (by omega)
    rw [val_digs hB,← hD] at hsplit
    obtain ⟨V,hV⟩ : ∃ V,V = val B ((digs B p).take k):=⟨_,rfl⟩
    have hVlt : V < B ^ k:=by rw [hV];exact val_take_lt (rng_digs hB p) (by omega)
    rw [← hV] at hsplit
    rw [← hV]
    have hn2 : 2 ^ n = B ^ (n / 64) * 2 ^ s:=by rw [show B = 2 ^ 64 from rfl,← Nat.pow_mul,← Nat.pow_add,show 64 * (n / 64) + s = n by omega]
    have hsp : 0 < 2 ^ s:=Nat.two_pow_pos s
    refine aw_weak ⟨lk' [(38,iv (m - k)),(0,us D),(1,uv n),(7,bvl (decide (V ≠ 0)))],ov [] (pushS S)⟩ ?_ ?_
    · exact frz hS rfl trivial ⟨⟨_,rfl,kN (by rw [e6];omega)⟩,⟨_,rfl,kI e6⟩,⟨_,rfl,kN rfl⟩,⟨_,rfl,kS⟩,trivial⟩
    (refine zw ?_;refine s_cmp (fun h3=>?_) (fun h3=>?_))
    · repeat refine gO ?_
      have hk' : k = m:=by omega
      have hv0 : val B D = 0:=by rw [List.eq_nil_of_length_eq_zero (l:=D) (by omega)];rfl
      have hlt : p < 2 ^ n:=by
        rw [hsplit,hv0,hn2,Nat.mul_zero,Nat.add_zero]
        refine Nat.lt_of_lt_of_le hVlt (Nat.le_trans (Nat.pow_le_pow_right (by decide) (show k ≤ n / 64 by omega)) (Nat.le_mul_of_pos_right _ hsp))
      refine eF hS ?_ (fl':=[(4,us (digs B (p / 2 ^ n))),(5,bvl (decide (p % 2 ^ n ≠ 0)))])
      refine ⟨⟨_,rfl,?_⟩,⟨_,rfl,kB ?_⟩,trivial⟩
      · rw [Nat.div_eq_of_lt hlt,digs_zero];exact kJ
      · rw [Nat.mod_eq_of_lt hlt,hsplit,hv0,Nat.mul_zero,Nat.add_zero]
    have hk' : k = n / 64:=by omega
    have hx:=getD_lt (b:=B) (by decide) hDr 0
    have hx' : D.getD 0 0 < 18446744073709551616:=hx
    have hDv : val B D = D.getD 0 0 + B * val B (D.drop 1):=by
      have:=val_split1 B (l:=D) (i:=0) (by omega)
      simpa [val] using this
    have hBs : B = 2 ^ s * 2 ^ (64 - s):=by rw [← Nat.pow_add,show s + (64 - s) = 64 by omega]
    have hDm : val B D % 2 ^ s = D.getD 0 0 % 2 ^ s:=by
      rw [hDv,hBs,Nat.mul_assoc,Nat.add_mul_mod_self_left]
    have hpm : p % 2 ^ n = V + B ^ k * (D.getD 0 0 % 2 ^ s):=by
      rw [hn2,← hk',Nat.mod_mul,hsplit,Nat.add_mul_mod_self_left,Nat.mod_eq_of_lt hVlt,Nat.add_mul_div_left _ _ (Nat.pow_pos (by decide)),Nat.div_eq_of_lt hVlt,Nat.zero_add,hDm]
    have hmod : p % 2 ^ n ≠ 0 ↔ (V ≠ 0 ∨ D.getD 0 0 % 2 ^ s ≠ 0):=by
      rw [hpm]
      constructor
      · intro h
        by_cases q : V = 0
        · refine .inr fun q2=>h ?_
          rw [q,q2];simp
        · exact .inl q
      · rintro (h | h) q
        · omega
        · have : B ^ k * (D.getD 0 0 % 2 ^ s) = 0:=by omega
          rcases Nat.mul_eq_zero.1 this with g | g
          · exact absurd g (Nat.ne_of_gt (Nat.pow_pos (by decide)))
          · exact h g
    repeat refine gOR ?_
    refine awp_seq ?_
    refine awp_mid (fun st=>Weak st ⟨lk' [(0,us D),(1,uv n),(7,bvl (decide (p % 2 ^ n ≠ 0)))],ov [] (pushS S)⟩) ?_ ?_
    · by_cases hV0 : V = 0
      · rw [show decide (V ≠ 0) = false by simp [hV0]]
        repeat refine gO ?_
        rw [show (Int.toNat 0) = 0 from rfl,U_get]
        (first | refine stp_shlN (D.getD 0 0) (64 - s) (by exact rfl) (by exact rfl) (by first | exact True.intro | omega | (simp only [and_true,List.length_map,List.length_replicate,List.length_set,List.length_append,List.length_cons,List.length_nil,List.length_take,List.length_drop] at *;omega)) (by first | exact True.intro | omega | (simp only [and_true,List.length_map,List.length_replicate,List.length_set,List.length_append,List.length_cons,List.length_nil,List.length_take,List.length_drop] at *;omega)) ?_ | refine aw_cons (stp_shlN (D.getD 0 0) (64 - s) (by exact rfl) (by exact rfl) (by first | exact True.intro | omega | (simp only [and_true,List.length_map,List.length_replicate,List.length_set,List.length_append,List.length_cons,List.length_nil,List.length_take,List.length_drop] at *;omega)) (by first | exact True.intro | omega | (simp only [and_true,List.length_map,List.length_replicate,List.length_set,List.length_append,List.length_cons,List.length_nil,List.length_take,List.length_drop] at *;omega)) ?_) | refine aOps_cons (stp_shlN (D.getD 0 0) (64 - s) (by exact rfl) (by exact rfl) (by first | exact True.intro | omega | (simp only [and_true,List.length_map,List.length_replicate,List.length_set,List.length_append,List.length_cons,List.length_nil,List.length_take,List.length_drop] at *;omega)) (by first | exact True.intro | omega | (simp only [and_true,List.length_map,List.length_replicate,List.length_set,List.length_append,List.length_cons,List.length_nil,List.length_take,List.length_drop] at *;omega)) ?_))
        repeat refine gO ?_
        (refine zw ?_;refine s_cmp (fun g5=>?_) (fun g5=>?_))
        · repeat refine gO ?_
          refine frz hS rfl trivial ⟨⟨_,rfl,kU rfl⟩,⟨_,rfl,kN rfl⟩,⟨_,rfl,kB ?_⟩,trivial⟩
          refine (decide_eq_true (hmod.2 (.inr fun q=>g5 ?_))).symm
          rw [(low_zero hs64).2 q];rfl
        · repeat refine gO ?_
          refine frz hS rfl trivial ⟨⟨_,rfl,kU rfl⟩,⟨_,rfl,kN rfl⟩,⟨_,rfl,kB ?_⟩,trivial⟩
          refine (decide_eq_false fun q=>?_).symm
          rcases hmod.1 q with g | g
          · exact g hV0
          · exact g ((low_zero hs64).1 (by omega))
      · rw [show decide (V ≠ 0) = true by simp [hV0]]
        repeat refine gO ?_
        exact frz hS rfl trivial ⟨⟨_,rfl,kU rfl⟩,⟨_,rfl,kN rfl⟩,⟨_,rfl,kB (decide_eq_true (hmod.2 (.inl hV0))).symm⟩,trivial⟩
    · intro st2 hw2
      refine awp_weak _ hw2 ?_
      repeat refine gO ?_
      obtain ⟨d,hd⟩ : ∃ d,d = D.length:=⟨_,rfl⟩
      have e7 : ((U D).length : Int).toNat = d:=by omega
      refine awp_rep2 (fun (i : Nat) (o : List Nat)=>⟨lk' [(0,us D),(1,uv n),(7,bvl (decide (p % 2 ^ n ≠ 0))),(10,.c (.win (.loc 54) 0 d d)),(55,us D),(56,iv d),(57,iv i)],ov [(.loc 54,.ints 55 .u64 (U o))] (pushS S)⟩)
        (fun i o=>i ≤ d∧o.length = d∧rng B o∧2 ^ s * val B (o.take i) + D.getD 0 0 % 2 ^ s = val B (D.take i) + B ^ i * (D.getD i 0 % 2 ^ s)) (fun i _=>d - i)
        0 (List.replicate d 0) ⟨Nat.zero_le _,by simp,rng_rep (by decide) _,by simp [val]⟩ ?_ ?_
      · exact frz hS rfl ⟨.inl ⟨_,ov_of lks,kO (by rw [e7];exact U_rep _ 0)⟩,trivial⟩
          ⟨⟨_,rfl,kU rfl⟩,⟨_,rfl,kN rfl⟩,⟨_,rfl,kS⟩,⟨_,rfl,kWin (by simp [ov,lkS]) rfl e7 e7⟩,⟨_,rfl,kU rfl⟩,⟨_,rfl,kN (by omega)⟩,⟨_,rfl,kN rfl⟩,trivial⟩
      rintro i o ⟨h1,h2,h3',h4⟩
      have hlo:=U_len o
      repeat refine gO ?_
      (refine zw ?_;refine s_cmp (fun h6=>?_) (fun h6=>?_))
      · repeat refine gO ?_
        have ei : (i : Int).toNat = i:=by omega
        rw [ei,U_get]
        obtain ⟨x,hxe⟩ : ∃ x,x = D.getD i 0:=⟨_,rfl⟩
        have hx2 : x < 18446744073709551616:=by rw [hxe];exact getD_lt (b:=B) (by decide) hDr i
        rw [← hxe]
        rw [← hs]
        (first | refine stp_shrN (x) (s) (by exact rfl) (by exact rfl) (by first | exact True.intro | omega | (simp only [and_true,List.length_map,List.length_replicate,List.length_set,List.length_append,List.length_cons,List.length_nil,List.length_take,List.length_drop] at *;omega)) (by first | exact True.intro | omega | (simp only [and_true,List.length_map,List.length_replicate,List.length_set,List.length_append,List.length_cons,List.length_nil,List.length_take,List.length_drop] at *;omega)) (by first | exact True.intro | omega | (simp only [and_true,List.length_map,List.length_replicate,List.length_set,List.length_append,List.length_cons,List.length_nil,List.length_take,List.length_drop] at *;omega)) ?_ | refine aw_cons (stp_shrN (x) (s) (by exact rfl) (by exact rfl) (by first | exact True.intro | omega | (simp only [and_true,List.length_map,List.length_replicate,List.length_set,List.length_append,List.length_cons,List.length_nil,List.length_take,List.length_drop] at *;omega)) (by first | exact True.intro | omega | (simp only [and_true,List.length_map,List.length_replicate,List.length_set,List.length_append,List.length_cons,List.length_nil,List.length_take,List.length_drop] at *;omega)) (by first | exact True.intro | omega | (simp only [and_true,List.length_map,List.length_replicate,List.length_set,List.length_append,List.length_cons,List.length_nil,List.length_take,List.length_drop] at *;omega)) ?_) | refine aOps_cons (stp_shrN (x) (s) (by exact rfl) (by exact rfl) (by first | exact True.intro | omega | (simp only [and_true,List.length_map,List.length_replicate,List.length_set,List.length_append,List.length_cons,List.length_nil,List.length_take,List.length_drop] at *;omega)) (by first | exact True.intro | omega | (simp only [and_true,List.length_map,List.length_replicate,List.length_set,List.length_append,List.length_cons,List.length_nil,List.length_take,List.length_drop] at *;omega)) (by first | exact True.intro | omega | (simp only [and_true,List.length_map,List.length_replicate,List.length_set,List.length_append,List.length_cons,List.length_nil,List.length_take,List.length_drop] at *;omega)) ?_))
        repeat refine gO ?_
        obtain ⟨y,hye⟩ : ∃ y,y = D.getD (i + 1) 0:=⟨_,rfl⟩
        have hy2 : y < 18446744073709551616:=by rw [hye];exact getD_lt (b:=B) (by decide) hDr (i + 1)
        obtain ⟨q1,q2⟩:=pull_down (y:=y) hx2 hs64
        have fin : ∀ w,w < B→2 ^ s * w + x % 2 ^ s = x + B * (y % 2 ^ s)→2 ^ s * val B ((o.set i w).take (i + 1)) + D.getD 0 0 % 2 ^ s = val B (D.take (i + 1)) + B ^ (i + 1) * (D.getD (i + 1) 0 % 2 ^ s):=fun w _ hw=>by
          rw [val_set_take (by omega),val_take_succ,← hxe,← hye]
          rw [← hxe] at h4
          exact right_step B (B ^ i) (2 ^ s) _ _ _ x y w _ h4 hw
        (refine zw ?_;refine s_cmp (fun h7=>?_) (fun h7=>?_))
        · repeat refine gO ?_
          have hget : ((U o).set (0 + (i : Int).toNat) ((x / 2 ^ s : Nat) : Int)).getD (0 + (i : Int).toNat) 0 = ((x / 2 ^ s : Nat) : Int):=by
            rw [ei,Nat.zero_add,U_set,U_get,getD_set (by omega),if_pos rfl]
          have e8 : ((i : Int) + 1).toNat = i + 1:=by omega
          rw [hget,e8,U_get,← hye,← hs]
          have hxs : x / 2 ^ s < 18446744073709551616:=Nat.lt_of_le_of_lt (Nat.div_le_self _ _) hx2
          (first | refine stp_shlN (y) (64 - s) (by exact rfl) (by exact rfl) (by first | exact True.intro | omega | (simp only [and_true,List.length_map,List.length_replicate,List.length_set,List.length_append,List.length_cons,List.length_nil,List.length_take,List.length_drop] at *;omega)) (by first | exact True.intro | omega | (simp only [and_true,List.length_map,List.length_replicate,List.length_set,List.length_append,List.length_cons,List.length_nil,List.length_take,List.length_drop] at *;omega)) ?_ | refine aw_cons (stp_shlN (y) (64 - s) (by exact rfl) (by exact rfl) (by first | exact True.intro | omega | (simp only [and_true,List.length_map,List.length_replicate,List.length_set,List.length_append,List.length_cons,List.length_nil,List.length_take,List.length_drop] at *;omega)) (by first | exact True.intro | omega | (simp only [and_true,List.length_map,List.length_replicate,List.length_set,List.length_append,List.length_cons,List.length_nil,List.length_take,List.length_drop] at *;omega)) ?_) | refine aOps_cons (stp_shlN (y) (64 - s) (by exact rfl) (by exact rfl) (by first | exact True.intro | omega | (simp only [and_true,List.length_map,List.length_replicate,List.length_set,List.length_append,List.length_cons,List.length_nil,List.length_take,List.length_drop] at *;omega)) (by first | exact True.intro | omega | (simp only [and_true,List.length_map,List.length_replicate,List.length_set,List.length_append,List.length_cons,List.length_nil,List.length_take,List.length_drop] at *;omega)) ?_))
          repeat refine gO ?_
          (first | refine stp_orN (x / 2 ^ s) (y * 2 ^ (64 - s) % 18446744073709551616) (by exact rfl) (by exact rfl) (by first | exact True.intro | omega | (simp only [and_true,List.length_map,List.length_replicate,List.length_set,List.length_append,List.length_cons,List.length_nil,List.length_take,List.length_drop] at *;omega)) (by first | exact True.intro | omega | (simp only [and_true,List.length_map,List.length_replicate,List.length_set,List.length_append,List.length_cons,List.length_nil,List.length_take,List.length_drop] at *;omega)) (by first | exact True.intro | omega | (simp only [and_true,List.length_map,List.length_replicate,List.length_set,List.length_append,List.length_cons,List.length_nil,List.length_take,List.length_drop] at *;omega)) (by first | exact True.intro | omega | (simp only [and_true,List.length_map,List.length_replicate,List.length_set,List.length_append,List.length_cons,List.length_nil,List.length_take,List.length_drop] at *;omega)) ?_ | refine aw_cons (stp_orN (x / 2 ^ s) (y * 2 ^ (64 - s) % 18446744073709551616) (by exact rfl) (by exact rfl) (by first | exact True.intro | omega | (simp only [and_true,List.length_map,List.length_replicate,List.length_set,List.length_append,List.length_cons,List.length_nil,List.length_take,List.length_drop] at *;omega)) (by first | exact True.intro | omega | (simp only [and_true,List.length_map,List.length_replicate,List.length_set,List.length_append,List.length_cons,List.length_nil,List.length_take,List.length_drop] at *;omega)) (by first | exact True.intro | omega | (simp only [and_true,List.length_map,List.length_replicate,List.length_set,List.length_append,List.length_cons,List.length_nil,List.length_take,List.length_drop] at *;omega)) (by first | exact True.intro | omega | (simp only [and_true,List.length_map,List.length_replicate,List.length_set,List.length_append,List.length_cons,List.length_nil,List.length_take,List.length_drop] at *;omega)) ?_) | refine aOps_cons (stp_orN (x / 2 ^ s) (y * 2 ^ (64 - s) % 18446744073709551616) (by exact rfl) (by exact rfl) (by first | exact True.intro | omega | (simp only [and_true,List.length_map,List.length_replicate,List.length_set,List.length_append,List.length_cons,List.length_nil,List.length_take,List.length_drop] at *;omega)) (by first | exact True.intro | omega | (simp only [and_true,List.length_map,List.length_replicate,List.length_set,List.length_append,List.length_cons,List.length_nil,List.length_take,List.length_drop] at *;omega)) (by first | exact True.intro | omega | (simp only [and_true,List.length_map,List.length_replicate,List.length_set,List.length_append,List.length_cons,List.length_nil,List.length_take,List.length_drop] at *;omega)) (by first | exact True.intro | omega | (simp only [and_true,List.length_map,List.length_replicate,List.length_set,List.length_append,List.length_cons,List.length_nil,List.length_take,List.length_drop] at *;omega)) ?_))
          repeat refine gO ?_
          obtain ⟨w,hw⟩ : ∃ w,w = (x / 2 ^ s ||| y * 2 ^ (64 - s) % 18446744073709551616):=⟨_,rfl⟩
          rw [← hw] at q1 q2 ⊢
          exact ⟨i + 1,o.set i w,frz hS rfl ⟨.inl ⟨_,ov_of lks,kO (by rw [ei,Nat.zero_add,List.set_set];exact U_set _ _ _)⟩,trivial⟩ ⟨⟨_,rfl,kU rfl⟩,⟨_,rfl,kN rfl⟩,⟨_,rfl,kS⟩,⟨_,rfl,kWin (by simp [ov,lkS]) rfl rfl rfl⟩,⟨_,rfl,kU rfl⟩,⟨_,rfl,kN rfl⟩,⟨_,rfl,kN rfl⟩,trivial⟩,⟨by omega,by simpa using h2,rng_set h3' q1,fin w q1 q2⟩,by omega⟩
        · repeat refine gO ?_
          have hy0 : y = 0:=by rw [hye,List.getD_eq_getElem?_getD,List.getElem?_eq_none (by omega)];rfl
          rw [hy0,Nat.zero_mul,Nat.zero_mod,Nat.or_zero] at q1 q2
          exact ⟨i + 1,o.set i (x / 2 ^ s),frz hS rfl ⟨.inl ⟨_,ov_of lks,kO (by rw [ei,Nat.zero_add];exact U_set _ _ _)⟩,trivial⟩ ⟨⟨_,rfl,kU rfl⟩,⟨_,rfl,kN rfl⟩,⟨_,rfl,kS⟩,⟨_,rfl,kWin (by simp [ov,lkS]) rfl rfl rfl⟩,⟨_,rfl,kU rfl⟩,⟨_,rfl,kN rfl⟩,⟨_,rfl,kN rfl⟩,trivial⟩,⟨by omega,by simpa using h2,rng_set h3' q1,fin _ q1 (by rw [hy0];exact q2)⟩,by omega⟩
      · repeat refine gO ?_
        have hi : i = d:=by omega
        subst hi
        refine aw_weak ⟨lk' [(90,us o),(7,bvl (decide (p % 2 ^ n ≠ 0)))],ov [] (pushS S)⟩ ?_ ?_
        · refine frz hS rfl trivial ⟨⟨_,rfl,kW (ov_of lks) rfl (by omega) ?_⟩,⟨_,rfl,kS⟩,trivial⟩
          rw [List.drop_zero,U_take,take_all (by omega)]
        (refine zw ?_;refine s_call (c_trim o h3' (by omega)) ?_)
        repeat refine gO ?_
        refine eF hS ?_ (fl':=[(4,us (digs B (p / 2 ^ n))),(5,bvl (decide (p % 2 ^ n ≠ 0)))])
        refine ⟨⟨_,rfl,kU ?_⟩,⟨_,rfl,kS⟩,trivial⟩
        rw [take_all (by omega),take_all (by omega),show D.getD i 0 = 0 by rw [List.getD_eq_getElem?_getD,List.getElem?_eq_none (by omega)];rfl,Nat.zero_mod,Nat.mul_zero,Nat.add_zero] at h4
        congr 1
        rw [hn2,← hk',← Nat.div_div_eq_div_mul,hsplit,Nat.add_mul_div_left _ _ (Nat.pow_pos (by decide)),Nat.div_eq_of_lt hVlt,Nat.zero_add,← h4,Nat.mul_add_div hsp,Nat.div_eq_of_lt (Nat.mod_lt _ hsp),Nat.add_zero]
end Go.Proofs

/-
  big: whole numbers behind pointers: put, Sign, Clone, NewInt.
-/
namespace Go.Proofs
open Go Go.Abs Go.Nums
attribute [local irreducible] thenA blockA awp aw Stp EndF EndP EndN aOps
set_option linter.unusedSimpArgs false

abbrev bL (n : Int) : List Leaf:=[.sc (.bool (decide (n < 0))),.ints .u64 (U (digs B n.natAbs))]
abbrev bp (n : Int) : AVal:=.c (.pim (bL n))
abbrev tBig : TypeId:=76
abbrev bo (n : Int) : AObj:=.cells tBig ((bL n).map Leaf.cell)
abbrev ptr (z : Nm) : AVal:=.c (.ptr z 0)
def sg (s : Bool) (v : Nat) : Int:=if s then -(v : Int) else v
theorem sg_abs (s : Bool) (v : Nat) : (sg s v).natAbs = v:=by cases s <;> simp [sg]
theorem sg_neg (s : Bool) (v : Nat) : decide (sg s v < 0) = (s && decide (0 < (digs B v).length)):=by
  have h : (digs B v).length = 0 ↔ v = 0:=by rw [List.length_eq_zero_iff];exact digs_nil hB
  have : decide (0 < (digs B v).length) = decide (0 < v):=by
    by_cases q : v = 0
    · rw [decide_eq_false (by rw [h.2 q];omega),decide_eq_false (by omega)]
    · rw [decide_eq_true (by have:=mt h.1 q;omega),decide_eq_true (by omega)]
  rw [this]
  cases s <;> simp [sg] <;> omega

theorem bo_eq {n : Int} {b : Bool} {l : List Nat} (h1 : b = decide (n < 0)) (h2 : l = digs B n.natAbs) : AObj.cells tBig (.sc (.bool b) :: .ints .u64 (U l) :: List.map Leaf.cell []) = bo n:=by subst h1;subst h2;rfl

theorem c_put (z : Nm) (x y : Leaf) (s : Bool) (l : List Nat) (hl : rng B l) (hs : l.length < 2 ^ 62) :
    AProc Tryz.prog 89 [ptr z,bvl s,us l] [(z,.cells tBig ([x,y].map Leaf.cell))] [(z,bo (sg s (val B l)))] (ptr z):=by
  (refine aproc1 (mu:=muF) Tryz.func89 rfl (by decide) rfl (by decide) (Nat.le_of_ble_eq_true rfl) (by simp [AVal.at,AVal.at1,Cell.at]) (by simp [AVal.at,AVal.at1,Cell.at]) (by simp [AVal.at,AVal.at1,Cell.at]) nmX nmX fun S hS=>?_;simp only [List.map_cons,List.map_nil,AVal.map,AVal.map1,Cell.map])
  repeat refine gO ?_
  (refine zw ?_;refine s_call (c_trim l hl hs) ?_)
  have hU:=U_len (digs B (val B l))
  have e1:=sg_neg s (val B l)
  have e2:=sg_abs s (val B l)
  cases s with
  | false =>
    repeat refine gO ?_
    (refine endP1 ttOk (fl':=[(6,ptr (.out z))]) (.inr rfl) hS lks nmX (by intro m hm;simp [lkS,addL,delL,Nm.isLoc,hm]) ?_ ?_ (by exact rfl) (by exact rfl) (by exact rfl))
    · exact bo_eq e1.symm (by rw [e2])
    · (repeat' (first | refine fJ ?_ ?_ | exact True.intro);all_goals (try (first | exact kv | (refine kW (ov_of lks) rfl ?_ ?_))))
  | true =>
    repeat refine gO ?_
    (refine zw ?_;refine s_cmp (fun h=>?_) (fun h=>?_))
    · repeat refine gO ?_
      (refine endP1 ttOk (fl':=[(6,ptr (.out z))]) (.inr rfl) hS lks nmX (by intro m hm;simp [lkS,addL,delL,Nm.isLoc,hm]) ?_ ?_ (by exact rfl) (by exact rfl) (by exact rfl))
      · exact bo_eq (by rw [e1,decide_eq_true (show 0 < (digs B (val B l)).length by omega)];rfl) (by rw [e2])
      · (repeat' (first | refine fJ ?_ ?_ | exact True.intro);all_goals (try (first | exact kv | (refine kW (ov_of lks) rfl ?_ ?_))))
    · repeat refine gO ?_
      (refine endP1 ttOk (fl':=[(6,ptr (.out z))]) (.inr rfl) hS lks nmX (by intro m hm;simp [lkS,addL,delL,Nm.isLoc,hm]) ?_ ?_ (by exact rfl) (by exact rfl) (by exact rfl))
      · exact bo_eq (by rw [e1,decide_eq_false (show ¬ 0 < (digs B (val B l)).length by omega)];rfl) (by rw [e2])
      · (repeat' (first | refine fJ ?_ ?_ | exact True.intro);all_goals (try (first | exact kv | (refine kW (ov_of lks) rfl ?_ ?_))))

theorem c_putD (z : Nm) (x y : Leaf) (s : Bool) (p : Nat) (hs : (digs B p).length < 2 ^ 62) :
    AProc Tryz.prog 89 [ptr z,bvl s,us (digs B p)] [(z,.cells tBig ([x,y].map Leaf.cell))] [(z,bo (sg s p))] (ptr z):=by
  have h:=c_put z x y s (digs B p) (rng_digs hB _) hs
  rw [val_digs hB] at h
  exact h

theorem digs_mul_le (n m : Nat) : (digs B (n * m)).length ≤ (digs B n).length + (digs B m).length:=digs_mul_le' hB n m
theorem digs_add_le (n m : Nat) : (digs B (n + m)).length ≤ max (digs B n).length (digs B m).length + 1:=digs_add_le' hB n m
theorem digs_one : digs B 1 = [1]:=by rw [digs_pos hB (by decide),show 1 / B = 0 from rfl,digs_zero];rfl
theorem rng1 {m : Nat} (h : m < 18446744073709551616) : rng B [m]:=by intro x hx;simp only [List.mem_singleton] at hx;subst hx;exact h

theorem c_sign (n : Int) : AFun Tryz.prog 95 [bp n] (ivl .i64 (Int.sign n)):=by
  refine aF (mu:=muF) Tryz.func95 fun S hS=>?_
  have hU:=U_len (digs B n.natAbs)
  have h0 : (digs B n.natAbs).length = 0 ↔ n.natAbs = 0:=by rw [List.length_eq_zero_iff];exact digs_nil hB
  repeat refine gO ?_
  (refine zw ?_;refine s_cmp (fun h=>?_) (fun h=>?_))
  · have : n = 0:=by have:=h0.1 (by omega);omega
    subst this
    repeat refine gO ?_
    (refine eF hS ?_ (fl':=[(2,ivl .i64 (Int.sign 0))]);(repeat' (first | refine fJ ?_ ?_ | exact True.intro);all_goals (try (first | exact kv | (refine kW (ov_of lks) rfl ?_ ?_)))))
  · have hn : n ≠ 0:=fun q=>h (by have:=h0.2 (by omega);omega)
    repeat refine gO ?_
    refine awp_if (by exact rfl) (fun g=>?_) (fun g=>?_)
    · repeat refine gO ?_
      (refine eF hS ?_ (fl':=[(2,ivl .i64 (Int.sign n))]);(repeat' (first | refine fJ ?_ ?_ | exact True.intro);all_goals (try (first | exact kv | (refine kW (ov_of lks) rfl ?_ ?_)))))
      exact kN (Int.sign_eq_neg_one_of_neg (by simpa using g)).symm
    · repeat refine gO ?_
      (refine eF hS ?_ (fl':=[(2,ivl .i64 (Int.sign n))]);(repeat' (first | refine fJ ?_ ?_ | exact True.intro);all_goals (try (first | exact kv | (refine kW (ov_of lks) rfl ?_ ?_)))))
      exact kN (Int.sign_eq_one_of_pos (by have : ¬ n < 0:=by simpa using g
                                           omega)).symm

theorem c_clone (l : List Nat) (hl : l.length < 2 ^ 43) : AFun Tryz.prog 140 [us l] (us l):=by
  refine aF (mu:=muF) Tryz.func140 fun S hS=>?_
  have hU:=U_len l
  repeat refine gO ?_
  refine aw_isnil ttOk false (fun h=>?_) ?_
  · have : l = []:=by cases l <;> simp [U] at h ⊢
    subst this
    repeat refine gO ?_
    (refine eF hS ?_ (fl':=[(2,us [])]);(repeat' (first | refine fJ ?_ ?_ | exact True.intro);all_goals (try (first | exact kv | (refine kW (ov_of lks) rfl ?_ ?_)))))
  · repeat refine gO ?_
    (refine zw ?_;refine s_intsA ttOk ?_)
    repeat refine gO ?_
    (refine zw ?_;refine s_app8 ttOk (Y:=U l) srcE_ints ?_ ?_;(· simp only [List.length_append,List.length_nil,List.length_cons] at *;omega))
    repeat refine gO ?_
    (refine eF hS ?_ (fl':=[(2,us l)]);(repeat' (first | refine fJ ?_ ?_ | exact True.intro);all_goals (try (first | exact kv | (refine kW (ov_of lks) rfl ?_ ?_)))))
    exact kAcc (ov_of lks) rfl rfl

theorem c_setint (z : Nm) (x y : Leaf) (n : Int) (h1 : -9223372036854775808 ≤ n) (h2 : n < 9223372036854775808) :
    AProc Tryz.prog 101 [ptr z,ivl .i64 n] [(z,.cells tBig ([x,y].map Leaf.cell))] [(z,bo n)] (ptr z):=by
  (refine aproc1 (mu:=muF) Tryz.func101 rfl (by decide) rfl (by decide) (Nat.le_of_ble_eq_true rfl) (by simp [AVal.at,AVal.at1,Cell.at]) (by simp [AVal.at,AVal.at1,Cell.at]) (by simp [AVal.at,AVal.at1,Cell.at]) nmX nmX fun S hS=>?_;simp only [List.map_cons,List.map_nil,AVal.map,AVal.map1,Cell.map])
  by_cases hn : 0 ≤ n
  · obtain ⟨m,rfl⟩:=Int.eq_ofNat_of_zero_le hn
    repeat refine gO ?_
    (refine zw ?_;refine s_cmp (fun h=>?_) (fun h=>?_))
    · exact absurd h (by omega)
    repeat refine gO ?_
    (refine zw ?_;refine s_cmp (fun h=>?_) (fun h=>?_))
    · exact absurd h (by omega)
    repeat refine gO ?_
    refine aw_weak ⟨lk' [(12,ptr (.out z)),(14,bvl false),(16,us [m])],ov [(.out z,.cells tBig ([x,y].map Leaf.cell))] (pushS S)⟩ ?_ ?_
    · (refine fz hS ?_ ?_;all_goals (repeat' (first | refine fJ ?_ ?_ | exact True.intro));all_goals (try (first | exact kv | (refine kW (ov_of lks) rfl ?_ ?_))))
      · simp
      · rfl
    (refine zw ?_;refine s_proc (c_put (.out z) x y false [m] (rng1 (by omega)) (by simp)) ?_ (by intro p hp;first | (simp only [List.mem_singleton] at hp;subst hp;exact lks) | (simp only [List.mem_cons,List.not_mem_nil,or_false] at hp;rcases hp with rfl | rfl <;> exact lks)))
    repeat refine gO ?_
    (refine endP1 ttOk (fl':=[(4,ptr (.out z))]) (.inr rfl) hS lks nmX (by intro m hm;simp [lkS,addL,delL,Nm.isLoc,hm]) ?_ ?_ (by exact rfl) (by exact rfl) (by exact rfl))
    · rw [show sg false (val B [m]) = (m : Int) by simp [sg,val]]
    · (repeat' (first | refine fJ ?_ ?_ | exact True.intro);all_goals (try (first | exact kv | (refine kW (ov_of lks) rfl ?_ ?_))))
  · obtain ⟨m,hm⟩ : ∃ m : Nat,n = -(m : Int):=⟨n.natAbs,by omega⟩
    repeat refine gO ?_
    (refine zw ?_;refine stp_pure ttOk false (by exact rfl) (by first | exact True.intro | omega | (simp only [and_true,List.length_map,List.length_replicate,List.length_set,List.length_append,List.length_cons,List.length_nil,List.length_take,List.length_drop] at *;omega)) ?_)
    rw [wrap_u64i]
    repeat refine gO ?_
    (refine zw ?_;refine s_cmp (fun h=>?_) (fun h=>?_))
    rotate_left
    · exact absurd h (by omega)
    repeat refine gO ?_
    (refine zw ?_;refine stp_pure ttOk false (by exact rfl) (by first | exact True.intro | omega | (simp only [and_true,List.length_map,List.length_replicate,List.length_set,List.length_append,List.length_cons,List.length_nil,List.length_take,List.length_drop] at *;omega)) ?_)
    rw [wrap_u64i]
    repeat refine gO ?_
    (refine zw ?_;refine s_cmp (fun h=>?_) (fun h=>?_))
    rotate_left
    · exact absurd h (by omega)
    repeat refine gO ?_
    refine aw_weak ⟨lk' [(12,ptr (.out z)),(14,bvl true),(16,us [m])],ov [(.out z,.cells tBig ([x,y].map Leaf.cell))] (pushS S)⟩ ?_ ?_
    · (refine fz hS ?_ ?_;all_goals (repeat' (first | refine fJ ?_ ?_ | exact True.intro));all_goals (try (first | exact kv | (refine kW (ov_of lks) rfl ?_ ?_))))
      · simp
      · simp [U];omega
    (refine zw ?_;refine s_proc (c_put (.out z) x y true [m] (rng1 (by omega)) (by simp)) ?_ (by intro p hp;first | (simp only [List.mem_singleton] at hp;subst hp;exact lks) | (simp only [List.mem_cons,List.not_mem_nil,or_false] at hp;rcases hp with rfl | rfl <;> exact lks)))
    repeat refine gO ?_
    (refine endP1 ttOk (fl':=[(4,ptr (.out z))]) (.inr rfl) hS lks nmX (by intro m hm;simp [lkS,addL,delL,Nm.isLoc,hm]) ?_ ?_ (by exact rfl) (by exact rfl) (by exact rfl))
    · rw [show sg true (val B [m]) = n by simp [sg,val];omega]
    · (repeat' (first | refine fJ ?_ ?_ | exact True.intro);all_goals (try (first | exact kv | (refine kW (ov_of lks) rfl ?_ ?_))))

theorem c_newint (n : Int) (h1 : -9223372036854775808 ≤ n) (h2 : n < 9223372036854775808) : ANew Tryz.prog 54 [ivl .i64 n] tBig (bL n):=by
  refine anew (mu:=muF) Tryz.func54 rfl (by decide) rfl (by decide) (Nat.le_of_ble_eq_true rfl) (by simp [nm0,AVal.at,AVal.at1,Cell.at]) fun S hS=>?_
  repeat refine gO ?_
  (refine zw ?_;refine s_proc (c_setint (.loc 3) (.sc (.bool false)) (.sc (.slice none 0 0)) n h1 h2) ?_ (by intro p hp;first | (simp only [List.mem_singleton] at hp;subst hp;exact lks) | (simp only [List.mem_cons,List.not_mem_nil,or_false] at hp;rcases hp with rfl | rfl <;> exact lks)))
  repeat refine gO ?_
  (refine endN ttOk (l:=(.loc 3)) (fl':=[(2,ptr (.loc 3))]) (.inr rfl) hS (by exact rfl) (by exact rfl) ?_ ?_ (by exact rfl);all_goals (repeat' (first | refine fJ ?_ ?_ | exact True.intro);all_goals (try (first | exact kv | (refine kW (ov_of lks) rfl ?_ ?_)))))
end Go.Proofs

/-
  big: Neg, Abs, Mul, Add, Sub, Lsh, Rsh.
-/
namespace Go.Proofs
open Go Go.Abs Go.Nums
attribute [local irreducible] thenA blockA awp aw Stp EndF EndP EndN aOps
set_option linter.unusedSimpArgs false

inductive BArg (z : Nm) (a b : Leaf) : AVal→Int→Prop
  | im (n : Int) : BArg z a b (bp n) n
  | self (n : Int) (h1 : a = .sc (.bool (decide (n < 0)))) (h2 : b = .ints .u64 (U (digs B n.natAbs))) : BArg z a b (ptr z) n

theorem leaf_inj {n m : Int} (h1 : Leaf.sc (.bool (decide (n < 0))) = Leaf.sc (.bool (decide (m < 0)))) (h2 : Leaf.ints .u64 (U (digs B n.natAbs)) = Leaf.ints .u64 (U (digs B m.natAbs))) : n = m:=by
  simp only [Leaf.sc.injEq,Value.bool.injEq] at h1
  simp only [Leaf.ints.injEq,true_and] at h2
  have h2:=digs_inj hB (U_inj h2)
  have h1:=decide_eq_decide.1 h1
  omega

theorem sg_not (n : Int) : sg (!decide (n < 0)) n.natAbs = -n:=by
  by_cases h : n < 0 <;> simp [sg,h] <;> omega
theorem sg_same (n : Int) : sg (decide (n < 0)) n.natAbs = n:=by
  by_cases h : n < 0 <;> simp [sg,h] <;> omega
theorem sg_mul (n m : Int) : sg (decide (n < 0) != decide (m < 0)) (n.natAbs * m.natAbs) = n * m:=by
  have e : n * m = (if n < 0 then -(n.natAbs : Int) else n.natAbs) * (if m < 0 then -(m.natAbs : Int) else m.natAbs):=by congr 1 <;> split <;> omega
  rw [e]
  by_cases h1 : n < 0 <;> by_cases h2 : m < 0 <;> simp [sg,h1,h2,Int.neg_mul,Int.mul_neg]
theorem c_neg (z : Nm) (a b : Leaf) (xv : AVal) (n : Int) (hx : BArg z a b xv n) (hn : (digs B n.natAbs).length < 2 ^ 43) :
    AProc Tryz.prog 99 [ptr z,xv] [(z,.cells tBig ([a,b].map Leaf.cell))] [(z,bo (-n))] (ptr z):=by
  rcases hx with _ | ⟨_,rfl,rfl⟩ <;>
  · (refine aproc1 (mu:=muF) Tryz.func99 rfl (by decide) rfl (by decide) (Nat.le_of_ble_eq_true rfl) (by simp [AVal.at,AVal.at1,Cell.at]) (by simp [AVal.at,AVal.at1,Cell.at]) (by simp [AVal.at,AVal.at1,Cell.at]) nmX nmX fun S hS=>?_;simp only [List.map_cons,List.map_nil,AVal.map,AVal.map1,Cell.map])
    repeat refine gO ?_
    (refine zw ?_;refine s_call (c_clone (digs B n.natAbs) hn) ?_)
    (refine zw ?_;refine s_proc (c_putD (.out z) _ _ (!decide (n < 0)) n.natAbs (by omega)) ?_ (by intro p hp;first | (simp only [List.mem_singleton] at hp;subst hp;exact lks) | (simp only [List.mem_cons,List.not_mem_nil,or_false] at hp;rcases hp with rfl | rfl <;> exact lks)))
    repeat refine gO ?_
    (refine endP1 ttOk (fl':=[(4,ptr (.out z))]) (.inr rfl) hS lks nmX (by intro m hm;simp [lkS,addL,delL,Nm.isLoc,hm]) ?_ ?_ (by exact rfl) (by exact rfl) (by exact rfl))
    · rw [sg_not]
    · (repeat' (first | refine fJ ?_ ?_ | exact True.intro);all_goals (try (first | exact kv | (refine kW (ov_of lks) rfl ?_ ?_))))

theorem c_abs (z : Nm) (a b : Leaf) (xv : AVal) (n : Int) (hx : BArg z a b xv n) (hn : (digs B n.natAbs).length < 2 ^ 43) :
    AProc Tryz.prog 137 [ptr z,xv] [(z,.cells tBig ([a,b].map Leaf.cell))] [(z,bo n.natAbs)] (ptr z):=by
  rcases hx with _ | ⟨_,rfl,rfl⟩ <;>
  · (refine aproc1 (mu:=muF) Tryz.func137 rfl (by decide) rfl (by decide) (Nat.le_of_ble_eq_true rfl) (by simp [AVal.at,AVal.at1,Cell.at]) (by simp [AVal.at,AVal.at1,Cell.at]) (by simp [AVal.at,AVal.at1,Cell.at]) nmX nmX fun S hS=>?_;simp only [List.map_cons,List.map_nil,AVal.map,AVal.map1,Cell.map])
    repeat refine gO ?_
    (refine zw ?_;refine s_call (c_clone (digs B n.natAbs) hn) ?_)
    repeat refine gO ?_
    (refine zw ?_;refine s_proc (c_putD (.out z) _ _ false n.natAbs (by omega)) ?_ (by intro p hp;first | (simp only [List.mem_singleton] at hp;subst hp;exact lks) | (simp only [List.mem_cons,List.not_mem_nil,or_false] at hp;rcases hp with rfl | rfl <;> exact lks)))
    repeat refine gO ?_
    (refine endP1 ttOk (fl':=[(4,ptr (.out z))]) (.inr rfl) hS lks nmX (by intro m hm;simp [lkS,addL,delL,Nm.isLoc,hm]) ?_ ?_ (by exact rfl) (by exact rfl) (by exact rfl))
    · rfl
    · (repeat' (first | refine fJ ?_ ?_ | exact True.intro);all_goals (try (first | exact kv | (refine kW (ov_of lks) rfl ?_ ?_))))

theorem c_mul (z : Nm) (a b : Leaf) (xv yv : AVal) (n m : Int) (hx : BArg z a b xv n) (hy : BArg z a b yv m) (hn : (digs B n.natAbs).length < 2 ^ 39) (hm : (digs B m.natAbs).length < 2 ^ 39) :
    AProc Tryz.prog 44 [ptr z,xv,yv] [(z,.cells tBig ([a,b].map Leaf.cell))] [(z,bo (n * m))] (ptr z):=by
  have hl:=digs_mul_le n.natAbs m.natAbs
  rcases hx with _ | ⟨_,rfl,rfl⟩ <;> rcases hy with _ | ⟨_,e1,e2⟩ <;> (try (obtain rfl:=leaf_inj e1 e2)) <;> (try subst e1) <;> (try subst e2) <;>
  · (refine aproc1 (mu:=muF) Tryz.func44 rfl (by decide) rfl (by decide) (Nat.le_of_ble_eq_true rfl) (by simp [AVal.at,AVal.at1,Cell.at]) (by simp [AVal.at,AVal.at1,Cell.at]) (by simp [AVal.at,AVal.at1,Cell.at]) nmX nmX fun S hS=>?_;simp only [List.map_cons,List.map_nil,AVal.map,AVal.map1,Cell.map])
    repeat refine gO ?_
    (refine zw ?_;refine s_call (c_times _ _ hn hm) ?_)
    (refine zw ?_;refine s_proc (c_putD (.out z) _ _ _ _ (Nat.lt_of_le_of_lt hl (by omega))) ?_ (by intro p hp;first | (simp only [List.mem_singleton] at hp;subst hp;exact lks) | (simp only [List.mem_cons,List.not_mem_nil,or_false] at hp;rcases hp with rfl | rfl <;> exact lks)))
    repeat refine gO ?_
    (refine endP1 ttOk (fl':=[(6,ptr (.out z))]) (.inr rfl) hS lks nmX (by intro m hm;simp [lkS,addL,delL,Nm.isLoc,hm]) ?_ ?_ (by exact rfl) (by exact rfl) (by exact rfl))
    · rw [← sg_mul]
    · (repeat' (first | refine fJ ?_ ?_ | exact True.intro);all_goals (try (first | exact kv | (refine kW (ov_of lks) rfl ?_ ?_))))

theorem shr_neg (n k : Nat) (h : n % 2 ^ k ≠ 0) : (-(n : Int)) / 2 ^ k = -((n / 2 ^ k + 1 : Nat) : Int):=by
  have hp : (0 : Int) < 2 ^ k:=Int.pow_pos (by decide)
  have hd:=Nat.div_add_mod n (2 ^ k)
  have hm:=Nat.mod_lt n (Nat.two_pow_pos k)
  have e : ((2 ^ k : Nat) : Int) = 2 ^ k:=by simp
  obtain ⟨q,hq⟩ : ∃ q,q = n / 2 ^ k:=⟨_,rfl⟩
  obtain ⟨r,hr⟩ : ∃ r,r = n % 2 ^ k:=⟨_,rfl⟩
  rw [← hq,← hr] at hd
  rw [← hr] at hm h
  rw [← hq]
  have hd' : ((2 ^ k : Nat) : Int) * q + r = n:=by rw [← hd];simp
  rw [e] at hd'
  have e2 : -(n : Int) = ((2 ^ k - r : Nat) : Int) + -((q + 1 : Nat) : Int) * 2 ^ k:=by
    rw [← hd',Int.natCast_add q 1,Int.neg_mul,Int.add_mul,Int.mul_comm (q : Int)]
    omega
  rw [e2,Int.add_mul_ediv_right _ _ (by omega),Int.ediv_eq_zero_of_lt (by omega) (by rw [← e];omega),Int.zero_add]
theorem shr_neg0 (n k : Nat) (h : n % 2 ^ k = 0) : (-(n : Int)) / 2 ^ k = -((n / 2 ^ k : Nat) : Int):=by
  have hp : (0 : Int) < 2 ^ k:=Int.pow_pos (by decide)
  have hd:=Nat.div_add_mod n (2 ^ k)
  rw [h,Nat.add_zero] at hd
  obtain ⟨q,hq⟩ : ∃ q,q = n / 2 ^ k:=⟨_,rfl⟩
  rw [← hq] at hd ⊢
  have e2 : -(n : Int) = -(q : Int) * 2 ^ k:=by
    rw [← hd];simp [Int.neg_mul,Int.mul_comm]
  rw [e2,Int.mul_ediv_cancel _ (by omega)]
theorem shr_pos (n k : Nat) : (n : Int) / 2 ^ k = ((n / 2 ^ k : Nat) : Int):=by simp

theorem c_rsh (z : Nm) (a b : Leaf) (xv : AVal) (n : Int) (k : Nat) (hx : BArg z a b xv n) (hn : (digs B n.natAbs).length < 2 ^ 38) (hk : k < 2 ^ 63) :
    AProc Tryz.prog 165 [ptr z,xv,uv k] [(z,.cells tBig ([a,b].map Leaf.cell))] [(z,bo (n / 2 ^ k))] (ptr z):=by
  have hl : (digs B (n.natAbs / 2 ^ k)).length ≤ (digs B n.natAbs).length:=len_mono hB (Nat.div_le_self _ _)
  have hl1:=digs_add_le (n.natAbs / 2 ^ k) 1
  have hl2 : (digs B 1).length ≤ 1:=by rw [digs_len hB];decide
  rcases hx with _ | ⟨_,rfl,rfl⟩ <;>
  · (refine aproc1 (mu:=muF) Tryz.func165 rfl (by decide) rfl (by decide) (Nat.le_of_ble_eq_true rfl) (by simp [AVal.at,AVal.at1,Cell.at]) (by simp [AVal.at,AVal.at1,Cell.at]) (by simp [AVal.at,AVal.at1,Cell.at]) nmX nmX fun S hS=>?_;simp only [List.map_cons,List.map_nil,AVal.map,AVal.map1,Cell.map])
    repeat refine gO ?_
    (refine zw ?_;refine s_call (c_right _ k hn hk) ?_)
    repeat refine gO ?_
    by_cases h0 : n < 0
    · obtain ⟨m,hm⟩ : ∃ m : Nat,n = -(m : Int):=⟨n.natAbs,by omega⟩
      have hm2 : n.natAbs = m:=by omega
      rw [decide_eq_true h0]
      by_cases h1 : n.natAbs % 2 ^ k ≠ 0
      · rw [decide_eq_true h1]
        repeat refine gO ?_
        ((first | refine aw_fz 28 ?_ ?_ | refine awp_fz 28 ?_ ?_);rotate_left;· (repeat' (first | exact True.intro | refine And.intro ?_ ?_)) <;> first | (show _ ≤ _;simp;done) | (show _ ≤ _;simp;omega) | (show _ ≤ _;omega))
        have hp1:=c_plus (n.natAbs / 2 ^ k) 1 (by omega) (by omega)
        rw [digs_one] at hp1
        (refine zw ?_;refine s_call (hp1) ?_)
        repeat refine gO ?_
        (refine zw ?_;refine s_proc (c_putD (.out z) _ _ true _ (Nat.lt_of_le_of_lt hl1 (by omega))) ?_ (by intro p hp;first | (simp only [List.mem_singleton] at hp;subst hp;exact lks) | (simp only [List.mem_cons,List.not_mem_nil,or_false] at hp;rcases hp with rfl | rfl <;> exact lks)))
        repeat refine gO ?_
        (refine endP1 ttOk (fl':=[(6,ptr (.out z))]) (.inr rfl) hS lks nmX (by intro m hm;simp [lkS,addL,delL,Nm.isLoc,hm]) ?_ ?_ (by exact rfl) (by exact rfl) (by exact rfl))
        · rw [show sg true (n.natAbs / 2 ^ k + 1) = n / 2 ^ k by rw [hm2] at h1 ⊢;rw [hm,shr_neg m k h1];rfl]
        · (repeat' (first | refine fJ ?_ ?_ | exact True.intro);all_goals (try (first | exact kv | (refine kW (ov_of lks) rfl ?_ ?_))))
      · rw [decide_eq_false h1]
        repeat refine gO ?_
        (refine zw ?_;refine s_proc (c_putD (.out z) _ _ true _ (Nat.lt_of_le_of_lt hl (by omega))) ?_ (by intro p hp;first | (simp only [List.mem_singleton] at hp;subst hp;exact lks) | (simp only [List.mem_cons,List.not_mem_nil,or_false] at hp;rcases hp with rfl | rfl <;> exact lks)))
        repeat refine gO ?_
        (refine endP1 ttOk (fl':=[(6,ptr (.out z))]) (.inr rfl) hS lks nmX (by intro m hm;simp [lkS,addL,delL,Nm.isLoc,hm]) ?_ ?_ (by exact rfl) (by exact rfl) (by exact rfl))
        · rw [show sg true (n.natAbs / 2 ^ k) = n / 2 ^ k by rw [hm2] at h1 ⊢;rw [hm,shr_neg0 m k (by omega)];rfl]
        · (repeat' (first | refine fJ ?_ ?_ | exact True.intro);all_goals (try (first | exact kv | (refine kW (ov_of lks) rfl ?_ ?_))))
    · obtain ⟨m,rfl⟩:=Int.eq_ofNat_of_zero_le (show 0 ≤ n by omega)
      rw [decide_eq_false h0]
      repeat refine gO ?_
      (refine zw ?_;refine s_proc (c_putD (.out z) _ _ false _ (Nat.lt_of_le_of_lt hl (by omega))) ?_ (by intro p hp;first | (simp only [List.mem_singleton] at hp;subst hp;exact lks) | (simp only [List.mem_cons,List.not_mem_nil,or_false] at hp;rcases hp with rfl | rfl <;> exact lks)))
      repeat refine gO ?_
      (refine endP1 ttOk (fl':=[(6,ptr (.out z))]) (.inr rfl) hS lks nmX (by intro m hm;simp [lkS,addL,delL,Nm.isLoc,hm]) ?_ ?_ (by exact rfl) (by exact rfl) (by exact rfl))
      · rw [Int.natAbs_natCast,shr_pos];rfl
      · (repeat' (first | refine fJ ?_ ?_ | exact True.intro);all_goals (try (first | exact kv | (refine kW (ov_of lks) rfl ?_ ?_))))
end Go.Proofs

/-
  big: Add, Sub.
-/
namespace Go.Proofs
open Go Go.Abs Go.Nums
attribute [local irreducible] thenA blockA awp aw Stp EndF EndP EndN aOps
set_option linter.unusedSimpArgs false

theorem cmpN_ge (a b : Nat) : 0 ≤ cmpN a b ↔ b ≤ a:=by
  unfold cmpN;split
  · omega
  · split <;> omega
theorem beq_dec {p q : Prop} [Decidable p] [Decidable q] : (decide p == decide q) = true ↔ (p ↔ q):=by
  by_cases h1 : p <;> by_cases h2 : q <;> simp [h1,h2]
theorem bne_dec {p q : Prop} [Decidable p] [Decidable q] : (decide p == decide q) = false ↔ ¬ (p ↔ q):=by
  by_cases h1 : p <;> by_cases h2 : q <;> simp [h1,h2]
theorem sg_add (n m : Int) (h : n < 0 ↔ m < 0) : sg (decide (n < 0)) (n.natAbs + m.natAbs) = n + m:=by
  by_cases h1 : n < 0 <;> simp [sg,h1] <;> omega
theorem sg_sub (n m : Int) (h : ¬ (n < 0 ↔ m < 0)) (hl : m.natAbs ≤ n.natAbs) : sg (decide (n < 0)) (n.natAbs - m.natAbs) = n + m:=by
  by_cases h1 : n < 0 <;> simp [sg,h1] <;> omega
theorem sg_sub2 (n m : Int) (h : ¬ (n < 0 ↔ m < 0)) (hl : n.natAbs ≤ m.natAbs) : sg (decide (m < 0)) (m.natAbs - n.natAbs) = n + m:=by
  by_cases h1 : m < 0 <;> simp [sg,h1] <;> omega

theorem c_add (z : Nm) (a b : Leaf) (xv yv : AVal) (n m : Int) (hx : BArg z a b xv n) (hy : BArg z a b yv m) (hn : (digs B n.natAbs).length < 2 ^ 40) (hm : (digs B m.natAbs).length < 2 ^ 40) :
    AProc Tryz.prog 43 [ptr z,xv,yv] [(z,.cells tBig ([a,b].map Leaf.cell))] [(z,bo (n + m))] (ptr z):=by
  have hl:=digs_add_le n.natAbs m.natAbs
  have hs1 : (digs B (n.natAbs - m.natAbs)).length ≤ (digs B n.natAbs).length:=len_mono hB (Nat.sub_le _ _)
  have hs2 : (digs B (m.natAbs - n.natAbs)).length ≤ (digs B m.natAbs).length:=len_mono hB (Nat.sub_le _ _)
  rcases hx with _ | ⟨_,rfl,rfl⟩ <;> rcases hy with _ | ⟨_,e1,e2⟩ <;> (try (obtain rfl:=leaf_inj e1 e2)) <;> (try subst e1) <;> (try subst e2) <;>
  · (refine aproc1 (mu:=muF) Tryz.func43 rfl (by decide) rfl (by decide) (Nat.le_of_ble_eq_true rfl) (by simp [AVal.at,AVal.at1,Cell.at]) (by simp [AVal.at,AVal.at1,Cell.at]) (by simp [AVal.at,AVal.at1,Cell.at]) nmX nmX fun S hS=>?_;simp only [List.map_cons,List.map_nil,AVal.map,AVal.map1,Cell.map])
    repeat refine gO ?_
    refine awp_if (by exact rfl) (fun h=>?_) (fun h=>?_)
    · repeat refine gO ?_
      (refine zw ?_;refine s_call (c_plus _ _ hn hm) ?_)
      (refine zw ?_;refine s_proc (c_putD (.out z) _ _ _ _ (Nat.lt_of_le_of_lt hl (by omega))) ?_ (by intro p hp;first | (simp only [List.mem_singleton] at hp;subst hp;exact lks) | (simp only [List.mem_cons,List.not_mem_nil,or_false] at hp;rcases hp with rfl | rfl <;> exact lks)))
      repeat refine gO ?_
      (refine endP1 ttOk (fl':=[(6,ptr (.out z))]) (.inr rfl) hS lks nmX (by intro m hm;simp [lkS,addL,delL,Nm.isLoc,hm]) ?_ ?_ (by exact rfl) (by exact rfl) (by exact rfl))
      · rw [← sg_add _ _ (beq_dec.1 h)]
      · (repeat' (first | refine fJ ?_ ?_ | exact True.intro);all_goals (try (first | exact kv | (refine kW (ov_of lks) rfl ?_ ?_))))
    · repeat refine gO ?_
      (refine zw ?_;refine s_call (c_compare _ _ hn hm) ?_)
      (refine zw ?_;refine s_cmp (fun h2=>?_) (fun h2=>?_))
      · repeat refine gO ?_
        have h3:=(cmpN_ge _ _).1 h2
        (refine zw ?_;refine s_call (c_less _ _ hn h3) ?_)
        (refine zw ?_;refine s_proc (c_putD (.out z) _ _ _ _ (Nat.lt_of_le_of_lt hs1 (by omega))) ?_ (by intro p hp;first | (simp only [List.mem_singleton] at hp;subst hp;exact lks) | (simp only [List.mem_cons,List.not_mem_nil,or_false] at hp;rcases hp with rfl | rfl <;> exact lks)))
        repeat refine gO ?_
        (refine endP1 ttOk (fl':=[(6,ptr (.out z))]) (.inr rfl) hS lks nmX (by intro m hm;simp [lkS,addL,delL,Nm.isLoc,hm]) ?_ ?_ (by exact rfl) (by exact rfl) (by exact rfl))
        · rw [← sg_sub _ _ (bne_dec.1 h) h3]
        · (repeat' (first | refine fJ ?_ ?_ | exact True.intro);all_goals (try (first | exact kv | (refine kW (ov_of lks) rfl ?_ ?_))))
      · repeat refine gO ?_
        have h3:=Nat.le_of_lt (Nat.lt_of_not_le (mt (cmpN_ge _ _).2 h2))
        (refine zw ?_;refine s_call (c_less _ _ hm h3) ?_)
        (refine zw ?_;refine s_proc (c_putD (.out z) _ _ _ _ (Nat.lt_of_le_of_lt hs2 (by omega))) ?_ (by intro p hp;first | (simp only [List.mem_singleton] at hp;subst hp;exact lks) | (simp only [List.mem_cons,List.not_mem_nil,or_false] at hp;rcases hp with rfl | rfl <;> exact lks)))
        repeat refine gO ?_
        (refine endP1 ttOk (fl':=[(6,ptr (.out z))]) (.inr rfl) hS lks nmX (by intro m hm;simp [lkS,addL,delL,Nm.isLoc,hm]) ?_ ?_ (by exact rfl) (by exact rfl) (by exact rfl))
        · rw [← sg_sub2 _ _ (bne_dec.1 h) h3]
        · (repeat' (first | refine fJ ?_ ?_ | exact True.intro);all_goals (try (first | exact kv | (refine kW (ov_of lks) rfl ?_ ?_))))

theorem c_sub (z : Nm) (a b : Leaf) (xv yv : AVal) (n m : Int) (hx : BArg z a b xv n) (hy : yv = bp m) (hn : (digs B n.natAbs).length < 2 ^ 40) (hm : (digs B m.natAbs).length < 2 ^ 40) :
    AProc Tryz.prog 113 [ptr z,xv,yv] [(z,.cells tBig ([a,b].map Leaf.cell))] [(z,bo (n - m))] (ptr z):=by
  subst hy
  have hm2 : (digs B (-m).natAbs).length < 2 ^ 40:=by rw [Int.natAbs_neg];exact hm
  rcases hx with _ | ⟨_,rfl,rfl⟩
  · (refine aproc1 (mu:=muF) Tryz.func113 rfl (by decide) rfl (by decide) (Nat.le_of_ble_eq_true rfl) (by simp [AVal.at,AVal.at1,Cell.at]) (by simp [AVal.at,AVal.at1,Cell.at]) (by simp [AVal.at,AVal.at1,Cell.at]) nmX nmX fun S hS=>?_;simp only [List.map_cons,List.map_nil,AVal.map,AVal.map1,Cell.map])
    repeat refine gO ?_
    (refine zw ?_;refine s_proc (c_neg (.loc 9) (.sc (.bool false)) (.sc (.slice none 0 0)) _ m (.im m) (by omega)) ?_ (by intro p hp;first | (simp only [List.mem_singleton] at hp;subst hp;exact lks) | (simp only [List.mem_cons,List.not_mem_nil,or_false] at hp;rcases hp with rfl | rfl <;> exact lks)))
    repeat refine gO ?_
    ((first | refine aw_fz 9 ?_ ?_ | refine awp_fz 9 ?_ ?_);rotate_left;· (repeat' (first | exact True.intro | refine And.intro ?_ ?_)) <;> first | (show _ ≤ _;simp;done) | (show _ ≤ _;simp;omega) | (show _ ≤ _;omega))
    (refine zw ?_;refine s_proc (c_add (.out z) _ _ _ _ n (-m) (.im n) (.im (-m)) hn hm2) ?_ (by intro p hp;first | (simp only [List.mem_singleton] at hp;subst hp;exact lks) | (simp only [List.mem_cons,List.not_mem_nil,or_false] at hp;rcases hp with rfl | rfl <;> exact lks)))
    repeat refine gO ?_
    (refine endP1 ttOk (fl':=[(6,ptr (.out z))]) (.inr rfl) hS lks nmX (by intro m hm;simp [lkS,addL,delL,Nm.isLoc,hm]) ?_ ?_ (by exact rfl) (by exact rfl) (by exact rfl))
    · rw [Int.sub_eq_add_neg]
    · (repeat' (first | refine fJ ?_ ?_ | exact True.intro);all_goals (try (first | exact kv | (refine kW (ov_of lks) rfl ?_ ?_))))
  · (refine aproc1 (mu:=muF) Tryz.func113 rfl (by decide) rfl (by decide) (Nat.le_of_ble_eq_true rfl) (by simp [AVal.at,AVal.at1,Cell.at]) (by simp [AVal.at,AVal.at1,Cell.at]) (by simp [AVal.at,AVal.at1,Cell.at]) nmX nmX fun S hS=>?_;simp only [List.map_cons,List.map_nil,AVal.map,AVal.map1,Cell.map])
    repeat refine gO ?_
    (refine zw ?_;refine s_proc (c_neg (.loc 9) (.sc (.bool false)) (.sc (.slice none 0 0)) _ m (.im m) (by omega)) ?_ (by intro p hp;first | (simp only [List.mem_singleton] at hp;subst hp;exact lks) | (simp only [List.mem_cons,List.not_mem_nil,or_false] at hp;rcases hp with rfl | rfl <;> exact lks)))
    repeat refine gO ?_
    ((first | refine aw_fz 9 ?_ ?_ | refine awp_fz 9 ?_ ?_);rotate_left;· (repeat' (first | exact True.intro | refine And.intro ?_ ?_)) <;> first | (show _ ≤ _;simp;done) | (show _ ≤ _;simp;omega) | (show _ ≤ _;omega))
    (refine zw ?_;refine s_proc (c_add (.out z) _ _ _ _ n (-m) (.self n rfl rfl) (.im (-m)) hn hm2) ?_ (by intro p hp;first | (simp only [List.mem_singleton] at hp;subst hp;exact lks) | (simp only [List.mem_cons,List.not_mem_nil,or_false] at hp;rcases hp with rfl | rfl <;> exact lks)))
    repeat refine gO ?_
    (refine endP1 ttOk (fl':=[(6,ptr (.out z))]) (.inr rfl) hS lks nmX (by intro m hm;simp [lkS,addL,delL,Nm.isLoc,hm]) ?_ ?_ (by exact rfl) (by exact rfl) (by exact rfl))
    · rw [Int.sub_eq_add_neg]
    · (repeat' (first | refine fJ ?_ ?_ | exact True.intro);all_goals (try (first | exact kv | (refine kW (ov_of lks) rfl ?_ ?_))))
end Go.Proofs

/-
  big: trim and left where the lists are somebody's own.
-/
namespace Go.Proofs
open Go Go.Abs Go.Nums
attribute [local irreducible] thenA blockA awp aw Stp EndF EndP EndN EndG aOps
set_option linter.unusedSimpArgs false

abbrev oi (l : List Nat) : AObj:=.ints 55 .u64 (U l)

theorem c_trimP (z : Nm) (l : List Nat) (len cm : Nat) (hl : rng B l) (hs : len < 2 ^ 62) (hle : len ≤ l.length) (hcm : len ≤ cm) :
    AProc Tryz.prog 132 [.c (.win z 0 len cm)] [(z,oi l)] [(z,oi l)] (.c (.win z 0 (digs B (val B (l.take len))).length cm)):=by
  (refine aproc1 (mu:=muF) Tryz.func132 rfl (by decide) rfl (by decide) (Nat.le_of_ble_eq_true rfl) (by simp [AVal.at,AVal.at1,Cell.at]) (by simp [AVal.at,AVal.at1,Cell.at]) (by simp [AVal.at,AVal.at1,Cell.at]) nmX nmX fun S hS=>?_;simp only [List.map_cons,List.map_nil,AVal.map,AVal.map1,Cell.map])
  repeat refine gO ?_
  have hU:=U_len l
  refine awp_rep (ι:=Nat) (fun i=>⟨lk' [(0,.c (.win (.out z) 0 i cm))],ov [(.out z,oi l)] (pushS S)⟩) (fun i=>i ≤ len∧val B (l.take i) = val B (l.take len)) (fun i=>i) len ⟨Nat.le_refl _,rfl⟩ (by (refine fz hS ?_ ?_;all_goals (repeat' (first | refine fJ ?_ ?_ | exact True.intro));all_goals (try (first | exact kv | (refine kW (ov_of lks) rfl ?_ ?_))))) ?_
  rintro i ⟨hi,hv⟩
  have fin : (∀ h : l.take i ≠ [],(l.take i).getLast h ≠ 0)→i = (digs B (val B (l.take len))).length:=fun h=>by
    rw [← hv,digs_val hB (rng_take hl _) h];simp;omega
  repeat refine gO ?_
  (refine zw ?_;refine s_cmp (fun h1=>?_) (fun h1=>?_))
  · repeat refine gO ?_
    have e : ((i : Int) - 1).toNat = i - 1:=by omega
    rw [e,Nat.zero_add,U_get]
    (refine zw ?_;refine s_cmp (fun h2=>?_) (fun h2=>?_))
    · repeat refine gO ?_
      refine ⟨i - 1,?_,⟨by omega,?_⟩,by omega⟩
      · (refine fz hS ?_ ?_;all_goals (repeat' (first | refine fJ ?_ ?_ | exact True.intro));all_goals (try (first | exact kv | (refine kW (ov_of lks) rfl ?_ ?_))))
      · rw [← hv,show i = (i - 1) + 1 by omega,val_take_succ,show l.getD (i - 1) 0 = 0 by omega];simp
    · repeat refine gO ?_
      (refine endP1 ttOk (fl':=[(2,.c (.win (.out z) 0 (digs B (val B (l.take len))).length cm))]) (.inr rfl) hS lks nmX (by intro m hm;simp [lkS,addL,delL,Nm.isLoc,hm]) ?_ ?_ (by exact rfl) (by exact rfl) (by exact rfl))
      · rfl
      · (repeat' (first | refine fJ ?_ ?_ | exact True.intro);all_goals (try (first | exact kv | (refine kW (ov_of lks) rfl ?_ ?_))))
        refine kWin (by simp [ov,lkS]) rfl (fin fun hne=>?_) rfl
        rw [getLast_getD hne]
        have e2 : (l.take i).length = i:=by simp;omega
        rw [e2,List.getD_eq_getElem?_getD,List.getElem?_take_of_lt (by omega),← List.getD_eq_getElem?_getD]
        omega
  · repeat refine gO ?_
    (refine endP1 ttOk (fl':=[(2,.c (.win (.out z) 0 (digs B (val B (l.take len))).length cm))]) (.inr rfl) hS lks nmX (by intro m hm;simp [lkS,addL,delL,Nm.isLoc,hm]) ?_ ?_ (by exact rfl) (by exact rfl) (by exact rfl))
    · rfl
    · (repeat' (first | refine fJ ?_ ?_ | exact True.intro);all_goals (try (first | exact kv | (refine kW (ov_of lks) rfl ?_ ?_))))
      refine kWin (by simp [ov,lkS]) rfl (fin fun hne=>?_) rfl
      exfalso
      have : i = 0:=by omega
      subst this
      exact hne rfl

theorem c_trimW (z : Nm) (l : List Nat) (len cm : Nat) (hl : rng B l) (hs : len < 2 ^ 62) (hle : len ≤ l.length) (hcm : len ≤ cm) :
    ARead Tryz.prog 132 [.c (.win z 0 len cm)] [(z,oi l)] (.c (.win z 0 (digs B (val B (l.take len))).length cm)) :=
  (c_trimP z l len cm hl hs hle hcm).read ⟨_,List.mem_singleton_self _,rfl⟩

def padd (k n : Nat) : List Nat:=digs B n ++ List.replicate (k - (digs B n).length) 0
theorem val_padd (k n : Nat) : val B (padd k n) = n:=by rw [padd,val_append,val_digs hB,val_rep0];simp
theorem len_padd {k n : Nat} (h : n < B ^ k) : (padd k n).length = k:=by
  have:=(digs_len hB).2 h
  simp [padd];omega
theorem rng_padd (k n : Nat) : rng B (padd k n):=rng_append.2 ⟨rng_digs hB n,rng_rep (by decide) _⟩
theorem val_inj {b : Nat} (hb : 0 < b) : ∀ {l m : List Nat},rng b l→rng b m→l.length = m.length→val b l = val b m→l = m
  | [],[],_,_,_,_=>rfl
  | x :: l,y :: m,h1,h2,h3,h4=>by
    rw [rng_cons] at h1 h2
    simp only [val_cons] at h4
    have e1 : x = y:=by
      have:=congrArg (· % b) h4
      simp only [Nat.add_mul_mod_self_left,Nat.mod_eq_of_lt h1.1,Nat.mod_eq_of_lt h2.1] at this
      exact this
    subst e1
    have e2:=Nat.eq_of_mul_eq_mul_left hb (Nat.add_left_cancel h4)
    rw [val_inj hb h1.2 h2.2 (by simpa using h3) e2]
  | [],_ :: _,_,_,h,_=>by simp at h
  | _ :: _,[],_,_,h,_=>by simp at h
theorem padd_eq {l : List Nat} (hr : rng B l) : l = padd l.length (val B l) :=
  val_inj (by decide) hr (rng_padd _ _) (len_padd (val_lt hr)).symm (val_padd _ _).symm

theorem c_leftW (p n : Nat) (hp0 : 0 < p) (hp : (digs B p).length < 2 ^ 38) (hn : n < 64) : AMade Tryz.prog 167 [us (digs B p),uv n] (fun z=>.c (.win z 0 (digs B (p * 2 ^ n)).length ((digs B p).length + 1))) (oi (padd ((digs B p).length + 1) (p * 2 ^ n))):=by
  refine amade (mu:=muF) Tryz.func167 rfl (by decide) rfl (by decide) (Nat.le_of_ble_eq_true rfl) (by simp [nm0,AVal.at,AVal.at1,Cell.at]) (by intros;rfl) (by intro n m h;exact (show n = m from h).symm) nmX fun S hS=>?_
  have hlp:=U_len (digs B p)
  have hl0 : 0 < (digs B p).length:=Nat.pos_of_ne_zero fun h=>by have:=(digs_nil hB).1 (List.eq_nil_of_length_eq_zero h);omega
  repeat refine gO ?_
  (refine zw ?_;refine s_cmp (fun g1=>?_) (fun g1=>?_))
  · exact absurd g1 (by omega)
  repeat refine gO ?_
  obtain ⟨m,hm⟩ : ∃ m,m = (digs B p).length:=⟨_,rfl⟩
  obtain ⟨s,hs⟩ : ∃ s,s = n % 64:=⟨_,rfl⟩
  have hs64 : s < 64:=by omega
  have e1 : ((n / 64 : Nat) : Int).toNat = 0:=by omega
  have e2 : (((n / 64 : Nat) : Int) + ((U (digs B p)).length : Int) + 1).toNat = m + 1:=by omega
  refine awp_rep3 (fun (i : Nat) (o : List Nat) (low : Nat)=>⟨lk' [(0,us (digs B p)),(1,uv n),(5,.c (.win (.loc 21) 0 i (m + 1))),(6,uv low),(22,us (digs B p)),(23,iv m),(24,iv i)],
      ov [(.loc 21,.ints 55 .u64 (U (o ++ List.replicate (m + 1 - i) 0)))] (pushS S)⟩)
    (fun i o low=>i ≤ m∧o.length = i∧rng B o∧low < 2 ^ s∧val B o + B ^ i * low = val B ((digs B p).take i) * 2 ^ s) (fun i _ _=>m - i)
    0 [] 0 ⟨Nat.zero_le _,rfl,rng_nil,Nat.two_pow_pos _,by simp [val]⟩ ?_ ?_
  · (refine fz hS ?_ ?_;all_goals (repeat' (first | refine fJ ?_ ?_ | exact True.intro));all_goals (try (first | exact kv | (refine kW (ov_of lks) rfl ?_ ?_))))
    · rw [e2];exact kO (U_rep _ 0)
  rintro i o low ⟨h1,h2,h3,h4,h5⟩
  have hfill : ∀ w : Nat,List.take i (U (o ++ List.replicate (m + 1 - i) 0)) ++ [(w : Int)] ++ List.drop (i + [(w : Int)].length) (U (o ++ List.replicate (m + 1 - i) 0)) = U ((o ++ [w]) ++ List.replicate (m + 1 - (i + 1)) 0):=fun w=>by
    have:=fill_next 0 m (w:=w) h2 h1
    simpa using this
  repeat refine gO ?_
  (refine zw ?_;refine s_cmp (fun h6=>?_) (fun h6=>?_))
  · repeat refine gO ?_
    have ei : (i : Int).toNat = i:=by omega
    have hx:=getD_lt (b:=B) (by decide) (rng_digs hB p) i
    rw [ei,U_get]
    obtain ⟨x,hxe⟩ : ∃ x,x = (digs B p).getD i 0:=⟨_,rfl⟩
    rw [← hxe] at hx ⊢
    have hx' : x < 18446744073709551616:=hx
    obtain ⟨q1,q2,q3⟩:=push_up hx' hs64 h4
    have hl64 : low < 18446744073709551616:=Nat.lt_of_lt_of_le h4 (Nat.pow_le_pow_right (by decide) (show s ≤ 64 by omega))
    (first | refine stp_shlN (x) (s) (by exact rfl) (by exact rfl) (by first | exact True.intro | omega | (simp only [and_true,List.length_map,List.length_replicate,List.length_set,List.length_append,List.length_cons,List.length_nil,List.length_take,List.length_drop] at *;omega)) (by first | exact True.intro | omega | (simp only [and_true,List.length_map,List.length_replicate,List.length_set,List.length_append,List.length_cons,List.length_nil,List.length_take,List.length_drop] at *;omega)) ?_ | refine aw_cons (stp_shlN (x) (s) (by exact rfl) (by exact rfl) (by first | exact True.intro | omega | (simp only [and_true,List.length_map,List.length_replicate,List.length_set,List.length_append,List.length_cons,List.length_nil,List.length_take,List.length_drop] at *;omega)) (by first | exact True.intro | omega | (simp only [and_true,List.length_map,List.length_replicate,List.length_set,List.length_append,List.length_cons,List.length_nil,List.length_take,List.length_drop] at *;omega)) ?_) | refine aOps_cons (stp_shlN (x) (s) (by exact rfl) (by exact rfl) (by first | exact True.intro | omega | (simp only [and_true,List.length_map,List.length_replicate,List.length_set,List.length_append,List.length_cons,List.length_nil,List.length_take,List.length_drop] at *;omega)) (by first | exact True.intro | omega | (simp only [and_true,List.length_map,List.length_replicate,List.length_set,List.length_append,List.length_cons,List.length_nil,List.length_take,List.length_drop] at *;omega)) ?_))
    repeat refine gO ?_
    (first | refine stp_orN (x * 2 ^ s % 18446744073709551616) (low) (by exact rfl) (by exact rfl) (by first | exact True.intro | omega | (simp only [and_true,List.length_map,List.length_replicate,List.length_set,List.length_append,List.length_cons,List.length_nil,List.length_take,List.length_drop] at *;omega)) (by first | exact True.intro | omega | (simp only [and_true,List.length_map,List.length_replicate,List.length_set,List.length_append,List.length_cons,List.length_nil,List.length_take,List.length_drop] at *;omega)) (by first | exact True.intro | omega | (simp only [and_true,List.length_map,List.length_replicate,List.length_set,List.length_append,List.length_cons,List.length_nil,List.length_take,List.length_drop] at *;omega)) (by first | exact True.intro | omega | (simp only [and_true,List.length_map,List.length_replicate,List.length_set,List.length_append,List.length_cons,List.length_nil,List.length_take,List.length_drop] at *;omega)) ?_ | refine aw_cons (stp_orN (x * 2 ^ s % 18446744073709551616) (low) (by exact rfl) (by exact rfl) (by first | exact True.intro | omega | (simp only [and_true,List.length_map,List.length_replicate,List.length_set,List.length_append,List.length_cons,List.length_nil,List.length_take,List.length_drop] at *;omega)) (by first | exact True.intro | omega | (simp only [and_true,List.length_map,List.length_replicate,List.length_set,List.length_append,List.length_cons,List.length_nil,List.length_take,List.length_drop] at *;omega)) (by first | exact True.intro | omega | (simp only [and_true,List.length_map,List.length_replicate,List.length_set,List.length_append,List.length_cons,List.length_nil,List.length_take,List.length_drop] at *;omega)) (by first | exact True.intro | omega | (simp only [and_true,List.length_map,List.length_replicate,List.length_set,List.length_append,List.length_cons,List.length_nil,List.length_take,List.length_drop] at *;omega)) ?_) | refine aOps_cons (stp_orN (x * 2 ^ s % 18446744073709551616) (low) (by exact rfl) (by exact rfl) (by first | exact True.intro | omega | (simp only [and_true,List.length_map,List.length_replicate,List.length_set,List.length_append,List.length_cons,List.length_nil,List.length_take,List.length_drop] at *;omega)) (by first | exact True.intro | omega | (simp only [and_true,List.length_map,List.length_replicate,List.length_set,List.length_append,List.length_cons,List.length_nil,List.length_take,List.length_drop] at *;omega)) (by first | exact True.intro | omega | (simp only [and_true,List.length_map,List.length_replicate,List.length_set,List.length_append,List.length_cons,List.length_nil,List.length_take,List.length_drop] at *;omega)) (by first | exact True.intro | omega | (simp only [and_true,List.length_map,List.length_replicate,List.length_set,List.length_append,List.length_cons,List.length_nil,List.length_take,List.length_drop] at *;omega)) ?_))
    repeat refine gO ?_
    obtain ⟨w,hw⟩ : ∃ w,w = (x * 2 ^ s % 18446744073709551616 ||| low):=⟨_,rfl⟩
    rw [← hw] at q1 q3 ⊢
    have hL : (U (o ++ List.replicate (m + 1 - i) 0)).length = m + 1:=by rw [U_len];simp;omega
    refine zw1 (s_appR ttOk (Y:=[(w : Int)]) ?_ ⟨?_,?_⟩ ?_)
    · exact srcE_win (L:=[(w : Int)]) lks (by simp)
    · simp;omega
    · rw [hL];simp;omega
    repeat refine gO ?_
    (first | refine stp_shrN (x) (64 - s) (by exact rfl) (by exact rfl) (by first | exact True.intro | omega | (simp only [and_true,List.length_map,List.length_replicate,List.length_set,List.length_append,List.length_cons,List.length_nil,List.length_take,List.length_drop] at *;omega)) (by first | exact True.intro | omega | (simp only [and_true,List.length_map,List.length_replicate,List.length_set,List.length_append,List.length_cons,List.length_nil,List.length_take,List.length_drop] at *;omega)) (by first | exact True.intro | omega | (simp only [and_true,List.length_map,List.length_replicate,List.length_set,List.length_append,List.length_cons,List.length_nil,List.length_take,List.length_drop] at *;omega)) ?_ | refine aw_cons (stp_shrN (x) (64 - s) (by exact rfl) (by exact rfl) (by first | exact True.intro | omega | (simp only [and_true,List.length_map,List.length_replicate,List.length_set,List.length_append,List.length_cons,List.length_nil,List.length_take,List.length_drop] at *;omega)) (by first | exact True.intro | omega | (simp only [and_true,List.length_map,List.length_replicate,List.length_set,List.length_append,List.length_cons,List.length_nil,List.length_take,List.length_drop] at *;omega)) (by first | exact True.intro | omega | (simp only [and_true,List.length_map,List.length_replicate,List.length_set,List.length_append,List.length_cons,List.length_nil,List.length_take,List.length_drop] at *;omega)) ?_) | refine aOps_cons (stp_shrN (x) (64 - s) (by exact rfl) (by exact rfl) (by first | exact True.intro | omega | (simp only [and_true,List.length_map,List.length_replicate,List.length_set,List.length_append,List.length_cons,List.length_nil,List.length_take,List.length_drop] at *;omega)) (by first | exact True.intro | omega | (simp only [and_true,List.length_map,List.length_replicate,List.length_set,List.length_append,List.length_cons,List.length_nil,List.length_take,List.length_drop] at *;omega)) (by first | exact True.intro | omega | (simp only [and_true,List.length_map,List.length_replicate,List.length_set,List.length_append,List.length_cons,List.length_nil,List.length_take,List.length_drop] at *;omega)) ?_))
    repeat refine gO ?_
    refine ⟨i + 1,o ++ [w],x / 2 ^ (64 - s),?_,
      ⟨by omega,by simp;omega,rng_append.2 ⟨h3,by simp [rng];exact q3⟩,q2,?_⟩,by omega⟩
    · (refine fz hS ?_ ?_;all_goals (repeat' (first | refine fJ ?_ ?_ | exact True.intro));all_goals (try (first | exact kv | (refine kW (ov_of lks) rfl ?_ ?_))))
      exact kO (hfill w)
    · rw [val_snoc,val_take_succ,← hxe,h2,Nat.add_mul,← h5,powS,Nat.mul_assoc (B ^ i) B,Nat.add_assoc,← Nat.mul_add,show w + B * (x / 2 ^ (64 - s)) = x * 2 ^ s + low from q1,Nat.mul_add,Nat.mul_assoc]
      omega
  · repeat refine gO ?_
    have hi : i = m:=by omega
    subst hi
    have hL : (U (o ++ List.replicate (i + 1 - i) 0)).length = i + 1:=by rw [U_len];simp;omega
    refine zw1 (s_appR ttOk (Y:=[(low : Int)]) ?_ ⟨?_,?_⟩ ?_)
    · exact srcE_win (L:=[(low : Int)]) lks (by simp)
    · simp
    · rw [hL];simp
    have hl64 : low < B:=Nat.lt_of_lt_of_le h4 (Nat.pow_le_pow_right (by decide) (show s ≤ 64 by omega))
    have hr : rng B (o ++ [low]):=rng_append.2 ⟨h3,by simp [rng];exact hl64⟩
    rw [hfill low,Nat.sub_self,List.replicate_zero,List.append_nil]
    have hv : val B (o ++ [low]) = p * 2 ^ n:=by
      rw [take_all (by omega),val_digs hB] at h5
      rw [val_snoc,h2,h5,hs,Nat.mod_eq_of_lt hn]
    have hlen : (o ++ [low]).length = i + 1:=by simp;omega
    have hc:=c_trimW (.loc 21) (o ++ [low]) (i + 1) (i + 1) hr (by omega) (by omega) (Nat.le_refl _)
    rw [take_all (by omega),hv] at hc
    (refine zw ?_;refine s_read (hc) ?_ (by intro p hp;first | (simp only [List.mem_singleton] at hp;subst hp;exact lks) | (simp only [List.mem_cons,List.not_mem_nil,or_false] at hp;rcases hp with rfl | rfl <;> exact lks)))
    repeat refine gO ?_
    (refine endG ttOk (l:=(.loc 21)) (fl':=[(4,.c (.win (.loc 21) 0 (digs B (p * 2 ^ n)).length ((digs B p).length + 1)))]) (.inr rfl) hS (by exact rfl) (by exact rfl) ?_ ?_ (by exact rfl) (by exact rfl) (by exact rfl);all_goals (repeat' (first | refine fJ ?_ ?_ | exact True.intro);all_goals (try (first | exact kv | (refine kW (ov_of lks) rfl ?_ ?_)))))
    · refine kO (congrArg U ?_)
      have:=padd_eq hr
      rw [hv,hlen] at this
      rw [this,hm]
end Go.Proofs
