/-
  An abstract machine for this program, and contracts of its functions: part Mah (no statement by itself).
-/
import Derived.Test.YtdbjhcgogmfghaaGreatDoorProg
import Derived.Test.YtdbjhcgogmfghaaGreatDoorMag
import Derived.Laws.Externs
set_option linter.unusedVariables false
set_option linter.unusedSimpArgs false
set_option linter.unnecessarySimpa false

/-
  The seat's types; the functions that write what they are handed.
-/
namespace Go.Proofs
open Go Go.Abs
noncomputable def tt : TT:=[(26,tiOf Tryz.t26 Tryz.t26),(55,tiOf Tryz.t55 Tryz.t55),(3,tiOf Tryz.t3 Tryz.t3),(4,tiOf Tryz.t4 Tryz.t4),(28,tiOf Tryz.t28 Tryz.t27),(76,tiOf Tryz.t76 Tryz.t75),(74,tiOf Tryz.t74 Tryz.t74),(29,tiOf Tryz.t29 Tryz.t3),(49,tiOf Tryz.t49 Tryz.t48),(88,tiOf Tryz.t88 Tryz.t88),(5,tiOf Tryz.t5 Tryz.t5),(160,tiOf Tryz.t160 Tryz.t160),(2,tiOf Tryz.t2 Tryz.t2),(41,tiOf Tryz.t41 Tryz.t40),(9,tiOf Tryz.t9 Tryz.t9),(22,tiOf Tryz.t22 Tryz.t22),(72,tiOf Tryz.t72 Tryz.t72),(39,tiOf Tryz.t39 Tryz.t39),(69,tiOf Tryz.t69 Tryz.t69),(165,tiOf Tryz.t165 Tryz.t165),(210,tiOf Tryz.t210 Tryz.t210),(81,tiOf Tryz.t81 Tryz.t81),(91,tiOf Tryz.t91 Tryz.t90),(172,tiOf Tryz.t172 Tryz.t172),(170,tiOf Tryz.t170 Tryz.t170),(171,tiOf Tryz.t171 Tryz.t171),(169,tiOf Tryz.t169 Tryz.t169),(220,tiOf Tryz.t220 Tryz.t220),(174,tiOf Tryz.t174 Tryz.t48),(179,tiOf Tryz.t179 Tryz.t178),(55,tiOf Tryz.t55 Tryz.t55),(114,tiOf Tryz.t114 Tryz.t114),(113,tiOf Tryz.t113 Tryz.t113)]
theorem ttOk : TOk Tryz.prog tt:=⟨tiOk Tryz.type26 rfl rfl,tiOk Tryz.type55 rfl rfl,tiOk Tryz.type3 rfl rfl,tiOk Tryz.type4 rfl rfl,tiOkN Tryz.type28 rfl Tryz.type27 rfl,tiOkN Tryz.type76 rfl Tryz.type75 rfl,tiOk Tryz.type74 rfl rfl,tiOkN Tryz.type29 rfl Tryz.type3 rfl,tiOkN Tryz.type49 rfl Tryz.type48 rfl,tiOk Tryz.type88 rfl rfl,tiOk Tryz.type5 rfl rfl,tiOk Tryz.type160 rfl rfl,tiOk Tryz.type2 rfl rfl,tiOkN Tryz.type41 rfl Tryz.type40 rfl,tiOk Tryz.type9 rfl rfl,tiOk Tryz.type22 rfl rfl,tiOk Tryz.type72 rfl rfl,tiOk Tryz.type39 rfl rfl,tiOk Tryz.type69 rfl rfl,tiOk Tryz.type165 rfl rfl,tiOk Tryz.type210 rfl rfl,tiOk Tryz.type81 rfl rfl,tiOkN Tryz.type91 rfl Tryz.type90 rfl,tiOk Tryz.type172 rfl rfl,tiOk Tryz.type170 rfl rfl,tiOk Tryz.type171 rfl rfl,tiOk Tryz.type169 rfl rfl,tiOk Tryz.type220 rfl rfl,tiOkN Tryz.type174 rfl Tryz.type48 rfl,tiOkN Tryz.type179 rfl Tryz.type178 rfl,tiOk Tryz.type55 rfl rfl,tiOk Tryz.type114 rfl rfl,tiOk Tryz.type113 rfl rfl,trivial⟩
def muF : FuncId→Bool:=fun f=>[89,101,139,99,137,43,113,44,
  165,4294967295,112,4294967295,4294967295,162,168,111,52,100,143,164,78,
  4294967295,4294967295,4294967295,
  53,42,55,4294967295].any (Nat.beq f)

structure Wr (C : Prop) : Prop where
  p : C
theorem gO {A C : Prop} (h : C) (t : Wr C→A:=by intro h;(first | refine zr1 ?_ | refine zr2 ?_ | refine zr3 ?_ | refine zr4 ?_ | refine zr5 ?_ | refine zr6 ?_ | refine zr7 ?_ | refine zr8 ?_ | refine zr9 ?_ | refine zr10 ?_ | refine zr11 ?_ | refine zr12 ?_ | refine zr13 ?_ | refine zr14 ?_ | refine zr15 ?_ | refine zr16 ?_ | refine zr17 ?_ | refine zr18 ?_ | refine zr19 ?_ | (refine zw ?_;first | refine zg1 ttOk ?_ | refine zg2 ttOk ?_ | refine zg3 ttOk ?_ | refine zg4 ttOk ?_ | refine zg5 ttOk ?_ | refine zg6 ttOk ?_ | refine zg7 ttOk ?_ | refine zg8 ttOk ?_ | refine zg9 ttOk ?_ | refine zg10 ttOk ?_ | refine zg22 ttOk ?_ | refine zg11 ttOk ?_ | refine zg12 ttOk ?_ | refine zg13 ttOk ?_ | refine zg14 ttOk ?_ | refine zg15 ttOk ?_ | refine zg16 ttOk ?_ | refine zg17 ttOk ?_ | refine zg18 ttOk ?_ | refine zg19 ttOk ?_ | refine zg20 ttOk ?_ | refine zg21 ttOk ?_));exact h.p) : A:=t ⟨h⟩
theorem gN {A C : Prop} (h : C) (t : Wr C→A:=by intro h;(first | refine zr1 ?_ | refine zr2 ?_ | refine zr3 ?_ | refine zr4 ?_ | refine zr5 ?_ | refine zr6 ?_ | refine zr7 ?_ | refine zr8 ?_ | refine zr9 ?_ | refine zr10 ?_ | refine zr11 ?_ | refine zr12 ?_ | refine zr13 ?_ | refine zr14 ?_ | refine zr15 ?_ | refine zr16 ?_ | refine zr17 ?_ | refine zr18 ?_ | refine zr19 ?_ | (refine zw ?_;first | refine zg1 ttOk ?_ | refine zg2 ttOk ?_ | refine zg3 ttOk ?_ | refine zc1 ttOk ?_ | refine zc2 ttOk ?_ | refine zc3 ttOk ?_ | refine zc4 ttOk ?_ | refine zc5 ttOk ?_ | refine zc6 ttOk ?_ | refine zc7 ttOk ?_ | refine zc8 ttOk ?_ | refine zc9 ttOk ?_ | refine zc10 ttOk ?_ | refine zc11 ttOk ?_ | refine zc12 ttOk ?_ | refine zn1 ttOk ?_ | refine zn2 ttOk ?_ | refine zn3 ttOk ?_ | refine zn4 ttOk ?_ | refine zn5 ttOk ?_ | refine zn6 ttOk ?_ | refine zn7 ttOk ?_ | refine zn8 ttOk ?_ | refine zn9 ttOk ?_ | refine zn10 ttOk ?_ | refine zn11 ttOk ?_ | refine zn12 ttOk ?_ | refine zg4 ttOk ?_ | refine zg5 ttOk ?_ | refine zg6 ttOk ?_ | refine zg7 ttOk ?_ | refine zg8 ttOk ?_ | refine zg9 ttOk ?_ | refine zg10 ttOk ?_ | refine zg22 ttOk ?_ | refine zg11 ttOk ?_ | refine zg12 ttOk ?_ | refine zg13 ttOk ?_ | refine zg14 ttOk ?_ | refine zg15 ttOk ?_ | refine zg16 ttOk ?_ | refine zg17 ttOk ?_ | refine zg18 ttOk ?_ | refine zg19 ttOk ?_ | refine zg20 ttOk ?_ | refine zg21 ttOk ?_));exact h.p) : A:=t ⟨h⟩
theorem gM {A C : Prop} (h : C) (t : Wr C→A:=by intro h;(first | refine zr1 ?_ | refine zr2 ?_ | refine zr3 ?_ | refine zr4 ?_ | refine zr5 ?_ | refine zr6 ?_ | refine zr7 ?_ | refine zr8 ?_ | refine zr9 ?_ | refine zr10 ?_ | refine zr11 ?_ | refine zr12 ?_ | refine zr13 ?_ | refine zr14 ?_ | refine zr15 ?_ | refine zr16 ?_ | refine zr17 ?_ | refine zr18 ?_ | refine zr19 ?_ | (refine zw ?_;first | refine zg1 ttOk ?_ | refine zg2 ttOk ?_ | refine zg3 ttOk ?_ | refine zc1 ttOk ?_ | refine zc2 ttOk ?_ | refine zc3 ttOk ?_ | refine zc4 ttOk ?_ | refine zc5 ttOk ?_ | refine zc6 ttOk ?_ | refine zc7 ttOk ?_ | refine zc8 ttOk ?_ | refine zc9 ttOk ?_ | refine zc10 ttOk ?_ | refine zc11 ttOk ?_ | refine zc12 ttOk ?_ | refine zn1 ttOk ?_ | refine zn2 ttOk ?_ | refine zn3 ttOk ?_ | refine zn4 ttOk ?_ | refine zn5 ttOk ?_ | refine zn6 ttOk ?_ | refine zn7 ttOk ?_ | refine zn8 ttOk ?_ | refine zn9 ttOk ?_ | refine zn10 ttOk ?_ | refine zn11 ttOk ?_ | refine zn12 ttOk ?_ | refine zg4 ttOk ?_ | refine zg5 ttOk ?_ | refine zg6 ttOk ?_ | refine zg7 ttOk ?_ | refine zg8 ttOk ?_ | refine zg9 ttOk ?_ | refine zg10 ttOk ?_ | refine zg22 ttOk ?_ | refine zg11 ttOk ?_ | refine zg12 ttOk ?_ | refine zg15 ttOk ?_ | refine zg16 ttOk ?_ | refine zg17 ttOk ?_ | refine zg18 ttOk ?_ | refine zg19 ttOk ?_ | refine zg20 ttOk ?_ | refine zg21 ttOk ?_));exact h.p) : A:=t ⟨h⟩
theorem gOR {A C : Prop} (h : C) (t : Wr C→A:=by intro h;(first | refine zr2 ?_ | refine zr3 ?_ | refine zr4 ?_ | refine zr5 ?_ | refine zr6 ?_ | refine zr7 ?_ | refine zr8 ?_ | refine zr9 ?_ | refine zr10 ?_ | refine zr11 ?_ | refine zr12 ?_ | refine zr13 ?_ | refine zr14 ?_ | refine zr15 ?_ | refine zr16 ?_ | refine zr17 ?_ | refine zr18 ?_ | refine zr19 ?_ | (refine zw ?_;first | refine zg1 ttOk ?_ | refine zg2 ttOk ?_ | refine zg3 ttOk ?_ | refine zg4 ttOk ?_ | refine zg5 ttOk ?_ | refine zg6 ttOk ?_ | refine zg7 ttOk ?_ | refine zg8 ttOk ?_ | refine zg9 ttOk ?_ | refine zg10 ttOk ?_ | refine zg22 ttOk ?_ | refine zg11 ttOk ?_ | refine zg12 ttOk ?_ | refine zg13 ttOk ?_ | refine zg14 ttOk ?_ | refine zg15 ttOk ?_ | refine zg16 ttOk ?_ | refine zg17 ttOk ?_ | refine zg18 ttOk ?_ | refine zg19 ttOk ?_ | refine zg20 ttOk ?_ | refine zg21 ttOk ?_));exact h.p) : A:=t ⟨h⟩
end Go.Proofs

/- Short names. -/
namespace Go.Proofs
open Go Go.Abs
theorem zw {A C : Prop} (h : C) (t : Wr C→A:=by intro h;first | exact zw1 h.p | exact zw2 h.p | exact zw3 h.p) : A:=t ⟨h⟩
theorem fJ {A C D : Prop} (h : C) (k : D) (t : Wr C→Wr D→A:=by intro h k;first | exact fF h.p k.p | exact fS h.p k.p) : A:=t ⟨h⟩ ⟨k⟩
theorem nmX {A : Prop} (t : A:=by first | exact cells_nmZ | exact cells_nmF | exact cells_nm0 | exact ints_nm0 | (intro x hx m;simp [AObj.cls] at hx;rcases hx with rfl | rfl <;> first | exact fun h=>h | exact Leaf.cell_nm _ _)) : A:=t
theorem aF {P : Program} {mu : FuncId→Bool} {f : FuncId} {fn : Func} {c : Code} {args : List AVal} {res : AVal} (hf : P.funcs[f]? = some fn)
    (h : ∀ S,(∀ n b,S n = some b→b.cl S)→awp P mu fn.ntmps c (EndF P fn S res) ⟨lk' (entryL 0 args),ov [] (pushS S)⟩)
    (hb : fn.body = some c:=by exact rfl) (hname : (fn.name == "runtime.NumGoroutine") = false:=by decide) (hm : P.follows .mixedOrders = true:=by exact rfl) (hok : okC fn.ntmps mu c = true:=by decide) (hl : args.length ≤ fn.ntmps:=by exact Nat.le_of_ble_eq_true rfl)
    (ha : ∀ x ∈ args,nm0 x:=by simp [nm0,AVal.at,AVal.at1,Cell.at]) (hr : nm0 res:=by simp [nm0,AVal.at,AVal.at1,Cell.at]) : AFun P f args res:=afun hf hb hname hm hok hl ha hr h
theorem eF {P : Program} {T : TT} {fn : Func} {S : Store} {res : AVal} {fl fl' : FL} {sl : SL} {vs : List AVal} (hS : ∀ n b,S n = some b→b.cl S) (hf : FrzF (ov sl (pushS S)) (ov [] (pushS S)) fl fl') (hT : TOk P T:=by exact ttOk) (ho : outsL sl = []:=by exact rfl)
    (hr : resL T fl' fn.results.toList = some vs:=by exact rfl) (hfl : flatL vs = true:=by exact rfl) (h1 : oneR vs = res:=by exact rfl) : EndF P fn S res .ret ⟨lk' fl,ov sl (pushS S)⟩:=endF hT (.inr rfl) hS ho hf hr hfl h1
theorem fz {fl fl' : FL} {sl sl' : SL} {S : Store} (hS : ∀ n b,S n = some b→b.cl S) (hs : FrzS (ov sl (pushS S)) (ov sl' (pushS S)) sl') (hf : FrzF (ov sl (pushS S)) (ov sl' (pushS S)) fl fl') (ho : outsL sl' = outsL sl:=by exact rfl) :
    Weak ⟨lk' fl,ov sl (pushS S)⟩ ⟨lk' fl',ov sl' (pushS S)⟩:=frz hS ho hs hf
end Go.Proofs

/-
  Numbers by digits: plain laws, no program in sight.
-/
namespace Go.Nums

def val (b : Nat) : List Nat→Nat
  | []=>0
  | x :: xs=>x + b * val b xs

def digs (b n : Nat) : List Nat :=
  if _h : n = 0 ∨ b < 2 then [] else n % b :: digs b (n / b)
termination_by n
decreasing_by exact Nat.div_lt_self (by omega) (by omega)

def rng (b : Nat) (l : List Nat) : Prop:=∀ x ∈ l,x < b

theorem val_nil (b : Nat) : val b [] = 0:=rfl
theorem val_cons (b x : Nat) (l : List Nat) : val b (x :: l) = x + b * val b l:=rfl

theorem val_append (b : Nat) : ∀ l m : List Nat,val b (l ++ m) = val b l + b ^ l.length * val b m
  | [],m=>by simp [val]
  | x :: l,m=>by
    simp only [List.cons_append,val,val_append b l m,List.length_cons]
    grind

theorem digs_zero (b : Nat) : digs b 0 = []:=by unfold digs;simp
theorem digs_pos {b n : Nat} (hb : 2 ≤ b) (hn : n ≠ 0) : digs b n = n % b :: digs b (n / b):=by
  rw [digs];rw [dif_neg (by omega)]

theorem digs_nil {b n : Nat} (hb : 2 ≤ b) : digs b n = [] ↔ n = 0:=by
  constructor
  · intro h
    by_cases hn : n = 0
    · exact hn
    · rw [digs_pos hb hn] at h;cases h
  · rintro rfl;exact digs_zero b

theorem val_digs {b : Nat} (hb : 2 ≤ b) : ∀ n,val b (digs b n) = n:=by
  intro n
  induction n using Nat.strongRecOn with
  | _ n ih =>
    by_cases hn : n = 0
    · subst hn;simp [digs_zero,val]
    · rw [digs_pos hb hn,val_cons,ih (n / b) (Nat.div_lt_self (by omega) (by omega))]
      exact Nat.mod_add_div n b

theorem rng_digs {b : Nat} (hb : 2 ≤ b) : ∀ n,rng b (digs b n):=by
  intro n
  induction n using Nat.strongRecOn with
  | _ n ih =>
    by_cases hn : n = 0
    · subst hn;simp [digs_zero,rng]
    · rw [digs_pos hb hn]
      intro x hx
      rcases List.mem_cons.1 hx with rfl | hx
      · exact Nat.mod_lt _ (by omega)
      · exact ih (n / b) (Nat.div_lt_self (by omega) (by omega)) x hx

theorem rng_cons {b x : Nat} {l : List Nat} : rng b (x :: l) ↔ x < b∧rng b l:=by simp [rng]
theorem rng_nil {b : Nat} : rng b []:=by simp [rng]
theorem rng_append {b : Nat} {l m : List Nat} : rng b (l ++ m) ↔ rng b l∧rng b m:=by
  simp only [rng,List.mem_append]
  exact ⟨fun h=>⟨fun x hx=>h x (.inl hx),fun x hx=>h x (.inr hx)⟩,fun h x hx=>hx.elim (h.1 x) (h.2 x)⟩

theorem val_lt {b : Nat} : ∀ {l : List Nat},rng b l→val b l < b ^ l.length
  | [],_=>by simp [val]
  | x :: l,h=>by
    obtain ⟨h1,h2⟩:=rng_cons.1 h
    have:=val_lt h2
    have h3 : b * val b l + b ≤ b * b ^ l.length:=by rw [← Nat.mul_succ];exact Nat.mul_le_mul_left b this
    simp only [val,List.length_cons,Nat.pow_succ]
    rw [Nat.mul_comm (b ^ l.length) b];omega

theorem val_snoc (b : Nat) (l : List Nat) (x : Nat) : val b (l ++ [x]) = val b l + b ^ l.length * x:=by
  rw [val_append];simp [val]

theorem digs_val {b : Nat} (hb : 2 ≤ b) : ∀ {l : List Nat},rng b l→(∀ h : l ≠ [],l.getLast h ≠ 0)→digs b (val b l) = l
  | [],_,_=>digs_zero b
  | x :: l,h,hl=>by
    obtain ⟨h1,h2⟩:=rng_cons.1 h
    have ih:=digs_val hb h2 (fun hne=>by have:=hl (by simp);rwa [List.getLast_cons hne] at this)
    have hne : val b (x :: l) ≠ 0:=by
      intro h0
      simp only [val] at h0
      have hx : x = 0:=by omega
      have hv : b * val b l = 0:=by omega
      have hv : val b l = 0:=by
        rcases Nat.mul_eq_zero.1 hv with q | q
        · omega
        · exact q
      rw [hv,digs_zero] at ih
      subst ih
      exact hl (by simp) (by simpa using hx)
    rw [digs_pos hb hne,val_cons,Nat.add_mul_mod_self_left,Nat.mod_eq_of_lt h1,Nat.add_mul_div_left _ _ (by omega),Nat.div_eq_of_lt h1,Nat.zero_add,ih]

theorem val_snoc0 (b : Nat) (l : List Nat) : val b (l ++ [0]) = val b l:=by rw [val_snoc];simp

theorem digs_len {b n k : Nat} (hb : 2 ≤ b) : (digs b n).length ≤ k ↔ n < b ^ k:=by
  constructor
  · intro h
    have:=val_lt (rng_digs hb n)
    rw [val_digs hb] at this
    exact Nat.lt_of_lt_of_le this (Nat.pow_le_pow_right (by omega) h)
  · induction k generalizing n with
    | zero=>intro h;simp at h;subst h;simp [digs_zero]
    | succ k ih =>
      intro h
      by_cases hn : n = 0
      · subst hn;simp [digs_zero]
      · rw [digs_pos hb hn,List.length_cons]
        have : n / b < b ^ k:=by
          rw [Nat.div_lt_iff_lt_mul (by omega)];rw [Nat.pow_succ] at h;exact h
        have:=ih this
        omega

theorem digs_top {b n : Nat} (hb : 2 ≤ b) : ∀ h : digs b n ≠ [],(digs b n).getLast h ≠ 0:=by
  induction n using Nat.strongRecOn with
  | _ n ih =>
    intro h
    have hn : n ≠ 0:=fun e=>h ((digs_nil hb).2 e)
    by_cases hq : n / b = 0
    · have : digs b n = [n % b]:=by rw [digs_pos hb hn,hq,digs_zero]
      simp only [this,List.getLast_singleton]
      have:=Nat.mod_add_div n b
      rw [hq] at this
      omega
    · have h2 : digs b (n / b) ≠ []:=fun e=>hq ((digs_nil hb).1 e)
      have:=ih (n / b) (Nat.div_lt_self (by omega) (by omega)) h2
      simp only [digs_pos hb hn]
      rw [List.getLast_cons h2]
      exact this

theorem digs_inj {b n m : Nat} (hb : 2 ≤ b) (h : digs b n = digs b m) : n = m:=by
  have:=congrArg (val b) h
  rwa [val_digs hb,val_digs hb] at this

def U (l : List Nat) : List Int:=l.map (fun n : Nat=>Int.ofNat n)
theorem U_len (l : List Nat) : (U l).length = l.length:=by simp [U]
theorem U_get (l : List Nat) (i : Nat) : (U l).getD i 0 = ((l.getD i 0 : Nat) : Int):=by
  simp only [U,List.getD_eq_getElem?_getD,List.getElem?_map]
  cases l[i]? <;> rfl
theorem U_take (l : List Nat) (n : Nat) : (U l).take n = U (l.take n):=by simp [U,List.map_take]
theorem U_drop (l : List Nat) (n : Nat) : (U l).drop n = U (l.drop n):=by simp [U,List.map_drop]
theorem U_append (l m : List Nat) : U l ++ U m = U (l ++ m):=by simp [U]
theorem U_set (l : List Nat) (i n : Nat) : (U l).set i n = U (l.set i n):=by simp [U,List.map_set]
theorem U_rep (n x : Nat) : List.replicate n (x : Int) = U (List.replicate n x):=by simp [U]
theorem U_inj {l m : List Nat} (h : U l = U m) : l = m:=by
  have : ∀ {l m : List Nat},U l = U m→l = m:=by
    intro l
    induction l with
    | nil=>intro m h;cases m <;> simp_all [U]
    | cons x l ih =>
      intro m h
      cases m with
      | nil=>simp [U] at h
      | cons y m =>
        simp only [U,List.map_cons,List.cons.injEq] at h
        rw [ih h.2]
        have : x = y:=Int.ofNat.inj h.1
        rw [this]
  exact this h
theorem getD_lt {b : Nat} (hb : 0 < b) {l : List Nat} (h : rng b l) (i : Nat) : l.getD i 0 < b:=by
  rw [List.getD_eq_getElem?_getD]
  rcases Nat.lt_or_ge i l.length with q | q
  · rw [List.getElem?_eq_getElem q];exact h _ (List.getElem_mem q)
  · rw [List.getElem?_eq_none q];exact hb
theorem snoc_of {l : List Nat} (h : 0 < l.length) : l = l.take (l.length - 1) ++ [l.getD (l.length - 1) 0]:=by
  have h2 : l.drop (l.length - 1) = [l.getD (l.length - 1) 0]:=by
    rw [List.drop_eq_getElem_cons (by omega),List.drop_eq_nil_of_le (by omega)]
    simp [List.getD_eq_getElem?_getD,List.getElem?_eq_getElem (show l.length - 1 < l.length by omega)]
  rw [← h2,List.take_append_drop]
theorem rng_take {b : Nat} {l : List Nat} (h : rng b l) (n : Nat) : rng b (l.take n):=fun x hx=>h x (List.mem_of_mem_take hx)
theorem rng_drop {b : Nat} {l : List Nat} (h : rng b l) (n : Nat) : rng b (l.drop n):=fun x hx=>h x (List.mem_of_mem_drop hx)
theorem getLast_getD {l : List Nat} (h : l ≠ []) : l.getLast h = l.getD (l.length - 1) 0:=by
  have hp : 0 < l.length:=List.length_pos_iff.2 h
  rw [List.getD_eq_getElem?_getD,List.getElem?_eq_getElem (by omega),Option.getD_some,List.getLast_eq_getElem]

theorem val_split (b : Nat) {l : List Nat} {i : Nat} (h : i ≤ l.length) : val b l = val b (l.take i) + b ^ i * val b (l.drop i):=by
  conv=>lhs;rw [← List.take_append_drop i l]
  rw [val_append,List.length_take,Nat.min_eq_left h]
theorem drop_getD {l : List Nat} {i : Nat} (h : i < l.length) : l.drop i = l.getD i 0 :: l.drop (i + 1):=by
  rw [List.drop_eq_getElem_cons h,List.getD_eq_getElem?_getD,List.getElem?_eq_getElem h,Option.getD_some]
theorem val_split1 (b : Nat) {l : List Nat} {i : Nat} (h : i < l.length) : val b l = val b (l.take i) + b ^ i * (l.getD i 0 + b * val b (l.drop (i + 1))):=by
  rw [val_split b (Nat.le_of_lt h),drop_getD h,val_cons]
theorem val_take_lt {b : Nat} {l : List Nat} (hr : rng b l) {i : Nat} (h : i ≤ l.length) : val b (l.take i) < b ^ i:=by
  have:=val_lt (rng_take hr i)
  rwa [List.length_take,Nat.min_eq_left h] at this

theorem val_top_lt {b : Nat} {l m : List Nat} (hl : rng b l) {i : Nat} (h1 : i < l.length) (h2 : i < m.length) (he : l.drop (i + 1) = m.drop (i + 1)) (hlt : l.getD i 0 < m.getD i 0) : val b l < val b m:=by
  rw [val_split1 b h1,val_split1 b h2,he]
  have h3:=val_take_lt hl (Nat.le_of_lt h1)
  have h4 : b ^ i * (l.getD i 0 + b * val b (m.drop (i + 1)) + 1) ≤ b ^ i * (m.getD i 0 + b * val b (m.drop (i + 1))):=Nat.mul_le_mul_left _ (by omega)
  rw [Nat.mul_succ] at h4
  omega

theorem len_lt {b n m : Nat} (hb : 2 ≤ b) (h : (digs b n).length < (digs b m).length) : n < m:=by
  have h1 : n < b ^ (digs b n).length:=(digs_len hb).1 (Nat.le_refl _)
  have h2 : ¬ m < b ^ (digs b n).length:=fun q=>by have:=(digs_len hb).2 q;omega
  omega

def cmpN (a b : Nat) : Int:=if a < b then -1 else if b < a then 1 else 0

theorem val_take_succ (b : Nat) (l : List Nat) (i : Nat) : val b (l.take (i + 1)) = val b (l.take i) + b ^ i * l.getD i 0:=by
  rcases Nat.lt_or_ge i l.length with q | q
  · rw [List.take_succ_eq_append_getElem q,val_append,List.length_take,Nat.min_eq_left (Nat.le_of_lt q)]
    simp [val,List.getD_eq_getElem?_getD,List.getElem?_eq_getElem q]
  · rw [List.take_of_length_le (by omega),List.take_of_length_le q,List.getD_eq_getElem?_getD,List.getElem?_eq_none q];simp
theorem take_set_succ {l : List Nat} {i s : Nat} (h : i < l.length) : (l.set i s).take (i + 1) = l.take i ++ [s]:=by
  apply List.ext_getElem?
  intro j
  rcases Nat.lt_trichotomy j i with q | q | q
  · rw [List.getElem?_take_of_lt (by omega),List.getElem?_set_ne (by omega),List.getElem?_append_left (by simp;omega),List.getElem?_take_of_lt q]
  · subst q
    rw [List.getElem?_take_of_lt (by omega),List.getElem?_set_self h,List.getElem?_append_right (by simp;omega),List.length_take,Nat.min_eq_left (by omega)];simp
  · rw [List.getElem?_eq_none (by simp;omega),List.getElem?_eq_none (by simp;omega)]
theorem val_set_take {b : Nat} {l : List Nat} {i s : Nat} (h : i < l.length) : val b ((l.set i s).take (i + 1)) = val b (l.take i) + b ^ i * s:=by
  rw [take_set_succ h,val_snoc,List.length_take,Nat.min_eq_left (by omega)]
theorem rng_set {b : Nat} {l : List Nat} (h : rng b l) {i s : Nat} (hs : s < b) : rng b (l.set i s):=fun x hx=>by
  rcases List.mem_or_eq_of_mem_set hx with q | q
  · exact h x q
  · rw [q];exact hs
theorem rng_rep {b : Nat} (hb : 0 < b) (n : Nat) : rng b (List.replicate n 0):=fun x hx=>by rw [List.eq_of_mem_replicate hx];exact hb
theorem take_all {l : List Nat} {n : Nat} (h : l.length ≤ n) : l.take n = l:=List.take_of_length_le h

theorem powS (b i : Nat) : b ^ (i + 1) = b ^ i * b:=Nat.pow_succ ..
theorem add_step (b : Nat) {i : Nat} (T O P Q x y c : Nat) (h : O + T * c = P + Q) (hT : T = b ^ i:=by rfl) : O + T * ((x + y + c) % b) + b ^ (i + 1) * ((x + y + c) / b) = P + T * x + (Q + T * y):=by
  rw [powS,← hT]
  have h1:=Nat.mod_add_div (x + y + c) b
  have h2 : T * ((x + y + c) % b) + T * b * ((x + y + c) / b) = T * (x + y + c):=by rw [Nat.mul_assoc,← Nat.mul_add,h1]
  rw [Nat.mul_add,Nat.mul_add] at h2
  omega

/-! One digit of a quotient, guessed from the highest ones (base 2^32). -/
theorem kn_le {Y a c u v q r : Nat} (hY : Y = a * 4294967296 + c) (hq : q * a + r = u) : q * Y ≤ u * 4294967296 + v ↔ q * c ≤ 4294967296 * r + v:=by
  have : q * Y = q * a * 4294967296 + q * c:=by rw [hY,Nat.mul_add,Nat.mul_assoc]
  rw [this,← hq]
  generalize q * a = x
  generalize q * c = z
  omega
theorem kn_lt {Y u v : Nat} (hu : u < Y) (hv : v < 4294967296) : (u * 4294967296 + v) / Y < 4294967296:=by
  rw [Nat.div_lt_iff_lt_mul (by omega)]
  have : (u + 1) * 4294967296 ≤ Y * 4294967296:=Nat.mul_le_mul_right _ hu
  omega
theorem kn_start {Y a c u v : Nat} (hY : Y = a * 4294967296 + c) (ha : 0 < a) (hv : v < 4294967296) : (u * 4294967296 + v) / Y ≤ u / a:=by
  rw [← Nat.lt_succ_iff,Nat.div_lt_iff_lt_mul (show 0 < Y by omega)]
  have h1 : u < (u / a + 1) * a:=by rw [Nat.mul_comm];exact Nat.lt_mul_div_succ u ha
  have h2 : (u + 1) * 4294967296 ≤ (u / a + 1) * a * 4294967296:=Nat.mul_le_mul_right _ h1
  have h3 : (u / a + 1) * Y = (u / a + 1) * a * 4294967296 + (u / a + 1) * c:=by rw [hY,Nat.mul_add,Nat.mul_assoc]
  rw [Nat.succ_eq_add_one,h3]
  omega
theorem kn_small {Y a c u : Nat} (hY : Y = a * 4294967296 + c) (ha : 2147483648 ≤ a) (hc : c < 4294967296) (hu : u < Y) : u / a ≤ 4294967298:=by
  rw [← Nat.lt_succ_iff,Nat.div_lt_iff_lt_mul (by omega)]
  rw [Nat.succ_eq_add_one]
  omega
theorem kn_eq {Y N q : Nat} (hY : 0 < Y) (h1 : q * Y ≤ N) (h2 : N / Y ≤ q) : q = N / Y:=Nat.le_antisymm ((Nat.le_div_iff_mul_le hY).2 h1) h2
theorem kn_less {Y N q : Nat} (hY : 0 < Y) (h1 : N < q * Y) : N / Y < q:=(Nat.div_lt_iff_lt_mul hY).2 h1

theorem sub_step (b : Nat) {i : Nat} (T O P Q x y c s c' : Nat) (h : O + Q = P + T * c) (hs : s + y + c = x + b * c') (hT : T = b ^ i:=by rfl) : O + T * s + (Q + T * y) = P + T * x + b ^ (i + 1) * c':=by
  rw [powS,← hT]
  have h2 : T * s + T * y + T * c = T * x + T * b * c':=by rw [← Nat.mul_add,← Nat.mul_add,hs,Nat.mul_add,Nat.mul_assoc]
  omega
theorem len_mono {b n m : Nat} (hb : 2 ≤ b) (h : n ≤ m) : (digs b n).length ≤ (digs b m).length :=
  (digs_len hb).2 (Nat.lt_of_le_of_lt h ((digs_len hb).1 (Nat.le_refl _)))

theorem val_set (b : Nat) : ∀ {l : List Nat} {j s : Nat},j < l.length→val b (l.set j s) + b ^ j * l.getD j 0 = val b l + b ^ j * s
  | [],j,s,h=>by simp at h
  | x :: l,0,s,_=>by simp [val];omega
  | x :: l,j + 1,s,h=>by
    have ih:=val_set b (l:=l) (j:=j) (s:=s) (by simpa using h)
    have e : b ^ (j + 1) = b * b ^ j:=by rw [powS,Nat.mul_comm]
    simp only [List.set_cons_succ,val,List.getD_cons_succ,e,Nat.mul_assoc]
    have:=congrArg (b * ·) ih
    simp only [Nat.mul_add] at this
    omega
theorem getD_set {l : List Nat} {i j s : Nat} (h : j < l.length) : (l.set j s).getD i 0 = if i = j then s else l.getD i 0:=by
  by_cases e : i = j
  · subst e;simp [List.getD_eq_getElem?_getD,h]
  · simp [List.getD_eq_getElem?_getD,List.getElem?_set_ne (Ne.symm e),e]
theorem mul_step (b i k : Nat) (T O O' oj s c c' x y A Q : Nat) (hT : T = b ^ (i + k)) (hO : O' + T * oj = O + T * s) (h : O + T * c = A + b ^ i * x * Q) (ht : s + b * c' = x * y + oj + c) :
    O' + b ^ (i + k + 1) * c' = A + b ^ i * x * (Q + b ^ k * y):=by
  have e1 : T * s + T * b * c' = T * (x * y) + T * oj + T * c:=by rw [Nat.mul_assoc,← Nat.mul_add,ht,Nat.mul_add,Nat.mul_add]
  have e2 : b ^ i * x * (b ^ k * y) = T * (x * y):=by rw [hT,Nat.pow_add];simp only [Nat.mul_assoc,Nat.mul_left_comm x]
  rw [powS,← hT,Nat.mul_add,e2]
  omega
theorem val_rep0 (b : Nat) : ∀ n,val b (List.replicate n 0) = 0
  | 0=>rfl
  | n + 1=>by rw [List.replicate_succ,val_cons,val_rep0 b n];rfl
theorem getD_rep0 (n j : Nat) : (List.replicate n 0).getD j 0 = 0:=by
  simp only [List.getD_eq_getElem?_getD,List.getElem?_replicate];split <;> rfl
theorem drop_set_lt {l : List Nat} {i j s : Nat} (h : j < i) : (l.set j s).drop i = l.drop i:=List.drop_set_of_lt h
theorem drop_set_at {l : List Nat} {j s : Nat} (h : j < l.length) : (l.set j s).drop j = s :: l.drop (j + 1):=by
  rw [drop_getD (l:=l.set j s) (i:=j) (by simpa using h),drop_set_lt (Nat.lt_succ_self j),getD_set h,if_pos rfl]
theorem short_step (b V O by_ r x q r' : Nat) (h : V = O * by_ + r) (hq : q * by_ + r' = r * b + x) : x + b * V = (q + b * O) * by_ + r':=by
  rw [h,Nat.mul_add,Nat.add_mul,Nat.mul_assoc b O by_,Nat.mul_comm b r]
  omega

theorem push_up {x s low : Nat} (hx : x < 18446744073709551616) (hs : s < 64) (hl : low < 2 ^ s) :
    (x * 2 ^ s % 18446744073709551616 ||| low) + 18446744073709551616 * (x / 2 ^ (64 - s)) = x * 2 ^ s + low∧x / 2 ^ (64 - s) < 2 ^ s∧(x * 2 ^ s % 18446744073709551616 ||| low) < 18446744073709551616:=by
  have e : (18446744073709551616 : Nat) = 2 ^ (64 - s) * 2 ^ s:=by rw [← Nat.pow_add,show 64 - s + s = 64 by omega]
  have hsp : 0 < 2 ^ s:=Nat.two_pow_pos s
  have hle : 2 ^ s ≤ 2 ^ 63:=Nat.pow_le_pow_right (by decide) (by omega)
  have h1 : x * 2 ^ s % 18446744073709551616 = 2 ^ s * (x % 2 ^ (64 - s)):=by rw [e,Nat.mul_mod_mul_right,Nat.mul_comm]
  have h2 : x * 2 ^ s / 18446744073709551616 = x / 2 ^ (64 - s):=by rw [e,Nat.mul_div_mul_right _ _ hsp]
  have h3:=Nat.mod_add_div (x * 2 ^ s) 18446744073709551616
  have h4 : (x * 2 ^ s % 18446744073709551616 ||| low) = x * 2 ^ s % 18446744073709551616 + low:=by rw [h1,Nat.two_pow_add_eq_or_of_lt hl]
  refine ⟨by rw [h4];rw [h2] at h3;omega,?_,?_⟩
  · rw [Nat.div_lt_iff_lt_mul (Nat.two_pow_pos _),Nat.mul_comm,← e];exact hx
  · exact Nat.or_lt_two_pow (n:=64) (Nat.mod_lt _ (by decide)) (Nat.lt_of_lt_of_le hl (Nat.le_trans hle (by decide)))

theorem fill_next (k m : Nat) {i w : Nat} {o : List Nat} (ho : o.length = i) (h : i ≤ m) :
    (U (List.replicate k 0 ++ o ++ List.replicate (m + 1 - i) 0)).take (k + i) ++ [(w : Int)] ++ (U (List.replicate k 0 ++ o ++ List.replicate (m + 1 - i) 0)).drop (k + i + 1) =
      U (List.replicate k 0 ++ (o ++ [w]) ++ List.replicate (m + 1 - (i + 1)) 0):=by
  have hl : (List.replicate k 0 ++ o).length = k + i:=by simp [ho]
  rw [U_take,U_drop,List.take_left' hl,show [(w : Int)] = U [w] from rfl,U_append,U_append]
  congr 1
  rw [← List.drop_drop,List.drop_left' hl,List.drop_replicate,show m + 1 - i - 1 = m + 1 - (i + 1) by omega]
  simp
theorem val_zeros (b k : Nat) (l : List Nat) : val b (List.replicate k 0 ++ l) = b ^ k * val b l:=by
  rw [val_append,val_rep0];simp
theorem rng_zeros {b : Nat} (hb : 0 < b) (k : Nat) {l : List Nat} (h : rng b l) : rng b (List.replicate k 0 ++ l):=rng_append.2 ⟨rng_rep hb k,h⟩

theorem pull_down {x y s : Nat} (hx : x < 18446744073709551616) (hs : s < 64) :
    (x / 2 ^ s ||| y * 2 ^ (64 - s) % 18446744073709551616) < 18446744073709551616∧2 ^ s * (x / 2 ^ s ||| y * 2 ^ (64 - s) % 18446744073709551616) + x % 2 ^ s = x + 18446744073709551616 * (y % 2 ^ s):=by
  have e : (18446744073709551616 : Nat) = 2 ^ s * 2 ^ (64 - s):=by rw [← Nat.pow_add,show s + (64 - s) = 64 by omega]
  have h1 : y * 2 ^ (64 - s) % 18446744073709551616 = 2 ^ (64 - s) * (y % 2 ^ s):=by rw [e,Nat.mul_mod_mul_right,Nat.mul_comm]
  have h2 : x / 2 ^ s < 2 ^ (64 - s):=by rw [Nat.div_lt_iff_lt_mul (Nat.two_pow_pos _),Nat.mul_comm,← e];exact hx
  have h3 : (x / 2 ^ s ||| y * 2 ^ (64 - s) % 18446744073709551616) = 2 ^ (64 - s) * (y % 2 ^ s) + x / 2 ^ s:=by rw [h1,Nat.or_comm,Nat.two_pow_add_eq_or_of_lt h2]
  have h4:=Nat.mod_add_div x (2 ^ s)
  refine ⟨?_,?_⟩
  · refine Nat.or_lt_two_pow (n:=64) (Nat.lt_of_le_of_lt (Nat.div_le_self _ _) hx) (Nat.mod_lt _ (by decide))
  · rw [h3,Nat.mul_add,← Nat.mul_assoc,← e];omega
theorem low_zero {x s : Nat} (hs : s < 64) : x * 2 ^ (64 - s) % 18446744073709551616 = 0 ↔ x % 2 ^ s = 0:=by
  have e : (18446744073709551616 : Nat) = 2 ^ s * 2 ^ (64 - s):=by rw [← Nat.pow_add,show s + (64 - s) = 64 by omega]
  rw [e,Nat.mul_mod_mul_right]
  constructor
  · intro h
    rcases Nat.mul_eq_zero.1 h with q | q
    · exact q
    · exact absurd q (Nat.ne_of_gt (Nat.two_pow_pos _))
  · intro h;rw [h,Nat.zero_mul]
theorem right_step (b : Nat) {i : Nat} (T z O D0 P x y w r : Nat) (h : z * O + D0 = P + T * (x % z)) (hw : z * w + x % z = x + b * r) (hT : T = b ^ i:=by rfl) : z * (O + T * w) + D0 = P + T * x + b ^ (i + 1) * r:=by
  have e : T * (z * w) + T * (x % z) = T * x + T * b * r:=by rw [← Nat.mul_add,hw,Nat.mul_add,Nat.mul_assoc]
  rw [powS,← hT,Nat.mul_add,Nat.mul_left_comm z T w]
  omega

/-! ### Lengths -/
theorem digs_lt {b : Nat} (hb : 2 ≤ b) (n : Nat) : n < b ^ (digs b n).length:=(digs_len hb).1 (Nat.le_refl _)
theorem digs_mul_le' {b : Nat} (hb : 2 ≤ b) (n m : Nat) : (digs b (n * m)).length ≤ (digs b n).length + (digs b m).length:=by
  rw [digs_len hb,Nat.pow_add]
  rcases Nat.eq_zero_or_pos m with rfl | h
  · rw [Nat.mul_zero];exact Nat.mul_pos (Nat.pow_pos (by omega)) (Nat.pow_pos (by omega))
  · exact Nat.mul_lt_mul_of_lt_of_le (digs_lt hb n) (Nat.le_of_lt (digs_lt hb m)) (Nat.pow_pos (by omega))
theorem digs_add_le' {b : Nat} (hb : 2 ≤ b) (n m : Nat) : (digs b (n + m)).length ≤ max (digs b n).length (digs b m).length + 1:=by
  rw [digs_len hb,Nat.pow_succ]
  have h1:=Nat.lt_of_lt_of_le (digs_lt hb n) (Nat.pow_le_pow_right (show 0 < b by omega) (Nat.le_max_left (digs b n).length (digs b m).length))
  have h2:=Nat.lt_of_lt_of_le (digs_lt hb m) (Nat.pow_le_pow_right (show 0 < b by omega) (Nat.le_max_right (digs b n).length (digs b m).length))
  have:=Nat.mul_le_mul_left (b ^ max (digs b n).length (digs b m).length) hb
  omega

/-! ### A window of a list -/
theorem mid_get {p w r : List Nat} {i : Nat} (h : i < w.length) : (p ++ w ++ r).getD (p.length + i) 0 = w.getD i 0:=by
  rw [List.append_assoc,List.getD_eq_getElem?_getD,List.getElem?_append_right (by omega),Nat.add_sub_cancel_left,List.getElem?_append_left h,← List.getD_eq_getElem?_getD]
theorem mid_set {p w r : List Nat} {i s : Nat} (h : i < w.length) : (p ++ w ++ r).set (p.length + i) s = p ++ w.set i s ++ r:=by
  rw [List.append_assoc,List.append_assoc,List.set_append_right _ _ (by omega),Nat.add_sub_cancel_left,List.set_append_left _ _ h]

/-! ### Digits of a quotient -/
theorem kq {W y T a vt lo Q : Nat} (hW : W = lo + T * a) (hlo : lo < T) (hy : T * vt ≤ y) (hy0 : 0 < y) (hQ : a < (Q + 1) * vt) : W / y ≤ Q:=by
  refine Nat.lt_succ_iff.1 ((Nat.div_lt_iff_lt_mul hy0).2 ?_)
  have h1 : W < T * (a + 1):=by rw [hW,Nat.mul_add];omega
  have h2 : T * (a + 1) ≤ T * ((Q + 1) * vt):=Nat.mul_le_mul_left _ hQ
  have h3 : T * ((Q + 1) * vt) = (Q + 1) * (T * vt):=Nat.mul_left_comm _ _ _
  have h4 : (Q + 1) * (T * vt) ≤ (Q + 1) * y:=Nat.mul_le_mul_left _ hy
  exact Nat.lt_of_lt_of_le h1 (Nat.le_trans h2 (by rw [h3];exact h4))
theorem dig1 (b : Nat) {i : Nat} (T A P V q v w0 lo lo' carry c hi s br br' : Nat) (h : A + q * V = P + T * (br + carry)) (h1 : hi * b + lo = q * v) (h2 : lo' + b * c = lo + carry) (h3 : s + lo' + br = w0 + b * br') (hT : T = b ^ i:=by rfl) :
    A + T * s + q * (V + T * v) = P + T * w0 + b ^ (i + 1) * (br' + (hi + c)):=by
  have k : s + q * v + (br + carry) = w0 + b * (br' + (hi + c)):=by
    rw [Nat.mul_add,Nat.mul_add,Nat.mul_comm b hi];omega
  have k2 : T * s + T * (q * v) + T * (br + carry) = T * w0 + T * (b * (br' + (hi + c))):=by rw [← Nat.mul_add,← Nat.mul_add,k,Nat.mul_add]
  rw [Nat.pow_succ,← hT,Nat.mul_assoc T b,Nat.mul_add q,Nat.mul_left_comm q T v]
  omega
theorem val_last (b : Nat) {w : List Nat} {m : Nat} (h : w.length = m + 1) : val b w = val b (w.take m) + b ^ m * w.getD m 0:=by
  have:=val_take_succ b w m
  rwa [take_all (by omega)] at this

/-! ### Digits by their places -/
theorem getD_val {b : Nat} (hb : 0 < b) : ∀ {l : List Nat} (i : Nat),rng b l→l.getD i 0 = val b l / b ^ i % b
  | [],i,_=>by simp [val]
  | x :: l,0,h=>by
    rw [rng_cons] at h
    simp [val_cons,Nat.mod_eq_of_lt h.1]
  | x :: l,i + 1,h=>by
    rw [rng_cons] at h
    rw [List.getD_cons_succ,getD_val hb i h.2,val_cons,Nat.pow_succ,Nat.mul_comm (b ^ i),← Nat.div_div_eq_div_mul,Nat.add_mul_div_left _ _ hb,Nat.div_eq_of_lt h.1,Nat.zero_add]
theorem val_of_getD {b n : Nat} (hb : 0 < b) : ∀ (k : Nat) (l : List Nat),(∀ i,i < k→l.getD i 0 = n / b ^ i % b)→val b (l.take k) = n % b ^ k
  | 0,l,_=>by simp [val,Nat.mod_one]
  | k + 1,l,h=>by
    rw [val_take_succ,val_of_getD hb k l (fun i hi=>h i (by omega)),h k (by omega),Nat.pow_succ,Nat.mod_mul]
theorem digit_sub (n k r : Nat) (hr : r < 8) : n / 18446744073709551616 ^ k % 18446744073709551616 / 2 ^ (8 * r) % 256 = n / 256 ^ (8 * k + r) % 256:=by
  have e1 : (18446744073709551616 : Nat) = 256 ^ 8:=by decide
  have e2 : 2 ^ (8 * r) = 256 ^ r:=by rw [show (256 : Nat) = 2 ^ 8 from rfl,← Nat.pow_mul]
  rw [e1,e2,← Nat.pow_mul,Nat.pow_add,← Nat.div_div_eq_div_mul]
  obtain ⟨m,hm⟩ : ∃ m,m = n / 256 ^ (8 * k):=⟨_,rfl⟩
  rw [← hm,show (256 : Nat) ^ 8 = 256 ^ r * 256 ^ (8 - r) by rw [← Nat.pow_add];congr 1;omega,Nat.mod_mul_right_div_self,Nat.mod_mod_of_dvd]
  exact ⟨256 ^ (7 - r),by rw [← Nat.pow_succ'];congr 1;omega⟩
theorem getD_rev {l : List Nat} {i : Nat} (h : i < l.length) : l.reverse.getD i 0 = l.getD (l.length - 1 - i) 0:=by
  rw [List.getD_eq_getElem?_getD,List.getD_eq_getElem?_getD,List.getElem?_reverse h]
theorem rng_rev {b : Nat} {l : List Nat} (h : rng b l) : rng b l.reverse:=fun x hx=>h x (by simpa using hx)
theorem or_low {a b k : Nat} (ha : a % 2 ^ k = 0) (hb : b < 2 ^ k) : a ||| b = a + b:=by
  have : a = 2 ^ k * (a / 2 ^ k):=by have:=Nat.div_add_mod a (2 ^ k);omega
  rw [this,← Nat.two_pow_add_eq_or_of_lt hb]
end Go.Nums

/-
  One step that can be taken, of floats and in an order of one's own too.
-/
namespace Go.Proofs
open Go Go.Abs
attribute [local irreducible] thenA blockA scopeA awp aw Stp EndF EndP EndN EndG EndH EndT aOps aOpsM
theorem zmA {P : Program} {mu : FuncId→Bool} {ops : Array Oper} {Mn : List Nm} {S0 : Store} {lds π : List Nat} {K : St→Prop} {st : St} (h : aOpsM P mu ops Mn S0 lds π K st) : aOpsM P mu ops Mn S0 lds π K st:=h
theorem gF {A C : Prop} (h : C) (t : Wr C→A:=by intro h;(first | refine zr1 ?_ | refine zr2 ?_ | refine zr3 ?_ | refine zr4 ?_ | refine zr5 ?_ | refine zr6 ?_ | refine zr7 ?_ | refine zr8 ?_ | refine zr9 ?_ | refine zr10 ?_ | refine zr11 ?_ | refine zr12 ?_ | refine zr13 ?_ | refine zr14 ?_ | refine zr15 ?_ | refine zr16 ?_ | refine zr17 ?_ | refine zr18 ?_ | refine zr19 ?_ | refine zr20 ?_ | refine zr21 ?_ | refine zr22 ?_ | refine zr23 ?_ | refine zr24 ?_ | ((with_reducible apply zmA);first | refine zm4 ?_ | refine zm5 ?_ | refine zm6 ?_) | (refine zw ?_;first | refine zg1 ttOk ?_ | refine zg2 ttOk ?_ | refine zg3 ttOk ?_ | refine zc1 ttOk ?_ | refine zc2 ttOk ?_ | refine zc3 ttOk ?_ | refine zc4 ttOk ?_ | refine zc5 ttOk ?_ | refine zc6 ttOk ?_ | refine zc7 ttOk ?_ | refine zc8 ttOk ?_ | refine zc9 ttOk ?_ | refine zc10 ttOk ?_ | refine zc11 ttOk ?_ | refine zc12 ttOk ?_ | refine zn1 ttOk ?_ | refine zn2 ttOk ?_ | refine zn3 ttOk ?_ | refine zn4 ttOk ?_ | refine zn5 ttOk ?_ | refine zn6 ttOk ?_ | refine zn7 ttOk ?_ | refine zn8 ttOk ?_ | refine zn9 ttOk ?_ | refine zn10 ttOk ?_ | refine zn11 ttOk ?_ | refine zn12 ttOk ?_ | refine zp1 ttOk ?_ | refine zp1' ttOk ?_ | refine zp2 ttOk ?_ | refine zp2' ttOk ?_ | refine zp3 ttOk ?_ | refine zp3' ttOk ?_ | refine zp4 ttOk ?_ | refine zp4' ttOk ?_ | refine zp5 ttOk ?_ | refine zp5' ttOk ?_ | refine zp6 ttOk ?_ | refine zp6' ttOk ?_ | refine zg4 ttOk ?_ | refine zg5 ttOk ?_ | refine zg6 ttOk ?_ | refine zg7 ttOk ?_ | refine zg8 ttOk ?_ | refine zg9 ttOk ?_ | refine zg10 ttOk ?_ | refine zg22 ttOk ?_ | refine zg11 ttOk ?_ | refine zg12 ttOk ?_ | refine zg13 ttOk ?_ | refine zg14 ttOk ?_ | refine zg15 ttOk ?_ | refine zg16 ttOk ?_ | refine zg17 ttOk ?_ | refine zg18 ttOk ?_ | refine zg19 ttOk ?_ | refine zg20 ttOk ?_ | refine zg21 ttOk ?_));exact h.p) : A:=t ⟨h⟩
end Go.Proofs

/-
  What modulo does, in plain numbers.
-/
namespace Go.Proofs


def modIn (r : List Int) (m : Int) (top : Nat) : Nat→List Int→List Int
  | 0,p=>p
  | i + 1,p=>let q:=modIn r m top i p;q.set (top - 1 - i) ((q.getD (top - 1 - i) 0 + q.getD top 0 * r.getD i 0) % m)
def modTop (r : List Int) (m : Int) : Nat→List Int→List Int
  | 0,p=>p
  | k + 1,p=>modTop r m k (modIn r m (r.length + k) r.length p)
abbrev modF (r : List Int) (m : Int) (p : List Int) : List Int:=modTop r m (p.length - r.length) p

theorem modIn_len (r : List Int) (m : Int) (top : Nat) : ∀ (i : Nat) (p : List Int),(modIn r m top i p).length = p.length
  | 0,p=>rfl
  | i + 1,p=>by simp only [modIn,List.length_set,modIn_len r m top i p]
theorem modTop_len (r : List Int) (m : Int) : ∀ (k : Nat) (p : List Int),(modTop r m k p).length = p.length
  | 0,p=>rfl
  | k + 1,p=>by rw [modTop,modTop_len r m k,modIn_len]

def prodIn (p q : List Int) (i : Nat) : Nat→List Int→List Int
  | 0,o=>o
  | k + 1,o=>(prodIn p q i k o).set (i + k) ((prodIn p q i k o).getD (i + k) 0 + p.getD i 0 * q.getD k 0)
def prodRow (p q : List Int) : Nat→List Int→List Int
  | 0,o=>o
  | i + 1,o=>prodIn p q i q.length (prodRow p q i o)
def prodF (m : Int) (p q : List Int) : List Int:=(prodRow p q p.length (List.replicate (p.length + q.length) 0)).map (· % m)
theorem prodIn_len (p q : List Int) (i : Nat) (o : List Int) : ∀ k,(prodIn p q i k o).length = o.length
  | 0=>rfl
  | k + 1=>by rw [prodIn,List.length_set,prodIn_len p q i o k]
theorem prodRow_len (p q : List Int) (o : List Int) : ∀ i,(prodRow p q i o).length = o.length
  | 0=>rfl
  | i + 1=>by rw [prodRow,prodIn_len,prodRow_len p q o i]
theorem prodF_len (m : Int) (p q : List Int) : (prodF m p q).length = p.length + q.length:=by rw [prodF,List.length_map,prodRow_len,List.length_replicate]

def modSq (r : List Int) (m : Int) (w : List Int) : List Int:=(modF r m (prodF m w w)).take (min r.length (w.length + w.length))
def modUp (r : List Int) (m : Int) (w : List Int) : List Int:=(modF r m (0 :: w)).take (min r.length (w.length + 1))
def modPow (r : List Int) (m : Int) (e : Nat) : Nat→List Int→List Int
  | 0,w=>w
  | k + 1,w=>modPow r m e k (if e / 2 ^ k % 2 = 1 then modUp r m (modSq r m w) else modSq r m w)
def dotP (w f : List Int) : Nat→Int
  | 0=>0
  | i + 1=>dotP w f i + w.getD i 0 * f.getD i 0
def modR (fs bs : List Int) (m : Int) (e bits : Nat) : Int :=
  let r:=bs.map (· % m)
  let w:=modPow r m e bits ((modF r m [1]).take (min r.length 1))
  dotP w fs w.length % m
end Go.Proofs

/-
  big: sizes. Trim, compare.
-/
namespace Go.Proofs
open Go Go.Abs Go.Nums
attribute [local irreducible] thenA blockA awp aw Stp EndF aOps

abbrev B : Nat:=18446744073709551616
theorem hB : 2 ≤ B:=by decide
abbrev us (l : List Nat) : AVal:=.c (.ints .u64 (U l))
abbrev wi (s : Bool) (l : List Nat) : AVal:=.agg [.sc (.bool s),.ints .u64 (U l)]
theorem kU {A C : Store} {l m : List Nat} (h : l = m) : FrzV A C (us l) (us m):=kI (congrArg U h)

theorem kv {A : Prop} (t : A:=by first | (with_reducible apply kS) | (with_reducible apply kN;first | with_reducible rfl | omega | rfl) | (with_reducible apply kU;first | with_reducible rfl | rfl) | (with_reducible apply kWin;exact ovNe lks;all_goals first | with_reducible rfl | omega | rfl) | (with_reducible apply kPtr;exact ovNe lks) | (with_reducible apply kPim;first | with_reducible rfl | rfl) | (with_reducible apply kB;first | with_reducible rfl | rfl | omega) | (with_reducible apply kO;first | with_reducible rfl | rfl) | (with_reducible apply kA;first | with_reducible rfl | rfl) | (with_reducible apply kJ) | (with_reducible apply kI;first | with_reducible rfl | rfl) | exact .of_nm0 nmX | (apply kS) | (apply kN;first | with_reducible rfl | omega | rfl) | (apply kU;first | with_reducible rfl | rfl) | (apply kWin;exact ovNe lks;all_goals first | with_reducible rfl | omega | rfl) | (apply kPtr;exact ovNe lks) | (apply kPim;first | with_reducible rfl | rfl) | (apply kB;first | with_reducible rfl | rfl | omega) | (apply kI;first | with_reducible rfl | rfl) | (apply kJ) | (refine kAccK (ov_of lks) (ov_of lks) ?_ ?_ <;> first | rfl | (simp [U];done) | (simp [U];omega)) | (apply kO;first | with_reducible rfl | rfl) | (apply kA;first | with_reducible rfl | rfl) | (refine kP2 (ov_of lks) rfl (by exact rfl) ?_ ?_ <;> first | exact lS rfl | exact lI rfl | exact lJ | exact lW (ov_of lks) rfl (by simp) rfl) | (refine kP3 (ov_of lks) rfl (by exact rfl) ?_ ?_ ?_ <;> first | exact lS rfl | exact lI rfl | exact lJ | exact lW (ov_of lks) rfl (by simp) rfl) | ((refine kP (ov_of lks) rfl ?_;repeat' (first | exact True.intro | refine And.intro ?_ ?_)) <;> first | exact lS rfl | exact lI rfl | exact lJ)) : A:=t

theorem c_trim (l : List Nat) (hl : rng B l) (hs : l.length < 2 ^ 62) : AFun Tryz.prog 132 [us l] (us (digs B (val B l))):=by
  refine aF (mu:=muF) Tryz.func132 fun S hS=>?_
  repeat refine gO ?_
  refine awp_rep (ι:=List Nat) (fun m=>⟨lk' [(0,us m)],ov [] (pushS S)⟩) (fun m=>val B m = val B l∧rng B m∧m.length < 2 ^ 62) (fun m=>m.length) l ⟨rfl,hl,hs⟩
    (frz hS rfl trivial ⟨⟨_,rfl,.c (.base (.keep (fun m h=>h.elim)))⟩,trivial⟩) ?_
  rintro m ⟨hv,hr,hm⟩
  repeat refine gO ?_
  have hU:=U_len m
  (refine zw ?_;refine s_cmp (fun h1=>?_) (fun h1=>?_))
  · repeat refine gO ?_
    (refine zw ?_;refine s_cmp (fun h2=>?_) (fun h2=>?_))
    · repeat refine gO ?_
      have e : ((m.length : Int) - 1).toNat = m.length - 1:=by omega
      rw [U_get,U_len,e] at h2
      rw [U_len] at h1
      refine ⟨m.take (m.length - 1),frz hS rfl trivial ⟨⟨_,rfl,kI ?_⟩,trivial⟩,⟨?_,rng_take hr _,?_⟩,?_⟩
      · rw [List.drop_zero,U_take,U_len];congr 2
      · rw [← hv]
        conv=>rhs;rw [snoc_of (l:=m) (by omega)]
        rw [show m.getD (m.length - 1) 0 = 0 by omega,val_snoc0]
      · simp;omega
      · simp;omega
    · repeat refine gO ?_
      refine eF hS ?_ (fl':=[(2,us (digs B (val B l)))])
      refine ⟨⟨_,rfl,kI (congrArg U ?_)⟩,trivial⟩
      rw [← hv,digs_val hB hr ?_]
      · intro hne
        rw [getLast_getD hne]
        rw [U_get,U_len] at h2
        have e : ((m.length : Int) - 1).toNat = m.length - 1:=by omega
        rw [e] at h2;omega
  · repeat refine gO ?_
    refine eF hS ?_ (fl':=[(2,us (digs B (val B l)))])
    refine ⟨⟨_,rfl,kI (congrArg U ?_)⟩,trivial⟩
    have hm0 : m = []:=List.eq_nil_of_length_eq_zero (by omega)
    rw [← hv,hm0,val_nil,digs_zero]
end Go.Proofs

/-
  bits.Add64, bits.Sub64: the model's own.
-/
namespace Go.Proofs
open Go Go.Abs Go.Nums

abbrev uv (n : Nat) : AVal:=ivl .u64 (n : Int)
abbrev iv (n : Nat) : AVal:=ivl .i64 (n : Int)

theorem vs_three {w : World} {ρ : Nm→Nat} {S : Store} {x y z : Nat} {vs : List Value} (h : VSs w ρ S [uv x,uv y,uv z] vs) : vs = [.int .u64 x,.int .u64 y,.int .u64 z]:=by
  obtain ⟨h1,h2⟩:=h
  obtain ⟨a,ha,ea⟩:=h2 0 _ rfl
  obtain ⟨b,hb,eb⟩:=h2 1 _ rfl
  obtain ⟨c,hc,ec⟩:=h2 2 _ rfl
  match vs,h1 with
  | [p,q,r],_ =>
    simp only [List.getElem?_cons_zero,List.getElem?_cons_succ,Option.some.injEq] at ha hb hc
    subst ha;subst hb;subst hc
    rw [show p = _ from ea,show q = _ from eb,show r = _ from ec]

theorem vs_two {w : World} {ρ : Nm→Nat} {S : Store} (a b : Value) : VS w ρ S (.tup [.c (.sc a),.c (.sc b)]) (.tuple #[a,b]):=by
  refine ⟨_,rfl,rfl,fun i x hi=>?_⟩
  match i with
  | 0=>simp only [List.getElem?_cons_zero,Option.some.injEq] at hi;subst hi;exact ⟨a,rfl,rfl⟩
  | 1=>simp only [List.getElem?_cons_succ,List.getElem?_cons_zero,Option.some.injEq] at hi;subst hi;exact ⟨b,rfl,rfl⟩
  | i + 2=>simp at hi

def subE : Array Value→Sem Value:=(Extern.MathBitsCarry.rows.getD 1 ("",fun _=>pure undef)).2
theorem run_subE {P : Program} (x y b : Nat) (hb : b ≤ 1) (w : World) : (subE #[.int .u64 x,.int .u64 y,.int .u64 b]).run P w =
    .ok (.tuple #[.int .u64 (((x + 18446744073709551616 - y - b) % 18446744073709551616 : Nat) : Int),.int .u64 ((if x < y + b then 1 else 0 : Nat) : Int)]) w:=by
  have : b = 0 ∨ b = 1:=by omega
  rcases this with rfl | rfl <;> rfl

theorem c_add64 (x y c : Nat) (hc : c ≤ 1) : AFun Tryz.prog 133 [uv x,uv y,uv c] (.tup [uv ((x + y + c) % 18446744073709551616),uv ((x + y + c) / 18446744073709551616)]) where
  calls Φ n S _ _ _ w ρ vs _ _ hv:=by
    rw [vs_three hv]
    refine .inr ⟨_,?_,vs_two _ _,rfl⟩
    rw [show ([Value.int .u64 x,Value.int .u64 y,Value.int .u64 c] : List Value).toArray = #[.int .u64 x,.int .u64 y,.int .u64 c] from rfl]
    rw [run_callFunc_extern Tryz.func133 (by kernel_rfl) (by kernel_rfl) (by kernel_rfl) (e:=add64Entry) (by kernel_rfl),run_add64 x y c (by omega) (by omega) (by omega) (by omega)]
    simp only [Result.andThen]
    congr 5 <;> omega
  res0:=by simp [nm0,AVal.at,AVal.at1,Cell.at]
  args0:=by simp [nm0,AVal.at,AVal.at1,Cell.at]

theorem c_sub64 (x y c : Nat) (hc : c ≤ 1) : AFun Tryz.prog 134 [uv x,uv y,uv c] (.tup [uv ((x + 18446744073709551616 - y - c) % 18446744073709551616),uv (if x < y + c then 1 else 0)]) where
  calls Φ n S _ _ _ w ρ vs _ _ hv:=by
    rw [vs_three hv]
    refine .inr ⟨_,?_,vs_two _ _,rfl⟩
    rw [show ([Value.int .u64 x,Value.int .u64 y,Value.int .u64 c] : List Value).toArray = #[.int .u64 x,.int .u64 y,.int .u64 c] from rfl]
    rw [run_callFunc_extern Tryz.func134 (by kernel_rfl) (by kernel_rfl) (by kernel_rfl) (e:=subE) (by kernel_rfl),run_subE x y c hc]
    rfl
  res0:=by simp [nm0,AVal.at,AVal.at1,Cell.at]
  args0:=by simp [nm0,AVal.at,AVal.at1,Cell.at]
end Go.Proofs

/-
  big: compare.
-/
namespace Go.Proofs
open Go Go.Abs Go.Nums
attribute [local irreducible] thenA blockA awp aw Stp EndF aOps
set_option linter.unusedSimpArgs false

theorem c_compare (a b : Nat) (ha : (digs B a).length < 2 ^ 40) (hb : (digs B b).length < 2 ^ 40) : AFun Tryz.prog 91 [us (digs B a),us (digs B b)] (ivl .i64 (cmpN a b)):=by
  refine aF (mu:=muF) Tryz.func91 fun S hS=>?_
  have hla:=U_len (digs B a)
  have hlb:=U_len (digs B b)
  repeat refine gO ?_
  (refine zw ?_;refine s_cmp (fun h1=>?_) (fun h1=>?_))
  · repeat refine gO ?_
    refine eF hS ?_ (fl':=[(4,ivl .i64 (cmpN a b))])
    refine ⟨⟨_,rfl,kN ?_⟩,trivial⟩
    have:=len_lt hB (n:=a) (m:=b) (by omega)
    simp [cmpN,this]
  · repeat refine gO ?_
    (refine zw ?_;refine s_cmp (fun h2=>?_) (fun h2=>?_))
    · repeat refine gO ?_
      refine eF hS ?_ (fl':=[(4,ivl .i64 (cmpN a b))])
      refine ⟨⟨_,rfl,kN ?_⟩,trivial⟩
      have:=len_lt hB (n:=b) (m:=a) (by omega)
      have h' : ¬ a < b:=by omega
      simp [cmpN,this,h']
    · repeat refine gO ?_
      have hn : (digs B a).length = (digs B b).length:=by omega
      refine awp_rep (ι:=Nat) (fun i=>⟨lk' [(0,us (digs B a)),(1,us (digs B b)),(5,ivl .i64 ((i : Int) - 1))],ov [] (pushS S)⟩) (fun i=>i ≤ (digs B a).length∧(digs B a).drop i = (digs B b).drop i) (fun i=>i) (digs B a).length
        ⟨Nat.le_refl _,by rw [List.drop_of_length_le (Nat.le_refl _),List.drop_of_length_le (by omega)]⟩
        (frz hS rfl trivial ⟨⟨_,rfl,kI rfl⟩,⟨_,rfl,kI rfl⟩,⟨_,rfl,kN (by omega)⟩,trivial⟩) ?_
      rintro i ⟨hi,he⟩
      repeat refine gO ?_
      (refine zw ?_;refine s_cmp (fun h3=>?_) (fun h3=>?_))
      · repeat refine gO ?_
        have e1 : ((i : Int) - 1).toNat = i - 1:=by omega
        rw [U_get,U_get,e1]
        (refine zw ?_;refine s_cmp (fun h4=>?_) (fun h4=>?_))
        · repeat refine gO ?_
          rw [U_get,U_get,e1]
          (refine zw ?_;refine s_cmp (fun h5=>?_) (fun h5=>?_))
          · repeat refine gO ?_
            refine eF hS ?_ (fl':=[(4,ivl .i64 (cmpN a b))])
            refine ⟨⟨_,rfl,kN ?_⟩,trivial⟩
            have:=val_top_lt (rng_digs hB a) (i:=i - 1) (m:=digs B b) (by omega) (by omega) (by rw [show i - 1 + 1 = i by omega];exact he) (by omega)
            rw [val_digs hB,val_digs hB] at this
            simp [cmpN,this]
          · repeat refine gO ?_
            refine eF hS ?_ (fl':=[(4,ivl .i64 (cmpN a b))])
            refine ⟨⟨_,rfl,kN ?_⟩,trivial⟩
            have:=val_top_lt (rng_digs hB b) (i:=i - 1) (m:=digs B a) (by omega) (by omega) (by rw [show i - 1 + 1 = i by omega];exact he.symm) (by omega)
            rw [val_digs hB,val_digs hB] at this
            have h' : ¬ a < b:=by omega
            simp [cmpN,this,h']
        · repeat refine gO ?_
          refine ⟨i - 1,frz hS rfl trivial ⟨⟨_,rfl,kI rfl⟩,⟨_,rfl,kI rfl⟩,⟨_,rfl,kN (by omega)⟩,trivial⟩,⟨by omega,?_⟩,by omega⟩
          rw [drop_getD (l:=digs B a) (i:=i - 1) (by omega),drop_getD (l:=digs B b) (i:=i - 1) (by omega),show i - 1 + 1 = i by omega,he]
          congr 1
          omega
      · repeat refine gO ?_
        refine eF hS ?_ (fl':=[(4,ivl .i64 (cmpN a b))])
        refine ⟨⟨_,rfl,kN ?_⟩,trivial⟩
        have hi0 : i = 0:=by omega
        subst hi0
        have:=digs_inj hB (by simpa using he : digs B a = digs B b)
        simp [cmpN,this]
end Go.Proofs

/-
  big: plus.
-/
namespace Go.Proofs
open Go Go.Abs Go.Nums
attribute [local irreducible] thenA blockA awp aw Stp EndF aOps
set_option linter.unusedSimpArgs false

theorem c_plus (a b : Nat) (ha : (digs B a).length < 2 ^ 40) (hb : (digs B b).length < 2 ^ 40) : AFun Tryz.prog 90 [us (digs B a),us (digs B b)] (us (digs B (a + b))):=by
  refine aF (mu:=muF) Tryz.func90 fun S hS=>?_
  refine awp_seq ?_
  repeat refine gOR ?_
  refine awp_seq ?_
  refine awp_mid (fun st=>∃ p q : Nat,Weak st ⟨lk' [(0,us (digs B p)),(1,us (digs B q))],ov [] (pushS S)⟩∧p + q = a + b∧(digs B q).length ≤ (digs B p).length∧(digs B p).length < 2 ^ 40) ?_ ?_
  · have hla:=U_len (digs B a)
    have hlb:=U_len (digs B b)
    repeat refine gO ?_
    (refine zw ?_;refine s_cmp (fun h1=>?_) (fun h1=>?_))
    · repeat refine gO ?_
      exact ⟨b,a,frz hS rfl trivial ⟨⟨_,rfl,kU rfl⟩,⟨_,rfl,kU rfl⟩,trivial⟩,by omega,by omega,hb⟩
    · repeat refine gO ?_
      exact ⟨a,b,frz hS rfl trivial ⟨⟨_,rfl,kU rfl⟩,⟨_,rfl,kU rfl⟩,trivial⟩,by omega,by omega,ha⟩
  · rintro st ⟨p,q,hw,hpq,hle,hp⟩
    refine awp_weak _ hw ?_
    have hlp:=U_len (digs B p)
    have hlq:=U_len (digs B q)
    repeat refine gO ?_
    have e0 : (((U (digs B p)).length : Int) + 1).toNat = (digs B p).length + 1:=by omega
    refine awp_rep3 (fun (i : Nat) (o : List Nat) (c : Nat)=>⟨lk' [(0,us (digs B p)),(1,us (digs B q)),(5,.c (.win (.loc 20) 0 ((digs B p).length + 1) ((digs B p).length + 1))),(6,uv c),(21,us (digs B p)),(22,iv (digs B p).length),(23,iv i)],
        ov [(.loc 20,.ints 55 .u64 (U o))] (pushS S)⟩)
      (fun i o c=>i ≤ (digs B p).length∧o.length = (digs B p).length + 1∧rng B o∧c ≤ 1∧val B (o.take i) + B ^ i * c = val B ((digs B p).take i) + val B ((digs B q).take i)) (fun i _ _=>(digs B p).length - i)
      0 (List.replicate ((digs B p).length + 1) 0) 0 ⟨Nat.zero_le _,by simp,rng_rep (by decide) _,by simp,by simp [val]⟩
      (frz hS rfl ⟨.inl ⟨_,ov_of lks,kO (by rw [e0];exact U_rep _ 0)⟩,trivial⟩
        ⟨⟨_,rfl,kU rfl⟩,⟨_,rfl,kU rfl⟩,⟨_,rfl,kWin (by simp [ov,lkS]) rfl e0 e0⟩,⟨_,rfl,kN rfl⟩,⟨_,rfl,kU rfl⟩,⟨_,rfl,kN (by omega)⟩,⟨_,rfl,kN rfl⟩,trivial⟩) ?_
    rintro i o c ⟨h1,h2,h3,h4,h5⟩
    have hlo:=U_len o
    repeat refine gO ?_
    (refine zw ?_;refine s_cmp (fun h6=>?_) (fun h6=>?_))
    · repeat refine gOR ?_
      iterate 4 (refine awp_seq ?_;repeat refine gOR ?_)
      refine awp_seq ?_
      have ei : (i : Int).toNat = i:=by omega
      refine awp_mid (fun st=>Weak st ⟨lk' [(0,us (digs B p)),(1,us (digs B q)),(5,.c (.win (.loc 20) 0 ((digs B p).length + 1) ((digs B p).length + 1))),(6,uv c),(7,iv i),(8,uv ((digs B p).getD i 0)),(9,uv ((digs B q).getD i 0)),(21,us (digs B p)),(22,iv (digs B p).length),(23,iv i)],
        ov [(.loc 20,.ints 55 .u64 (U o))] (pushS S)⟩) ?_ ?_
      · repeat refine gO ?_
        (refine zw ?_;refine s_cmp (fun h7=>?_) (fun h7=>?_))
        · repeat refine gO ?_
          exact frz hS rfl ⟨.inl ⟨_,ov_of lks,kO rfl⟩,trivial⟩
            ⟨⟨_,rfl,kU rfl⟩,⟨_,rfl,kU rfl⟩,⟨_,rfl,kWin (by simp [ov,lkS]) rfl rfl rfl⟩,⟨_,rfl,kN rfl⟩,⟨_,rfl,kN rfl⟩,⟨_,rfl,kN (by rw [U_get];rfl)⟩,⟨_,rfl,kN (by rw [U_get];rfl)⟩,⟨_,rfl,kU rfl⟩,⟨_,rfl,kN rfl⟩,⟨_,rfl,kN rfl⟩,trivial⟩
        · repeat refine gO ?_
          exact frz hS rfl ⟨.inl ⟨_,ov_of lks,kO rfl⟩,trivial⟩
            ⟨⟨_,rfl,kU rfl⟩,⟨_,rfl,kU rfl⟩,⟨_,rfl,kWin (by simp [ov,lkS]) rfl rfl rfl⟩,⟨_,rfl,kN rfl⟩,⟨_,rfl,kN rfl⟩,⟨_,rfl,kN (by rw [U_get];rfl)⟩,⟨_,rfl,kN (by rw [List.getD_eq_getElem?_getD,List.getElem?_eq_none (by omega)];rfl)⟩,⟨_,rfl,kU rfl⟩,⟨_,rfl,kN rfl⟩,⟨_,rfl,kN rfl⟩,trivial⟩
      · intro st2 hw2
        refine awp_weak _ hw2 ?_
        repeat refine gO ?_
        (refine zw ?_;refine s_call (c_add64 _ _ c h4) ?_)
        repeat refine gO ?_
        have hx:=getD_lt (b:=B) (by decide) (rng_digs hB p) i
        have hy:=getD_lt (b:=B) (by decide) (rng_digs hB q) i
        refine ⟨i + 1,o.set i (((digs B p).getD i 0 + (digs B q).getD i 0 + c) % B),((digs B p).getD i 0 + (digs B q).getD i 0 + c) / B,
          frz hS rfl ⟨.inl ⟨_,ov_of lks,kO (by rw [ei,Nat.zero_add];exact U_set _ _ _)⟩,trivial⟩
            ⟨⟨_,rfl,kU rfl⟩,⟨_,rfl,kU rfl⟩,⟨_,rfl,kWin (by simp [ov,lkS]) rfl rfl rfl⟩,⟨_,rfl,kN rfl⟩,⟨_,rfl,kU rfl⟩,⟨_,rfl,kN rfl⟩,⟨_,rfl,kN rfl⟩,trivial⟩,
          ⟨by omega,by simpa using h2,rng_set h3 (Nat.mod_lt _ (by decide)),?_,?_⟩,by omega⟩
        · have : (digs B p).getD i 0 + (digs B q).getD i 0 + c < B * 2:=by omega
          have:=Nat.div_lt_of_lt_mul this
          omega
        · rw [val_set_take (by omega),val_take_succ,val_take_succ]
          exact add_step B (B ^ i) _ _ _ _ _ _ h5
    · repeat refine gO ?_
      have hi : i = (digs B p).length:=by omega
      subst hi
      refine aw_weak ⟨lk' [(52,us (o.set (digs B p).length c))],ov [] (pushS S)⟩ ?_ ?_
      · refine frz hS rfl trivial ⟨⟨_,rfl,kW (ov_of lks) rfl ?_ ?_⟩,trivial⟩
        · rw [List.length_set];omega
        · rw [List.drop_zero,hlp,Nat.zero_add,Int.toNat_natCast,U_set,U_take,take_all (by simp;omega)]
      (refine zw ?_;refine s_call (c_trim (o.set (digs B p).length c) (rng_set h3 (Nat.lt_of_le_of_lt h4 (by decide))) (by rw [List.length_set];omega)) ?_)
      repeat refine gO ?_
      refine eF hS ?_ (fl':=[(4,us (digs B (a + b)))])
      refine ⟨⟨_,rfl,kU ?_⟩,trivial⟩
      rw [← hpq,take_all hle,take_all (Nat.le_refl _),val_digs hB,val_digs hB] at *
      have h7:=val_set_take (b:=B) (l:=o) (i:=(digs B p).length) (s:=c) (by omega)
      rw [take_all (by simp;omega)] at h7
      rw [h7,h5]
end Go.Proofs

/-
  bits: Mul64, Len64, LeadingZeros64.
-/
namespace Go.Proofs
open Go Go.Abs Go.Nums
attribute [local irreducible] thenA blockA awp aw Stp EndF aOps
set_option linter.unusedSimpArgs false

theorem c_mul64 (x y : Nat) (hx : x < B) (hy : y < B) : AFun Tryz.prog 135 [uv x,uv y] (.tup [uv (x * y / 18446744073709551616),uv (x * y % 18446744073709551616)]):=by
  have hx : x < 18446744073709551616:=hx
  have hy : y < 18446744073709551616:=hy
  refine aF (mu:=muF) Tryz.func135 fun S hS=>?_
  repeat refine gO ?_
  (first | refine stp_mul 4294967295 4294967295 (by exact rfl) (by exact rfl) (by first | exact True.intro | omega | (simp only [and_true,List.length_map,List.length_replicate,List.length_set,List.length_append,List.length_cons,List.length_nil,List.length_take,List.length_drop] at *;omega)) (by first | exact True.intro | omega | (simp only [and_true,List.length_map,List.length_replicate,List.length_set,List.length_append,List.length_cons,List.length_nil,List.length_take,List.length_drop] at *;omega)) (by decide) (fun p00 hp00 hp000 hp001=>?_) | refine aw_cons (stp_mul 4294967295 4294967295 (by exact rfl) (by exact rfl) (by first | exact True.intro | omega | (simp only [and_true,List.length_map,List.length_replicate,List.length_set,List.length_append,List.length_cons,List.length_nil,List.length_take,List.length_drop] at *;omega)) (by first | exact True.intro | omega | (simp only [and_true,List.length_map,List.length_replicate,List.length_set,List.length_append,List.length_cons,List.length_nil,List.length_take,List.length_drop] at *;omega)) (by decide) (fun p00 hp00 hp000 hp001=>?_)) | refine aOps_cons (stp_mul 4294967295 4294967295 (by exact rfl) (by exact rfl) (by first | exact True.intro | omega | (simp only [and_true,List.length_map,List.length_replicate,List.length_set,List.length_append,List.length_cons,List.length_nil,List.length_take,List.length_drop] at *;omega)) (by first | exact True.intro | omega | (simp only [and_true,List.length_map,List.length_replicate,List.length_set,List.length_append,List.length_cons,List.length_nil,List.length_take,List.length_drop] at *;omega)) (by decide) (fun p00 hp00 hp000 hp001=>?_)))
  repeat refine gO ?_
  (first | refine stp_mul 4294967295 4294967295 (by exact rfl) (by exact rfl) (by first | exact True.intro | omega | (simp only [and_true,List.length_map,List.length_replicate,List.length_set,List.length_append,List.length_cons,List.length_nil,List.length_take,List.length_drop] at *;omega)) (by first | exact True.intro | omega | (simp only [and_true,List.length_map,List.length_replicate,List.length_set,List.length_append,List.length_cons,List.length_nil,List.length_take,List.length_drop] at *;omega)) (by decide) (fun p10 hp10 hp100 hp101=>?_) | refine aw_cons (stp_mul 4294967295 4294967295 (by exact rfl) (by exact rfl) (by first | exact True.intro | omega | (simp only [and_true,List.length_map,List.length_replicate,List.length_set,List.length_append,List.length_cons,List.length_nil,List.length_take,List.length_drop] at *;omega)) (by first | exact True.intro | omega | (simp only [and_true,List.length_map,List.length_replicate,List.length_set,List.length_append,List.length_cons,List.length_nil,List.length_take,List.length_drop] at *;omega)) (by decide) (fun p10 hp10 hp100 hp101=>?_)) | refine aOps_cons (stp_mul 4294967295 4294967295 (by exact rfl) (by exact rfl) (by first | exact True.intro | omega | (simp only [and_true,List.length_map,List.length_replicate,List.length_set,List.length_append,List.length_cons,List.length_nil,List.length_take,List.length_drop] at *;omega)) (by first | exact True.intro | omega | (simp only [and_true,List.length_map,List.length_replicate,List.length_set,List.length_append,List.length_cons,List.length_nil,List.length_take,List.length_drop] at *;omega)) (by decide) (fun p10 hp10 hp100 hp101=>?_)))
  repeat refine gO ?_
  (first | refine stp_mul 4294967295 4294967295 (by exact rfl) (by exact rfl) (by first | exact True.intro | omega | (simp only [and_true,List.length_map,List.length_replicate,List.length_set,List.length_append,List.length_cons,List.length_nil,List.length_take,List.length_drop] at *;omega)) (by first | exact True.intro | omega | (simp only [and_true,List.length_map,List.length_replicate,List.length_set,List.length_append,List.length_cons,List.length_nil,List.length_take,List.length_drop] at *;omega)) (by decide) (fun p01 hp01 hp010 hp011=>?_) | refine aw_cons (stp_mul 4294967295 4294967295 (by exact rfl) (by exact rfl) (by first | exact True.intro | omega | (simp only [and_true,List.length_map,List.length_replicate,List.length_set,List.length_append,List.length_cons,List.length_nil,List.length_take,List.length_drop] at *;omega)) (by first | exact True.intro | omega | (simp only [and_true,List.length_map,List.length_replicate,List.length_set,List.length_append,List.length_cons,List.length_nil,List.length_take,List.length_drop] at *;omega)) (by decide) (fun p01 hp01 hp010 hp011=>?_)) | refine aOps_cons (stp_mul 4294967295 4294967295 (by exact rfl) (by exact rfl) (by first | exact True.intro | omega | (simp only [and_true,List.length_map,List.length_replicate,List.length_set,List.length_append,List.length_cons,List.length_nil,List.length_take,List.length_drop] at *;omega)) (by first | exact True.intro | omega | (simp only [and_true,List.length_map,List.length_replicate,List.length_set,List.length_append,List.length_cons,List.length_nil,List.length_take,List.length_drop] at *;omega)) (by decide) (fun p01 hp01 hp010 hp011=>?_)))
  repeat refine gO ?_
  (first | refine stp_mul 4294967295 4294967295 (by exact rfl) (by exact rfl) (by first | exact True.intro | omega | (simp only [and_true,List.length_map,List.length_replicate,List.length_set,List.length_append,List.length_cons,List.length_nil,List.length_take,List.length_drop] at *;omega)) (by first | exact True.intro | omega | (simp only [and_true,List.length_map,List.length_replicate,List.length_set,List.length_append,List.length_cons,List.length_nil,List.length_take,List.length_drop] at *;omega)) (by decide) (fun p11 hp11 hp110 hp111=>?_) | refine aw_cons (stp_mul 4294967295 4294967295 (by exact rfl) (by exact rfl) (by first | exact True.intro | omega | (simp only [and_true,List.length_map,List.length_replicate,List.length_set,List.length_append,List.length_cons,List.length_nil,List.length_take,List.length_drop] at *;omega)) (by first | exact True.intro | omega | (simp only [and_true,List.length_map,List.length_replicate,List.length_set,List.length_append,List.length_cons,List.length_nil,List.length_take,List.length_drop] at *;omega)) (by decide) (fun p11 hp11 hp110 hp111=>?_)) | refine aOps_cons (stp_mul 4294967295 4294967295 (by exact rfl) (by exact rfl) (by first | exact True.intro | omega | (simp only [and_true,List.length_map,List.length_replicate,List.length_set,List.length_append,List.length_cons,List.length_nil,List.length_take,List.length_drop] at *;omega)) (by first | exact True.intro | omega | (simp only [and_true,List.length_map,List.length_replicate,List.length_set,List.length_append,List.length_cons,List.length_nil,List.length_take,List.length_drop] at *;omega)) (by decide) (fun p11 hp11 hp110 hp111=>?_)))
  repeat refine gO ?_
  (first | refine stp_mulW (x) (y) (by exact rfl) (by exact rfl) (by first | exact True.intro | omega | (simp only [and_true,List.length_map,List.length_replicate,List.length_set,List.length_append,List.length_cons,List.length_nil,List.length_take,List.length_drop] at *;omega)) (by first | exact True.intro | omega | (simp only [and_true,List.length_map,List.length_replicate,List.length_set,List.length_append,List.length_cons,List.length_nil,List.length_take,List.length_drop] at *;omega)) ?_ | refine aw_cons (stp_mulW (x) (y) (by exact rfl) (by exact rfl) (by first | exact True.intro | omega | (simp only [and_true,List.length_map,List.length_replicate,List.length_set,List.length_append,List.length_cons,List.length_nil,List.length_take,List.length_drop] at *;omega)) (by first | exact True.intro | omega | (simp only [and_true,List.length_map,List.length_replicate,List.length_set,List.length_append,List.length_cons,List.length_nil,List.length_take,List.length_drop] at *;omega)) ?_) | refine aOps_cons (stp_mulW (x) (y) (by exact rfl) (by exact rfl) (by first | exact True.intro | omega | (simp only [and_true,List.length_map,List.length_replicate,List.length_set,List.length_append,List.length_cons,List.length_nil,List.length_take,List.length_drop] at *;omega)) (by first | exact True.intro | omega | (simp only [and_true,List.length_map,List.length_replicate,List.length_set,List.length_append,List.length_cons,List.length_nil,List.length_take,List.length_drop] at *;omega)) ?_))
  repeat refine gO ?_
  refine eF hS ?_ (fl':=[(4,uv (x * y / 18446744073709551616)),(5,uv (x * y % 18446744073709551616))])
  refine ⟨⟨_,rfl,kN ?_⟩,⟨_,rfl,kN ?_⟩,trivial⟩
  · have e : ((x * y : Nat) : Int) = p11 * 18446744073709551616 + (p10 + p01) * 4294967296 + p00:=by
      have ex : (x : Int) = (x : Int) / 4294967296 * 4294967296 + (x : Int) % 4294967296:=by omega
      have ey : (y : Int) = (y : Int) / 4294967296 * 4294967296 + (y : Int) % 4294967296:=by omega
      rw [hp11,hp10,hp01,hp00,Int.natCast_mul]
      generalize (x : Int) / 4294967296 = a at *
      generalize (x : Int) % 4294967296 = b at *
      generalize (y : Int) / 4294967296 = c at *
      generalize (y : Int) % 4294967296 = d at *
      rw [ex,ey]
      grind
    rw [Int.natCast_ediv,e]
    omega
  · rfl

def blen (n : Nat) : Nat:=if n = 0 then 0 else Nat.log2 n + 1
theorem blen_le (n k : Nat) : blen n ≤ k ↔ n < 2 ^ k:=by
  unfold blen
  split
  · subst_vars;simp [Nat.two_pow_pos]
  · rename_i h
    rw [← Nat.log2_lt h];omega
theorem blen_shift (n k : Nat) (h : 2 ^ k ≤ n) : blen n = blen (n / 2 ^ k) + k:=by
  have hp : 0 < 2 ^ k:=Nat.two_pow_pos k
  have h1 : ∀ q,blen n ≤ q + k ↔ blen (n / 2 ^ k) ≤ q:=fun q=>by
    rw [blen_le,blen_le,Nat.div_lt_iff_lt_mul hp,Nat.pow_add]
  have h2 : ¬ blen n ≤ k:=fun q=>by have:=(blen_le n k).1 q;omega
  have h3:=(h1 (blen n - k)).1 (by omega)
  have h4:=(h1 (blen (n / 2 ^ k))).2 (Nat.le_refl _)
  omega

theorem tab_at (s : ByteArray) (h : ∀ i,i < 256→(s[i]?).map UInt8.toNat = some (blen i)) (i : Nat) (hi : i < 256) : ∃ b,s[i]? = some b∧b.toNat = blen i:=by
  have:=h i hi
  cases e : s[i]? with
  | none=>rw [e] at this;cases this
  | some b=>rw [e] at this;exact ⟨b,rfl,Option.some.inj this⟩

theorem c_len64 (x : Nat) (hx : x < B) : AFun Tryz.prog 160 [uv x] (iv (blen x)):=by
  have hx : x < 18446744073709551616:=hx
  refine aF (mu:=muF) Tryz.func160 fun S hS=>?_
  refine awp_seq ?_
  repeat refine gOR ?_
  refine awp_seq ?_
  refine awp_mid (fun st=>∃ y n : Nat,Weak st ⟨lk' [(0,uv y),(2,iv n)],ov [] (pushS S)⟩∧y < 4294967296∧blen x = blen y + n∧n ≤ 32) ?_ ?_
  · repeat refine gO ?_
    (refine zw ?_;refine s_cmp (fun h1=>?_) (fun h1=>?_))
    · repeat refine gO ?_
      refine ⟨x / 2 ^ 32,32,frz hS rfl trivial ⟨⟨_,rfl,kN (by omega)⟩,⟨_,rfl,kN rfl⟩,trivial⟩,by omega,blen_shift x 32 (by omega),by omega⟩
    · repeat refine gO ?_
      exact ⟨x,0,frz hS rfl trivial ⟨⟨_,rfl,kN rfl⟩,⟨_,rfl,kN rfl⟩,trivial⟩,by omega,rfl,by omega⟩
  rintro st ⟨y,n,hw,hy,he,hn⟩
  refine awp_weak _ hw ?_
  refine awp_seq ?_
  refine awp_mid (fun st=>∃ y n : Nat,Weak st ⟨lk' [(0,uv y),(2,iv n)],ov [] (pushS S)⟩∧y < 65536∧blen x = blen y + n∧n ≤ 48) ?_ ?_
  · repeat refine gO ?_
    (refine zw ?_;refine s_cmp (fun h1=>?_) (fun h1=>?_))
    · repeat refine gO ?_
      refine ⟨y / 2 ^ 16,n + 16,frz hS rfl trivial ⟨⟨_,rfl,kN (by omega)⟩,⟨_,rfl,kN (by omega)⟩,trivial⟩,by omega,?_,by omega⟩
      rw [he,blen_shift y 16 (by omega)];omega
    · repeat refine gO ?_
      exact ⟨y,n,frz hS rfl trivial ⟨⟨_,rfl,kN rfl⟩,⟨_,rfl,kN rfl⟩,trivial⟩,by omega,he,by omega⟩
  clear hw hy he hn y n
  rintro st ⟨y,n,hw,hy,he,hn⟩
  refine awp_weak _ hw ?_
  refine awp_seq ?_
  refine awp_mid (fun st=>∃ y n : Nat,Weak st ⟨lk' [(0,uv y),(2,iv n)],ov [] (pushS S)⟩∧y < 256∧blen x = blen y + n∧n ≤ 56) ?_ ?_
  · repeat refine gO ?_
    (refine zw ?_;refine s_cmp (fun h1=>?_) (fun h1=>?_))
    · repeat refine gO ?_
      refine ⟨y / 2 ^ 8,n + 8,frz hS rfl trivial ⟨⟨_,rfl,kN (by omega)⟩,⟨_,rfl,kN (by omega)⟩,trivial⟩,by omega,?_,by omega⟩
      rw [he,blen_shift y 8 (by omega)];omega
    · repeat refine gO ?_
      exact ⟨y,n,frz hS rfl trivial ⟨⟨_,rfl,kN rfl⟩,⟨_,rfl,kN rfl⟩,trivial⟩,by omega,he,by omega⟩
  clear hw hy he hn y n
  rintro st ⟨y,n,hw,hy,he,hn⟩
  refine awp_weak _ hw ?_
  repeat refine gO ?_
  refine aw_cons (stp_sind' ttOk (blen y) (by exact rfl) (by exact rfl) (by exact rfl) (by omega) ?_ ?_)
  · rw [show ((y : Int)).toNat = y by omega]
    exact tab_at _ (by decide +kernel) y hy
  · have hb : blen y ≤ 8:=(blen_le y 8).2 hy
    repeat refine gO ?_
    refine eF hS ?_ (fl':=[(2,iv (blen x))])
    refine ⟨⟨_,rfl,kN (by omega)⟩,trivial⟩

theorem c_lz64 (x : Nat) (hx : x < B) : AFun Tryz.prog 136 [uv x] (iv (64 - blen x)):=by
  refine aF (mu:=muF) Tryz.func136 fun S hS=>?_
  have hb : blen x ≤ 64:=(blen_le x 64).2 hx
  repeat refine gO ?_
  (refine zw ?_;refine s_call (c_len64 x hx) ?_)
  repeat refine gO ?_
  refine eF hS ?_ (fl':=[(2,iv (64 - blen x))])
  refine ⟨⟨_,rfl,kN (by omega)⟩,trivial⟩
end Go.Proofs

/-
  bits: Div64.
-/
namespace Go.Proofs
open Go Go.Abs Go.Nums
attribute [local irreducible] thenA blockA awp aw Stp EndF aOps
set_option linter.unusedSimpArgs false

theorem c_div64 (hi lo y : Nat) (hhi : hi < y) (hlo : lo < 18446744073709551616) (hy : y < 18446744073709551616) : AFun Tryz.prog 172 [uv hi,uv lo,uv y] (.tup [uv ((hi * 18446744073709551616 + lo) / y),uv ((hi * 18446744073709551616 + lo) % y)]):=by
  refine aF (mu:=muF) Tryz.func172 fun S hS=>?_
  repeat refine gO ?_
  (refine zw ?_;refine s_cmp (fun h1=>?_) (fun h1=>?_))
  · exact absurd h1 (by omega)
  repeat refine gO ?_
  (refine zw ?_;refine s_cmp (fun h2=>?_) (fun h2=>?_))
  · exact absurd h2 (by omega)
  repeat refine gO ?_
  (refine zw ?_;refine s_cmp (fun h3=>?_) (fun h3=>?_))
  · have h0 : hi = 0:=by omega
    subst h0
    repeat refine gO ?_
    refine eF hS ?_ (fl':=[(6,uv ((0 * 18446744073709551616 + lo) / y)),(7,uv ((0 * 18446744073709551616 + lo) % y))])
    refine ⟨⟨_,rfl,kN ?_⟩,⟨_,rfl,kN ?_⟩,trivial⟩ <;> simp
  repeat refine gO ?_
  (refine zw ?_;refine s_call (c_lz64 y hy) ?_)
  have hb : blen y ≤ 64:=(blen_le y 64).2 hy
  have hpos : 0 < y:=by omega
  obtain ⟨s,hs⟩ : ∃ s,s = 64 - blen y:=⟨_,rfl⟩
  rw [← hs]
  have hs64 : s ≤ 64:=by omega
  have hbl : y < 2 ^ blen y:=(blen_le y (blen y)).1 (Nat.le_refl _)
  have hbg : 2 ^ (blen y - 1) ≤ y:=by
    have q : ¬ blen y ≤ blen y - 1:=by
      have : ¬ blen y ≤ 0:=fun q=>by have:=(blen_le y 0).1 q;omega
      omega
    rw [blen_le] at q;omega
  have hb1 : 1 ≤ blen y:=by
    rcases Nat.eq_zero_or_pos (blen y) with q | q
    · rw [q] at hbl;omega
    · exact q
  have hp64 : 2 ^ blen y * 2 ^ s = 18446744073709551616:=by rw [← Nat.pow_add,show blen y + s = 64 by omega]
  have hp63 : 2 ^ (blen y - 1) * 2 ^ s = 9223372036854775808:=by rw [← Nat.pow_add,show blen y - 1 + s = 63 by omega]
  have hsp : 0 < 2 ^ s:=Nat.two_pow_pos s
  have hY : y * 2 ^ s < 18446744073709551616:=by rw [← hp64];exact Nat.mul_lt_mul_of_pos_right hbl hsp
  have hY2 : 9223372036854775808 ≤ y * 2 ^ s:=by rw [← hp63];exact Nat.mul_le_mul_right _ hbg
  have hh : (hi + 1) * 2 ^ s ≤ y * 2 ^ s:=Nat.mul_le_mul_right _ hhi
  rw [Nat.succ_mul] at hh
  repeat refine gO ?_
  (first | refine stp_shlN (y) (s) (by exact rfl) (by exact rfl) (by first | exact True.intro | omega | (simp only [and_true,List.length_map,List.length_replicate,List.length_set,List.length_append,List.length_cons,List.length_nil,List.length_take,List.length_drop] at *;omega)) (by first | exact True.intro | omega | (simp only [and_true,List.length_map,List.length_replicate,List.length_set,List.length_append,List.length_cons,List.length_nil,List.length_take,List.length_drop] at *;omega)) ?_ | refine aw_cons (stp_shlN (y) (s) (by exact rfl) (by exact rfl) (by first | exact True.intro | omega | (simp only [and_true,List.length_map,List.length_replicate,List.length_set,List.length_append,List.length_cons,List.length_nil,List.length_take,List.length_drop] at *;omega)) (by first | exact True.intro | omega | (simp only [and_true,List.length_map,List.length_replicate,List.length_set,List.length_append,List.length_cons,List.length_nil,List.length_take,List.length_drop] at *;omega)) ?_) | refine aOps_cons (stp_shlN (y) (s) (by exact rfl) (by exact rfl) (by first | exact True.intro | omega | (simp only [and_true,List.length_map,List.length_replicate,List.length_set,List.length_append,List.length_cons,List.length_nil,List.length_take,List.length_drop] at *;omega)) (by first | exact True.intro | omega | (simp only [and_true,List.length_map,List.length_replicate,List.length_set,List.length_append,List.length_cons,List.length_nil,List.length_take,List.length_drop] at *;omega)) ?_))
  rw [Nat.mod_eq_of_lt hY]
  obtain ⟨Y,hYe⟩ : ∃ Y,Y = y * 2 ^ s:=⟨_,rfl⟩
  obtain ⟨H,hHe⟩ : ∃ H,H = hi * 2 ^ s:=⟨_,rfl⟩
  rw [← hYe,← hHe] at hh
  rw [← hYe] at hY hY2
  rw [← hYe]
  repeat refine gO ?_
  refine aw_cons (stp_shlN hi s (by exact rfl) (by exact rfl) ?_ ?_ ?_)
  · omega
  · omega
  rw [← hHe,Nat.mod_eq_of_lt (show H < 18446744073709551616 by omega)]
  repeat refine gO ?_
  refine aw_cons (stp_shrN lo (64 - s) (by exact rfl) (by exact rfl) ?_ ?_ ?_ ?_)
  · omega
  · omega
  · omega
  repeat refine gO ?_
  have hl1 : lo / 2 ^ (64 - s) < 2 ^ s:=by
    rw [Nat.div_lt_iff_lt_mul (Nat.two_pow_pos _),← Nat.pow_add,show s + (64 - s) = 64 by omega];exact hlo
  (first | refine stp_orN (H) (lo / 2 ^ (64 - s)) (by exact rfl) (by exact rfl) (by first | exact True.intro | omega | (simp only [and_true,List.length_map,List.length_replicate,List.length_set,List.length_append,List.length_cons,List.length_nil,List.length_take,List.length_drop] at *;omega)) (by first | exact True.intro | omega | (simp only [and_true,List.length_map,List.length_replicate,List.length_set,List.length_append,List.length_cons,List.length_nil,List.length_take,List.length_drop] at *;omega)) (by first | exact True.intro | omega | (simp only [and_true,List.length_map,List.length_replicate,List.length_set,List.length_append,List.length_cons,List.length_nil,List.length_take,List.length_drop] at *;omega)) (by first | exact True.intro | omega | (simp only [and_true,List.length_map,List.length_replicate,List.length_set,List.length_append,List.length_cons,List.length_nil,List.length_take,List.length_drop] at *;omega)) ?_ | refine aw_cons (stp_orN (H) (lo / 2 ^ (64 - s)) (by exact rfl) (by exact rfl) (by first | exact True.intro | omega | (simp only [and_true,List.length_map,List.length_replicate,List.length_set,List.length_append,List.length_cons,List.length_nil,List.length_take,List.length_drop] at *;omega)) (by first | exact True.intro | omega | (simp only [and_true,List.length_map,List.length_replicate,List.length_set,List.length_append,List.length_cons,List.length_nil,List.length_take,List.length_drop] at *;omega)) (by first | exact True.intro | omega | (simp only [and_true,List.length_map,List.length_replicate,List.length_set,List.length_append,List.length_cons,List.length_nil,List.length_take,List.length_drop] at *;omega)) (by first | exact True.intro | omega | (simp only [and_true,List.length_map,List.length_replicate,List.length_set,List.length_append,List.length_cons,List.length_nil,List.length_take,List.length_drop] at *;omega)) ?_) | refine aOps_cons (stp_orN (H) (lo / 2 ^ (64 - s)) (by exact rfl) (by exact rfl) (by first | exact True.intro | omega | (simp only [and_true,List.length_map,List.length_replicate,List.length_set,List.length_append,List.length_cons,List.length_nil,List.length_take,List.length_drop] at *;omega)) (by first | exact True.intro | omega | (simp only [and_true,List.length_map,List.length_replicate,List.length_set,List.length_append,List.length_cons,List.length_nil,List.length_take,List.length_drop] at *;omega)) (by first | exact True.intro | omega | (simp only [and_true,List.length_map,List.length_replicate,List.length_set,List.length_append,List.length_cons,List.length_nil,List.length_take,List.length_drop] at *;omega)) (by first | exact True.intro | omega | (simp only [and_true,List.length_map,List.length_replicate,List.length_set,List.length_append,List.length_cons,List.length_nil,List.length_take,List.length_drop] at *;omega)) ?_))
  rw [show H ||| lo / 2 ^ (64 - s) = H + lo / 2 ^ (64 - s) by rw [hHe,Nat.mul_comm,Nat.two_pow_add_eq_or_of_lt hl1]]
  obtain ⟨u,hu⟩ : ∃ u,u = H + lo / 2 ^ (64 - s):=⟨_,rfl⟩
  rw [← hu]
  repeat refine gO ?_
  refine aw_cons (stp_shlN (lo) (s) (by exact rfl) (by exact rfl) (by first | exact True.intro | omega | (simp only [and_true,List.length_map,List.length_replicate,List.length_set,List.length_append,List.length_cons,List.length_nil,List.length_take,List.length_drop] at *;omega)) (by first | exact True.intro | omega | (simp only [and_true,List.length_map,List.length_replicate,List.length_set,List.length_append,List.length_cons,List.length_nil,List.length_take,List.length_drop] at *;omega)) ?_)
  obtain ⟨w,hw⟩ : ∃ w,w = lo * 2 ^ s % 18446744073709551616:=⟨_,rfl⟩
  have hw64 : w < 18446744073709551616:=by omega
  rw [← hw]
  obtain ⟨a,hae⟩ : ∃ a,a = Y / 4294967296:=⟨_,rfl⟩
  obtain ⟨c,hce⟩ : ∃ c,c = Y % 4294967296:=⟨_,rfl⟩
  obtain ⟨v1,hv1⟩ : ∃ v1,v1 = w / 4294967296:=⟨_,rfl⟩
  obtain ⟨v0,hv0⟩ : ∃ v0,v0 = w % 4294967296:=⟨_,rfl⟩
  have hYac : Y = a * 4294967296 + c:=by omega
  have ha31 : 2147483648 ≤ a:=by omega
  have ha32 : a < 4294967296:=by omega
  have ha0 : 0 < a:=by omega
  have hc32 : c < 4294967296:=by omega
  have hv1' : v1 < 4294967296:=by omega
  have hv0' : v0 < 4294967296:=by omega
  have hY0 : 0 < Y:=by omega
  have hlo2 : (hi * 18446744073709551616 + lo) * 2 ^ s = u * 18446744073709551616 + w:=by
    have q1 : lo * 2 ^ s / 18446744073709551616 = lo / 2 ^ (64 - s):=by
      rw [show (18446744073709551616 : Nat) = 2 ^ (64 - s) * 2 ^ s by rw [← Nat.pow_add,show 64 - s + s = 64 by omega],Nat.mul_div_mul_right _ _ hsp]
    have q2:=Nat.div_add_mod (lo * 2 ^ s) 18446744073709551616
    rw [q1,← hw] at q2
    rw [Nat.add_mul,hu,← q2,Nat.mul_right_comm,← hHe]
    omega
  have huY : u < Y:=by
    have q1 : (hi * 18446744073709551616 + lo) * 2 ^ s < y * 18446744073709551616 * 2 ^ s:=Nat.mul_lt_mul_of_pos_right (by omega) hsp
    rw [hlo2,Nat.mul_right_comm,← hYe] at q1
    omega
  have hma:=Nat.div_mul_le_self u a
  repeat refine gO ?_
  rw [← hae]
  (first | refine stp_mulN (u / a) (a) (by exact rfl) (by exact rfl) (by first | exact True.intro | omega | (simp only [and_true,List.length_map,List.length_replicate,List.length_set,List.length_append,List.length_cons,List.length_nil,List.length_take,List.length_drop] at *;omega)) (by first | exact True.intro | omega | (simp only [and_true,List.length_map,List.length_replicate,List.length_set,List.length_append,List.length_cons,List.length_nil,List.length_take,List.length_drop] at *;omega)) (by omega) ?_ | refine aw_cons (stp_mulN (u / a) (a) (by exact rfl) (by exact rfl) (by first | exact True.intro | omega | (simp only [and_true,List.length_map,List.length_replicate,List.length_set,List.length_append,List.length_cons,List.length_nil,List.length_take,List.length_drop] at *;omega)) (by first | exact True.intro | omega | (simp only [and_true,List.length_map,List.length_replicate,List.length_set,List.length_append,List.length_cons,List.length_nil,List.length_take,List.length_drop] at *;omega)) (by omega) ?_) | refine aOps_cons (stp_mulN (u / a) (a) (by exact rfl) (by exact rfl) (by first | exact True.intro | omega | (simp only [and_true,List.length_map,List.length_replicate,List.length_set,List.length_append,List.length_cons,List.length_nil,List.length_take,List.length_drop] at *;omega)) (by first | exact True.intro | omega | (simp only [and_true,List.length_map,List.length_replicate,List.length_set,List.length_append,List.length_cons,List.length_nil,List.length_take,List.length_drop] at *;omega)) (by omega) ?_))
  repeat refine gO ?_
  refine awp_midB (fun st=>Weak st ⟨lk' [(2,uv Y),(8,uv s),(9,uv a),(10,uv c),(11,uv u),(13,uv v1),(14,uv v0),(15,uv ((u * 4294967296 + v1) / Y))],ov [] (pushS S)⟩) ?_ ?_
  · refine awp_rep2 (fun q r : Nat=>⟨lk' [(2,uv Y),(8,uv s),(9,uv a),(10,uv c),(11,uv u),(13,uv v1),(14,uv v0),(15,uv q),(16,uv r)],ov [] (pushS S)⟩)
      (fun q r=>q * a + r = u∧r < 4294967296∧(u * 4294967296 + v1) / Y ≤ q∧q ≤ 4294967298) (fun q _=>q) (u / a) (u % a) ⟨Nat.div_add_mod' _ _,Nat.lt_trans (Nat.mod_lt _ ha0) ha32,kn_start hYac ha0 hv1',kn_small hYac ha31 hc32 huY⟩ ?_ ?_
    · have hdm:=Nat.div_add_mod' u a
      exact frz hS rfl trivial ⟨⟨_,rfl,kN rfl⟩,⟨_,rfl,kN rfl⟩,⟨_,rfl,kN (by omega)⟩,⟨_,rfl,kN (by omega)⟩,⟨_,rfl,kN rfl⟩,⟨_,rfl,kN (by omega)⟩,⟨_,rfl,kN (by omega)⟩,⟨_,rfl,kN rfl⟩,⟨_,rfl,kN (by omega)⟩,trivial⟩
    · rintro q r ⟨e1,e2,e3,e4⟩
      have less : ¬ (q < 4294967296∧q * c ≤ 4294967296 * r + v1)→(u * 4294967296 + v1) / Y < q:=fun g=>by
        by_cases g1 : q < 4294967296
        · refine kn_less hY0 ?_
          rw [← Nat.not_le,kn_le hYac e1]
          exact fun g2=>g ⟨g1,g2⟩
        · have:=kn_lt huY hv1'
          omega
      have hqa : 0 < q→a ≤ q * a:=fun g=>Nat.le_mul_of_pos_left a g
      repeat refine gO ?_
      (refine zw ?_;refine s_cmp (fun g1=>?_) (fun g1=>?_))
      · have hl:=less (by omega)
        have hq0 : 0 < q:=Nat.lt_of_le_of_lt (Nat.zero_le _) hl
        have hqa':=hqa hq0
        · repeat refine gO ?_
          (refine zw ?_;refine s_cmp (fun g3=>?_) (fun g3=>?_))
          · repeat refine gO ?_
            have hq : q - 1 = (u * 4294967296 + v1) / Y:=by
              refine kn_eq hY0 ((kn_le hYac (r:=r + a) (by rw [Nat.sub_mul,Nat.one_mul];omega)).2 ?_) (by omega)
              have q1 : (q - 1) * c ≤ 4294967297 * 4294967295:=Nat.mul_le_mul (by omega) (by omega)
              omega
            exact frz hS rfl trivial ⟨⟨_,rfl,kN rfl⟩,⟨_,rfl,kN rfl⟩,⟨_,rfl,kN rfl⟩,⟨_,rfl,kN rfl⟩,⟨_,rfl,kN rfl⟩,⟨_,rfl,kN rfl⟩,⟨_,rfl,kN rfl⟩,⟨_,rfl,kN (by rw [← hq];omega)⟩,trivial⟩
          · repeat refine gO ?_
            refine ⟨q - 1,r + a,frz hS rfl trivial ⟨⟨_,rfl,kN rfl⟩,⟨_,rfl,kN rfl⟩,⟨_,rfl,kN rfl⟩,⟨_,rfl,kN rfl⟩,⟨_,rfl,kN rfl⟩,⟨_,rfl,kN rfl⟩,⟨_,rfl,kN rfl⟩,⟨_,rfl,kN (by omega)⟩,⟨_,rfl,kN (by omega)⟩,trivial⟩,⟨by rw [Nat.sub_mul,Nat.one_mul];omega,by omega,by omega,by omega⟩,by omega⟩
      · repeat refine gO ?_
        have hqc : q * c ≤ 4294967295 * 4294967295:=Nat.mul_le_mul (by omega) (by omega)
        (first | refine stp_mulN (q) (c) (by exact rfl) (by exact rfl) (by first | exact True.intro | omega | (simp only [and_true,List.length_map,List.length_replicate,List.length_set,List.length_append,List.length_cons,List.length_nil,List.length_take,List.length_drop] at *;omega)) (by first | exact True.intro | omega | (simp only [and_true,List.length_map,List.length_replicate,List.length_set,List.length_append,List.length_cons,List.length_nil,List.length_take,List.length_drop] at *;omega)) (by omega) ?_ | refine aw_cons (stp_mulN (q) (c) (by exact rfl) (by exact rfl) (by first | exact True.intro | omega | (simp only [and_true,List.length_map,List.length_replicate,List.length_set,List.length_append,List.length_cons,List.length_nil,List.length_take,List.length_drop] at *;omega)) (by first | exact True.intro | omega | (simp only [and_true,List.length_map,List.length_replicate,List.length_set,List.length_append,List.length_cons,List.length_nil,List.length_take,List.length_drop] at *;omega)) (by omega) ?_) | refine aOps_cons (stp_mulN (q) (c) (by exact rfl) (by exact rfl) (by first | exact True.intro | omega | (simp only [and_true,List.length_map,List.length_replicate,List.length_set,List.length_append,List.length_cons,List.length_nil,List.length_take,List.length_drop] at *;omega)) (by first | exact True.intro | omega | (simp only [and_true,List.length_map,List.length_replicate,List.length_set,List.length_append,List.length_cons,List.length_nil,List.length_take,List.length_drop] at *;omega)) (by omega) ?_))
        repeat refine gO ?_
        (refine zw ?_;refine s_cmp (fun g2=>?_) (fun g2=>?_))
        · have hl:=less (by omega)
          have hq0 : 0 < q:=Nat.lt_of_le_of_lt (Nat.zero_le _) hl
          have hqa':=hqa hq0
          repeat refine gO ?_
          (refine zw ?_;refine s_cmp (fun g3=>?_) (fun g3=>?_))
          · repeat refine gO ?_
            have hq : q - 1 = (u * 4294967296 + v1) / Y:=by
              refine kn_eq hY0 ((kn_le hYac (r:=r + a) (by rw [Nat.sub_mul,Nat.one_mul];omega)).2 ?_) (by omega)
              have q1 : (q - 1) * c ≤ 4294967297 * 4294967295:=Nat.mul_le_mul (by omega) (by omega)
              omega
            exact frz hS rfl trivial ⟨⟨_,rfl,kN rfl⟩,⟨_,rfl,kN rfl⟩,⟨_,rfl,kN rfl⟩,⟨_,rfl,kN rfl⟩,⟨_,rfl,kN rfl⟩,⟨_,rfl,kN rfl⟩,⟨_,rfl,kN rfl⟩,⟨_,rfl,kN (by rw [← hq];omega)⟩,trivial⟩
          · repeat refine gO ?_
            refine ⟨q - 1,r + a,frz hS rfl trivial ⟨⟨_,rfl,kN rfl⟩,⟨_,rfl,kN rfl⟩,⟨_,rfl,kN rfl⟩,⟨_,rfl,kN rfl⟩,⟨_,rfl,kN rfl⟩,⟨_,rfl,kN rfl⟩,⟨_,rfl,kN rfl⟩,⟨_,rfl,kN (by omega)⟩,⟨_,rfl,kN (by omega)⟩,trivial⟩,⟨by rw [Nat.sub_mul,Nat.one_mul];omega,by omega,by omega,by omega⟩,by omega⟩
        · repeat refine gO ?_
          have hq : q = (u * 4294967296 + v1) / Y:=kn_eq hY0 ((kn_le hYac e1).2 (by omega)) e3
          exact frz hS rfl trivial ⟨⟨_,rfl,kN rfl⟩,⟨_,rfl,kN rfl⟩,⟨_,rfl,kN rfl⟩,⟨_,rfl,kN rfl⟩,⟨_,rfl,kN rfl⟩,⟨_,rfl,kN rfl⟩,⟨_,rfl,kN rfl⟩,⟨_,rfl,kN (by rw [← hq])⟩,trivial⟩
  · intro st hw'
    refine awp_weak _ hw' ?_
    obtain ⟨q1,hq1⟩ : ∃ q1,q1 = (u * 4294967296 + v1) / Y:=⟨_,rfl⟩
    obtain ⟨R1,hR1e⟩ : ∃ R1,R1 = (u * 4294967296 + v1) % Y:=⟨_,rfl⟩
    have hq132 : q1 < 4294967296:=by rw [hq1];exact kn_lt huY hv1'
    have hR1 : R1 < Y:=by rw [hR1e];exact Nat.mod_lt _ hY0
    have hN1 : q1 * Y + R1 = u * 4294967296 + v1:=by rw [hq1,hR1e];exact Nat.div_add_mod' _ _
    rw [← hq1]
    repeat refine gO ?_
    (first | refine stp_mulW (u) (4294967296) (by exact rfl) (by exact rfl) (by first | exact True.intro | omega | (simp only [and_true,List.length_map,List.length_replicate,List.length_set,List.length_append,List.length_cons,List.length_nil,List.length_take,List.length_drop] at *;omega)) (by first | exact True.intro | omega | (simp only [and_true,List.length_map,List.length_replicate,List.length_set,List.length_append,List.length_cons,List.length_nil,List.length_take,List.length_drop] at *;omega)) ?_ | refine aw_cons (stp_mulW (u) (4294967296) (by exact rfl) (by exact rfl) (by first | exact True.intro | omega | (simp only [and_true,List.length_map,List.length_replicate,List.length_set,List.length_append,List.length_cons,List.length_nil,List.length_take,List.length_drop] at *;omega)) (by first | exact True.intro | omega | (simp only [and_true,List.length_map,List.length_replicate,List.length_set,List.length_append,List.length_cons,List.length_nil,List.length_take,List.length_drop] at *;omega)) ?_) | refine aOps_cons (stp_mulW (u) (4294967296) (by exact rfl) (by exact rfl) (by first | exact True.intro | omega | (simp only [and_true,List.length_map,List.length_replicate,List.length_set,List.length_append,List.length_cons,List.length_nil,List.length_take,List.length_drop] at *;omega)) (by first | exact True.intro | omega | (simp only [and_true,List.length_map,List.length_replicate,List.length_set,List.length_append,List.length_cons,List.length_nil,List.length_take,List.length_drop] at *;omega)) ?_))
    repeat refine gO ?_
    (first | refine stp_mulW (q1) (Y) (by exact rfl) (by exact rfl) (by first | exact True.intro | omega | (simp only [and_true,List.length_map,List.length_replicate,List.length_set,List.length_append,List.length_cons,List.length_nil,List.length_take,List.length_drop] at *;omega)) (by first | exact True.intro | omega | (simp only [and_true,List.length_map,List.length_replicate,List.length_set,List.length_append,List.length_cons,List.length_nil,List.length_take,List.length_drop] at *;omega)) ?_ | refine aw_cons (stp_mulW (q1) (Y) (by exact rfl) (by exact rfl) (by first | exact True.intro | omega | (simp only [and_true,List.length_map,List.length_replicate,List.length_set,List.length_append,List.length_cons,List.length_nil,List.length_take,List.length_drop] at *;omega)) (by first | exact True.intro | omega | (simp only [and_true,List.length_map,List.length_replicate,List.length_set,List.length_append,List.length_cons,List.length_nil,List.length_take,List.length_drop] at *;omega)) ?_) | refine aOps_cons (stp_mulW (q1) (Y) (by exact rfl) (by exact rfl) (by first | exact True.intro | omega | (simp only [and_true,List.length_map,List.length_replicate,List.length_set,List.length_append,List.length_cons,List.length_nil,List.length_take,List.length_drop] at *;omega)) (by first | exact True.intro | omega | (simp only [and_true,List.length_map,List.length_replicate,List.length_set,List.length_append,List.length_cons,List.length_nil,List.length_take,List.length_drop] at *;omega)) ?_))
    repeat refine gO ?_
    (first | refine stp_subW (by exact rfl) (by exact rfl) ?_ | refine aw_cons (stp_subW (by exact rfl) (by exact rfl) ?_) | refine aOps_cons (stp_subW (by exact rfl) (by exact rfl) ?_))
    repeat refine gO ?_
    refine aw_weak ⟨lk' [(2,uv Y),(8,uv s),(9,uv a),(10,uv c),(14,uv v0),(15,uv q1),(17,uv R1),(94,uv R1),(95,uv a)],ov [] (pushS S)⟩ ?_ ?_
    · exact frz hS rfl trivial ⟨⟨_,rfl,kN rfl⟩,⟨_,rfl,kN rfl⟩,⟨_,rfl,kN rfl⟩,⟨_,rfl,kN rfl⟩,⟨_,rfl,kN rfl⟩,⟨_,rfl,kN rfl⟩,⟨_,rfl,kN (by omega)⟩,⟨_,rfl,kN (by omega)⟩,⟨_,rfl,kN rfl⟩,trivial⟩
    have hma2:=Nat.div_mul_le_self R1 a
    repeat refine gO ?_
    refine awp_midB (fun st=>Weak st ⟨lk' [(2,uv Y),(8,uv s),(9,uv a),(10,uv c),(14,uv v0),(15,uv q1),(17,uv R1),(18,uv ((R1 * 4294967296 + v0) / Y))],ov [] (pushS S)⟩) ?_ ?_
    · refine awp_rep2 (fun q r : Nat=>⟨lk' [(2,uv Y),(8,uv s),(9,uv a),(10,uv c),(14,uv v0),(15,uv q1),(17,uv R1),(18,uv q),(16,uv r)],ov [] (pushS S)⟩)
        (fun q r=>q * a + r = R1∧r < 4294967296∧(R1 * 4294967296 + v0) / Y ≤ q∧q ≤ 4294967298) (fun q _=>q) (R1 / a) (R1 % a) ⟨Nat.div_add_mod' _ _,Nat.lt_trans (Nat.mod_lt _ ha0) ha32,kn_start hYac ha0 hv0',kn_small hYac ha31 hc32 hR1⟩ ?_ ?_
      · have hdm:=Nat.div_add_mod' R1 a
        exact frz hS rfl trivial ⟨⟨_,rfl,kN rfl⟩,⟨_,rfl,kN rfl⟩,⟨_,rfl,kN rfl⟩,⟨_,rfl,kN rfl⟩,⟨_,rfl,kN rfl⟩,⟨_,rfl,kN rfl⟩,⟨_,rfl,kN rfl⟩,⟨_,rfl,kN rfl⟩,⟨_,rfl,kN (by omega)⟩,trivial⟩
      · rintro q r ⟨e1,e2,e3,e4⟩
        have less : ¬ (q < 4294967296∧q * c ≤ 4294967296 * r + v0)→(R1 * 4294967296 + v0) / Y < q:=fun g=>by
          by_cases g1 : q < 4294967296
          · refine kn_less hY0 ?_
            rw [← Nat.not_le,kn_le hYac e1]
            exact fun g2=>g ⟨g1,g2⟩
          · have:=kn_lt hR1 hv0'
            omega
        have hqa : 0 < q→a ≤ q * a:=fun g=>Nat.le_mul_of_pos_left a g
        repeat refine gO ?_
        (refine zw ?_;refine s_cmp (fun g1=>?_) (fun g1=>?_))
        · have hl:=less (by omega)
          have hq0 : 0 < q:=Nat.lt_of_le_of_lt (Nat.zero_le _) hl
          have hqa':=hqa hq0
          · repeat refine gO ?_
            (refine zw ?_;refine s_cmp (fun g3=>?_) (fun g3=>?_))
            · repeat refine gO ?_
              have hq : q - 1 = (R1 * 4294967296 + v0) / Y:=by
                refine kn_eq hY0 ((kn_le hYac (r:=r + a) (by rw [Nat.sub_mul,Nat.one_mul];omega)).2 ?_) (by omega)
                have q1 : (q - 1) * c ≤ 4294967297 * 4294967295:=Nat.mul_le_mul (by omega) (by omega)
                omega
              exact frz hS rfl trivial ⟨⟨_,rfl,kN rfl⟩,⟨_,rfl,kN rfl⟩,⟨_,rfl,kN rfl⟩,⟨_,rfl,kN rfl⟩,⟨_,rfl,kN rfl⟩,⟨_,rfl,kN rfl⟩,⟨_,rfl,kN rfl⟩,⟨_,rfl,kN (by rw [← hq];omega)⟩,trivial⟩
            · repeat refine gO ?_
              refine ⟨q - 1,r + a,frz hS rfl trivial ⟨⟨_,rfl,kN rfl⟩,⟨_,rfl,kN rfl⟩,⟨_,rfl,kN rfl⟩,⟨_,rfl,kN rfl⟩,⟨_,rfl,kN rfl⟩,⟨_,rfl,kN rfl⟩,⟨_,rfl,kN rfl⟩,⟨_,rfl,kN (by omega)⟩,⟨_,rfl,kN (by omega)⟩,trivial⟩,⟨by rw [Nat.sub_mul,Nat.one_mul];omega,by omega,by omega,by omega⟩,by omega⟩
        · repeat refine gO ?_
          have hqc : q * c ≤ 4294967295 * 4294967295:=Nat.mul_le_mul (by omega) (by omega)
          (first | refine stp_mulN (q) (c) (by exact rfl) (by exact rfl) (by first | exact True.intro | omega | (simp only [and_true,List.length_map,List.length_replicate,List.length_set,List.length_append,List.length_cons,List.length_nil,List.length_take,List.length_drop] at *;omega)) (by first | exact True.intro | omega | (simp only [and_true,List.length_map,List.length_replicate,List.length_set,List.length_append,List.length_cons,List.length_nil,List.length_take,List.length_drop] at *;omega)) (by omega) ?_ | refine aw_cons (stp_mulN (q) (c) (by exact rfl) (by exact rfl) (by first | exact True.intro | omega | (simp only [and_true,List.length_map,List.length_replicate,List.length_set,List.length_append,List.length_cons,List.length_nil,List.length_take,List.length_drop] at *;omega)) (by first | exact True.intro | omega | (simp only [and_true,List.length_map,List.length_replicate,List.length_set,List.length_append,List.length_cons,List.length_nil,List.length_take,List.length_drop] at *;omega)) (by omega) ?_) | refine aOps_cons (stp_mulN (q) (c) (by exact rfl) (by exact rfl) (by first | exact True.intro | omega | (simp only [and_true,List.length_map,List.length_replicate,List.length_set,List.length_append,List.length_cons,List.length_nil,List.length_take,List.length_drop] at *;omega)) (by first | exact True.intro | omega | (simp only [and_true,List.length_map,List.length_replicate,List.length_set,List.length_append,List.length_cons,List.length_nil,List.length_take,List.length_drop] at *;omega)) (by omega) ?_))
          repeat refine gO ?_
          (refine zw ?_;refine s_cmp (fun g2=>?_) (fun g2=>?_))
          · have hl:=less (by omega)
            have hq0 : 0 < q:=Nat.lt_of_le_of_lt (Nat.zero_le _) hl
            have hqa':=hqa hq0
            repeat refine gO ?_
            (refine zw ?_;refine s_cmp (fun g3=>?_) (fun g3=>?_))
            · repeat refine gO ?_
              have hq : q - 1 = (R1 * 4294967296 + v0) / Y:=by
                refine kn_eq hY0 ((kn_le hYac (r:=r + a) (by rw [Nat.sub_mul,Nat.one_mul];omega)).2 ?_) (by omega)
                have q1 : (q - 1) * c ≤ 4294967297 * 4294967295:=Nat.mul_le_mul (by omega) (by omega)
                omega
              exact frz hS rfl trivial ⟨⟨_,rfl,kN rfl⟩,⟨_,rfl,kN rfl⟩,⟨_,rfl,kN rfl⟩,⟨_,rfl,kN rfl⟩,⟨_,rfl,kN rfl⟩,⟨_,rfl,kN rfl⟩,⟨_,rfl,kN rfl⟩,⟨_,rfl,kN (by rw [← hq];omega)⟩,trivial⟩
            · repeat refine gO ?_
              refine ⟨q - 1,r + a,frz hS rfl trivial ⟨⟨_,rfl,kN rfl⟩,⟨_,rfl,kN rfl⟩,⟨_,rfl,kN rfl⟩,⟨_,rfl,kN rfl⟩,⟨_,rfl,kN rfl⟩,⟨_,rfl,kN rfl⟩,⟨_,rfl,kN rfl⟩,⟨_,rfl,kN (by omega)⟩,⟨_,rfl,kN (by omega)⟩,trivial⟩,⟨by rw [Nat.sub_mul,Nat.one_mul];omega,by omega,by omega,by omega⟩,by omega⟩
          · repeat refine gO ?_
            have hq : q = (R1 * 4294967296 + v0) / Y:=kn_eq hY0 ((kn_le hYac e1).2 (by omega)) e3
            exact frz hS rfl trivial ⟨⟨_,rfl,kN rfl⟩,⟨_,rfl,kN rfl⟩,⟨_,rfl,kN rfl⟩,⟨_,rfl,kN rfl⟩,⟨_,rfl,kN rfl⟩,⟨_,rfl,kN rfl⟩,⟨_,rfl,kN rfl⟩,⟨_,rfl,kN (by rw [← hq])⟩,trivial⟩
    · intro st hw'
      refine awp_weak _ hw' ?_
      obtain ⟨q0,hq0⟩ : ∃ q0,q0 = (R1 * 4294967296 + v0) / Y:=⟨_,rfl⟩
      obtain ⟨R2,hR2e⟩ : ∃ R2,R2 = (R1 * 4294967296 + v0) % Y:=⟨_,rfl⟩
      have hq032 : q0 < 4294967296:=by rw [hq0];exact kn_lt hR1 hv0'
      have hR2 : R2 < Y:=by rw [hR2e];exact Nat.mod_lt _ hY0
      have hN2 : q0 * Y + R2 = R1 * 4294967296 + v0:=by rw [hq0,hR2e];exact Nat.div_add_mod' _ _
      rw [← hq0]
      repeat refine gO ?_
      (first | refine stp_mulW (R1) (4294967296) (by exact rfl) (by exact rfl) (by first | exact True.intro | omega | (simp only [and_true,List.length_map,List.length_replicate,List.length_set,List.length_append,List.length_cons,List.length_nil,List.length_take,List.length_drop] at *;omega)) (by first | exact True.intro | omega | (simp only [and_true,List.length_map,List.length_replicate,List.length_set,List.length_append,List.length_cons,List.length_nil,List.length_take,List.length_drop] at *;omega)) ?_ | refine aw_cons (stp_mulW (R1) (4294967296) (by exact rfl) (by exact rfl) (by first | exact True.intro | omega | (simp only [and_true,List.length_map,List.length_replicate,List.length_set,List.length_append,List.length_cons,List.length_nil,List.length_take,List.length_drop] at *;omega)) (by first | exact True.intro | omega | (simp only [and_true,List.length_map,List.length_replicate,List.length_set,List.length_append,List.length_cons,List.length_nil,List.length_take,List.length_drop] at *;omega)) ?_) | refine aOps_cons (stp_mulW (R1) (4294967296) (by exact rfl) (by exact rfl) (by first | exact True.intro | omega | (simp only [and_true,List.length_map,List.length_replicate,List.length_set,List.length_append,List.length_cons,List.length_nil,List.length_take,List.length_drop] at *;omega)) (by first | exact True.intro | omega | (simp only [and_true,List.length_map,List.length_replicate,List.length_set,List.length_append,List.length_cons,List.length_nil,List.length_take,List.length_drop] at *;omega)) ?_))
      repeat refine gO ?_
      (first | refine stp_mulW (q0) (Y) (by exact rfl) (by exact rfl) (by first | exact True.intro | omega | (simp only [and_true,List.length_map,List.length_replicate,List.length_set,List.length_append,List.length_cons,List.length_nil,List.length_take,List.length_drop] at *;omega)) (by first | exact True.intro | omega | (simp only [and_true,List.length_map,List.length_replicate,List.length_set,List.length_append,List.length_cons,List.length_nil,List.length_take,List.length_drop] at *;omega)) ?_ | refine aw_cons (stp_mulW (q0) (Y) (by exact rfl) (by exact rfl) (by first | exact True.intro | omega | (simp only [and_true,List.length_map,List.length_replicate,List.length_set,List.length_append,List.length_cons,List.length_nil,List.length_take,List.length_drop] at *;omega)) (by first | exact True.intro | omega | (simp only [and_true,List.length_map,List.length_replicate,List.length_set,List.length_append,List.length_cons,List.length_nil,List.length_take,List.length_drop] at *;omega)) ?_) | refine aOps_cons (stp_mulW (q0) (Y) (by exact rfl) (by exact rfl) (by first | exact True.intro | omega | (simp only [and_true,List.length_map,List.length_replicate,List.length_set,List.length_append,List.length_cons,List.length_nil,List.length_take,List.length_drop] at *;omega)) (by first | exact True.intro | omega | (simp only [and_true,List.length_map,List.length_replicate,List.length_set,List.length_append,List.length_cons,List.length_nil,List.length_take,List.length_drop] at *;omega)) ?_))
      repeat refine gO ?_
      (first | refine stp_subW (by exact rfl) (by exact rfl) ?_ | refine aw_cons (stp_subW (by exact rfl) (by exact rfl) ?_) | refine aOps_cons (stp_subW (by exact rfl) (by exact rfl) ?_))
      repeat refine gO ?_
      (first | refine stp_shrN (R2) (s) (by exact rfl) (by exact rfl) (by first | exact True.intro | omega | (simp only [and_true,List.length_map,List.length_replicate,List.length_set,List.length_append,List.length_cons,List.length_nil,List.length_take,List.length_drop] at *;omega)) (by first | exact True.intro | omega | (simp only [and_true,List.length_map,List.length_replicate,List.length_set,List.length_append,List.length_cons,List.length_nil,List.length_take,List.length_drop] at *;omega)) (by first | exact True.intro | omega | (simp only [and_true,List.length_map,List.length_replicate,List.length_set,List.length_append,List.length_cons,List.length_nil,List.length_take,List.length_drop] at *;omega)) ?_ | refine aw_cons (stp_shrN (R2) (s) (by exact rfl) (by exact rfl) (by first | exact True.intro | omega | (simp only [and_true,List.length_map,List.length_replicate,List.length_set,List.length_append,List.length_cons,List.length_nil,List.length_take,List.length_drop] at *;omega)) (by first | exact True.intro | omega | (simp only [and_true,List.length_map,List.length_replicate,List.length_set,List.length_append,List.length_cons,List.length_nil,List.length_take,List.length_drop] at *;omega)) (by first | exact True.intro | omega | (simp only [and_true,List.length_map,List.length_replicate,List.length_set,List.length_append,List.length_cons,List.length_nil,List.length_take,List.length_drop] at *;omega)) ?_) | refine aOps_cons (stp_shrN (R2) (s) (by exact rfl) (by exact rfl) (by first | exact True.intro | omega | (simp only [and_true,List.length_map,List.length_replicate,List.length_set,List.length_append,List.length_cons,List.length_nil,List.length_take,List.length_drop] at *;omega)) (by first | exact True.intro | omega | (simp only [and_true,List.length_map,List.length_replicate,List.length_set,List.length_append,List.length_cons,List.length_nil,List.length_take,List.length_drop] at *;omega)) (by first | exact True.intro | omega | (simp only [and_true,List.length_map,List.length_replicate,List.length_set,List.length_append,List.length_cons,List.length_nil,List.length_take,List.length_drop] at *;omega)) ?_))
      repeat refine gO ?_
      have key : (hi * 18446744073709551616 + lo) * 2 ^ s = R2 + y * 2 ^ s * (q1 * 4294967296 + q0):=by
        rw [hlo2,← hYe,Nat.mul_add,← Nat.mul_assoc,Nat.mul_comm Y q1,Nat.mul_comm Y q0]
        omega
      have k1:=congrArg (· / (y * 2 ^ s)) key
      have k2:=congrArg (· % (y * 2 ^ s)) key
      simp only [Nat.mul_div_mul_right _ _ hsp,Nat.mul_mod_mul_right] at k1 k2
      rw [← hYe] at k1 k2
      rw [Nat.add_mul_div_left R2 _ hY0,Nat.div_eq_of_lt hR2,Nat.zero_add] at k1
      rw [Nat.add_mul_mod_self_left,Nat.mod_eq_of_lt hR2] at k2
      refine eF hS ?_ (fl':=[(6,uv ((hi * 18446744073709551616 + lo) / y)),(7,uv ((hi * 18446744073709551616 + lo) % y))])
      refine ⟨⟨_,rfl,kN ?_⟩,⟨_,rfl,kN ?_⟩,trivial⟩
      · rw [k1];omega
      · rw [← k2,Nat.mul_div_cancel _ hsp]
end Go.Proofs

/-
  big: less.
-/
namespace Go.Proofs
open Go Go.Abs Go.Nums
attribute [local irreducible] thenA blockA awp aw Stp EndF aOps
set_option linter.unusedSimpArgs false

theorem c_less (p q : Nat) (hp : (digs B p).length < 2 ^ 40) (hqp : q ≤ p) : AFun Tryz.prog 92 [us (digs B p),us (digs B q)] (us (digs B (p - q))):=by
  refine aF (mu:=muF) Tryz.func92 fun S hS=>?_
  have hle:=len_mono hB hqp
  have hlp:=U_len (digs B p)
  have hlq:=U_len (digs B q)
  repeat refine gO ?_
  have e0 : ((U (digs B p)).length : Int).toNat = (digs B p).length:=by omega
  refine awp_rep3 (fun (i : Nat) (o : List Nat) (c : Nat)=>⟨lk' [(0,us (digs B p)),(1,us (digs B q)),(5,.c (.win (.loc 12) 0 (digs B p).length (digs B p).length)),(6,uv c),(13,us (digs B p)),(14,iv (digs B p).length),(15,iv i)],
      ov [(.loc 12,.ints 55 .u64 (U o))] (pushS S)⟩)
    (fun i o c=>i ≤ (digs B p).length∧o.length = (digs B p).length∧rng B o∧c ≤ 1∧val B (o.take i) + val B ((digs B q).take i) = val B ((digs B p).take i) + B ^ i * c) (fun i _ _=>(digs B p).length - i)
    0 (List.replicate (digs B p).length 0) 0 ⟨Nat.zero_le _,by simp,rng_rep (by decide) _,by simp,by simp [val]⟩
    (frz hS rfl ⟨.inl ⟨_,ov_of lks,kO (by rw [e0];exact U_rep _ 0)⟩,trivial⟩
      ⟨⟨_,rfl,kU rfl⟩,⟨_,rfl,kU rfl⟩,⟨_,rfl,kWin (by simp [ov,lkS]) rfl e0 e0⟩,⟨_,rfl,kN rfl⟩,⟨_,rfl,kU rfl⟩,⟨_,rfl,kN (by omega)⟩,⟨_,rfl,kN rfl⟩,trivial⟩) ?_
  rintro i o c ⟨h1,h2,h3,h4,h5⟩
  have hlo:=U_len o
  repeat refine gO ?_
  (refine zw ?_;refine s_cmp (fun h6=>?_) (fun h6=>?_))
  · repeat refine gOR ?_
    iterate 4 (refine awp_seq ?_;repeat refine gOR ?_)
    refine awp_seq ?_
    have ei : (i : Int).toNat = i:=by omega
    refine awp_mid (fun st=>Weak st ⟨lk' [(0,us (digs B p)),(1,us (digs B q)),(5,.c (.win (.loc 12) 0 (digs B p).length (digs B p).length)),(6,uv c),(7,iv i),(8,uv ((digs B p).getD i 0)),(9,uv ((digs B q).getD i 0)),(13,us (digs B p)),(14,iv (digs B p).length),(15,iv i)],
      ov [(.loc 12,.ints 55 .u64 (U o))] (pushS S)⟩) ?_ ?_
    · repeat refine gO ?_
      (refine zw ?_;refine s_cmp (fun h7=>?_) (fun h7=>?_))
      · repeat refine gO ?_
        exact frz hS rfl ⟨.inl ⟨_,ov_of lks,kO rfl⟩,trivial⟩
          ⟨⟨_,rfl,kU rfl⟩,⟨_,rfl,kU rfl⟩,⟨_,rfl,kWin (by simp [ov,lkS]) rfl rfl rfl⟩,⟨_,rfl,kN rfl⟩,⟨_,rfl,kN rfl⟩,⟨_,rfl,kN (by rw [U_get];rfl)⟩,⟨_,rfl,kN (by rw [U_get];rfl)⟩,⟨_,rfl,kU rfl⟩,⟨_,rfl,kN rfl⟩,⟨_,rfl,kN rfl⟩,trivial⟩
      · repeat refine gO ?_
        exact frz hS rfl ⟨.inl ⟨_,ov_of lks,kO rfl⟩,trivial⟩
          ⟨⟨_,rfl,kU rfl⟩,⟨_,rfl,kU rfl⟩,⟨_,rfl,kWin (by simp [ov,lkS]) rfl rfl rfl⟩,⟨_,rfl,kN rfl⟩,⟨_,rfl,kN rfl⟩,⟨_,rfl,kN (by rw [U_get];rfl)⟩,⟨_,rfl,kN (by rw [List.getD_eq_getElem?_getD,List.getElem?_eq_none (by omega)];rfl)⟩,⟨_,rfl,kU rfl⟩,⟨_,rfl,kN rfl⟩,⟨_,rfl,kN rfl⟩,trivial⟩
    · intro st2 hw2
      refine awp_weak _ hw2 ?_
      repeat refine gO ?_
      (refine zw ?_;refine s_call (c_sub64 _ _ c h4) ?_)
      repeat refine gO ?_
      have hx:=getD_lt (b:=B) (by decide) (rng_digs hB p) i
      have hy:=getD_lt (b:=B) (by decide) (rng_digs hB q) i
      refine ⟨i + 1,o.set i (((digs B p).getD i 0 + B - (digs B q).getD i 0 - c) % B),if (digs B p).getD i 0 < (digs B q).getD i 0 + c then 1 else 0,
        frz hS rfl ⟨.inl ⟨_,ov_of lks,kO (by rw [ei,Nat.zero_add];exact U_set _ _ _)⟩,trivial⟩
          ⟨⟨_,rfl,kU rfl⟩,⟨_,rfl,kU rfl⟩,⟨_,rfl,kWin (by simp [ov,lkS]) rfl rfl rfl⟩,⟨_,rfl,kN rfl⟩,⟨_,rfl,kU rfl⟩,⟨_,rfl,kN rfl⟩,⟨_,rfl,kN rfl⟩,trivial⟩,
        ⟨by omega,by simpa using h2,rng_set h3 (Nat.mod_lt _ (by decide)),by split <;> omega,?_⟩,by omega⟩
      rw [val_set_take (by omega),val_take_succ,val_take_succ]
      refine sub_step B (B ^ i) _ _ _ _ _ _ _ _ h5 ?_
      rw [show B = 18446744073709551616 from rfl] at *
      split <;> omega
  · repeat refine gO ?_
    have hi : i = (digs B p).length:=by omega
    subst hi
    refine aw_weak ⟨lk' [(39,us o)],ov [] (pushS S)⟩ ?_ ?_
    · refine frz hS rfl trivial ⟨⟨_,rfl,kW (ov_of lks) rfl (by omega) ?_⟩,trivial⟩
      rw [List.drop_zero,U_take,take_all (by omega)]
    (refine zw ?_;refine s_call (c_trim o h3 (by omega)) ?_)
    repeat refine gO ?_
    refine eF hS ?_ (fl':=[(4,us (digs B (p - q)))])
    refine ⟨⟨_,rfl,kU ?_⟩,trivial⟩
    rw [take_all hle,take_all (Nat.le_refl _),take_all (by omega),val_digs hB,val_digs hB] at h5
    have h7:=val_lt h3
    rw [h2] at h7
    have hc : c = 0:=by
      rcases Nat.lt_or_ge 0 c with g | g
      · have : c = 1:=by omega
        rw [this,Nat.mul_one] at h5;omega
      · omega
    rw [hc] at h5
    congr 1
    omega
end Go.Proofs
