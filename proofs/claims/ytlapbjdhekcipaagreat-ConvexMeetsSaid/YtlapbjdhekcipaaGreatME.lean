import Derived.WalkKit
import Derived.ProofKit
import Derived.OpenShut
import Derived.ShutString
import Derived.ChangeOld
import Derived.Below
import Derived.Deep.Slices
import Derived.Deep.Strs
import Derived.SizedLaws
import Derived.Test.YtlapbjdhekcipaaGreatMD
set_option linter.unusedVariables false
set_option linter.unusedSimpArgs false
namespace Go.Ae
open Go
theorem Z2 (o i j k m:Q2):ao o j k*ao i j m=ao o j m*ao i j k+ao o i j*ao j k m:=by simp only [dX]; grind
theorem Z3 (o i j k m:Q2):ao o j k*ao i k m=ao o k m*ao i j k+ao o i k*ao j k m:=by simp only [dX]; grind
theorem EZ {a x s:Rat} (ha:0 < a) (h:a*x=s) (hs:0 < s):0 < x:=by
 by_cases hx:0 < x
 ·exact hx
 ·have:=Rat.mul_nonneg (show 0≤a by grind) (show 0≤-x by grind)
  grind
theorem NK {a b c d:Rat} (ha:0 < a) (hb:0 < b) (hc:0 < c) (hd:0 < d):0 < a*b+c*d:=by
 have:=Rat.mul_pos ha hb;have:=Rat.mul_pos hc hd;grind
def gk (a b:Q2):Prop:=a.1 < b.1∨a.1=b.1∧a.2 < b.2
theorem UG {o a b c:Q2} (ha:gk o a) (hb:gk o b) (hc:gk o c) (h1:0 < ao o a b) (J:0 < ao o b c):0 < ao o a c:=by
 have e:(b.1 - o.1)*ao o a c=(a.1 - o.1)*ao o b c+(c.1 - o.1)*ao o a b:=by simp only [dX]; grind
 have DP:0 < b.1 - o.1:=by
  rcases hb with h | ⟨h,h'⟩
  ·grind
  ·exfalso;have e2:ao o b c=-((b.2 - o.2)*(c.1 - o.1)):=by rw [dX,show b.1 - o.1=0 by grind]; grind
   have:=Rat.mul_nonneg (show 0≤b.2 - o.2 by grind) (show 0≤c.1 - o.1 by rcases hc with h | ⟨h,_⟩ <;> grind)
   grind
 have vo:0 < a.1 - o.1:=by
  rcases ha with h | ⟨h,h'⟩
  ·grind
  ·exfalso;have e2:ao o a b=-((a.2 - o.2)*(b.1 - o.1)):=by rw [dX,show a.1 - o.1=0 by grind]; grind
   have:=Rat.mul_pos (show 0 < a.2 - o.2 by grind) DP
   grind
 refine EZ DP e ?_;have:=Rat.mul_pos vo J;have:=Rat.mul_nonneg (show 0≤c.1 - o.1 by rcases hc with h | ⟨h,_⟩ <;> grind) (show 0≤ao o a b by grind)
 grind
theorem V0 {o:Q2}:∀ l:List Q2,(∀ v∈l,gk o v)→(∀ e∈b9 l,0 < ao o e.1 e.2)→l.Pairwise (fun a b=>0 < ao o a b):=by
 intro l
 induction l with
 | nil=>exact fun _ _=>.nil
 | cons a l ih =>
  intro hv he;cases l with
  | nil=>simp
  | cons b l =>
   rw [kP] at he;have J:=ih (fun v h=>hv v (List.mem_cons_of_mem _ h)) (fun e h=>he e (List.mem_cons_of_mem _ h))
   rw [List.pairwise_cons];refine ⟨fun c hc=>?_,J⟩
   have dI:=he (a,b) (List.mem_cons_self ..);rcases List.mem_cons.1 hc with rfl | cD
   ·exact dI
   ·rw [List.pairwise_cons] at J;exact UG (hv a (List.mem_cons_self ..)) (hv b (List.mem_cons_of_mem _ (List.mem_cons_self ..))) (hv c (List.mem_cons_of_mem _ hc)) dI (J.1 c cD)
def zl:List Q2→Prop
 | []=>True
 | a::l=>l.Pairwise (fun b c=>0 < ao a b c)∧zl l
theorem zl.eh:∀ {l:List Q2},zl l→bD l
 | [],_=>trivial
 | a::l,h=>⟨h.1.imp (fun h=>by grind),zl.eh h.2⟩
theorem V1 {o:Q2}:∀ l:List Q2,l.Pairwise (fun a b=>0 < ao o a b)→(∀ e∈b9 (b9 l),0 < ao e.1.1 e.1.2 e.2.2)→zl l:=by
 intro l
 induction l with
 | nil=>exact fun _ _=>trivial
 | cons a l ih =>
  intro hf hc;rw [List.pairwise_cons] at hf;obtain ⟨QQ,hf⟩:=hf;cases l with
  | nil=>exact ⟨.nil,trivial⟩
  | cons b l =>
   have hS:=ih hf (fun e he=>hc e (by
    cases l with
    | nil=>cases he
    | cons c l=>rw [kP,kP,kP]; exact List.mem_cons_of_mem _ he))
   rw [List.pairwise_cons] at hf;have Jr:l.Pairwise (fun x y=>0 < ao b x y):=hS.1
   have h1:∀ z∈l,0 < ao a b z:=by
    cases l with
    | nil=>intro z hz; cases hz
    | cons c l =>
     have PN:0 < ao a b c:=hc ((a,b),(b,c)) (by rw [kP,kP,kP]; exact List.mem_cons_self ..)
     intro z hz;rcases List.mem_cons.1 hz with rfl | oa
     ·exact PN
     ·rw [List.pairwise_cons] at Jr;exact EZ (hf.1 c (List.mem_cons_self ..)) (Z2 o a b c z) (NK (hf.1 z hz) PN (QQ b (List.mem_cons_self ..)) (Jr.1 z oa))
   refine ⟨?_,hS⟩;rw [List.pairwise_cons];refine ⟨h1,?_⟩;have h3:=List.Pairwise.and_mem.1 (Jr.and hf.2);refine h3.imp fun {x y} ⟨hx,hy,ad0,ad1⟩=>?_
   exact EZ (hf.1 x hx) (Z3 o a b x y) (NK ad1 (h1 x hx) (QQ x (List.mem_cons_of_mem _ hx)) ad0)
theorem Lm {α:Type} {l:List α} {e:α × α} (h:e∈b9 l):∃ i,l[i]?=some e.1∧l[i+1]?=some e.2:=by
 obtain ⟨i,hi,rfl⟩:=List.getElem_of_mem h;refine ⟨i,?_⟩;have:(b9 l)[i]?=some (b9 l)[i]:=List.getElem?_eq_getElem hi;unfold b9 at this;rw [List.getElem?_zip_eq_some,List.getElem?_tail] at this;exact this
theorem yG {a b:Q2}:fC a b < 0↔gk a b:=by
 have h:=uf (a:=b) (b:=a);unfold il at h;unfold gk;constructor
 ·intro hc;have hn:¬ (b.1 < a.1∨b.1=a.1∧b.2≤a.2):=fun e=>h.1 e hc
  grind
 ·intro hc;refine Decidable.byContradiction fun hn=>?_
  have:=h.2 hn;grind
def fI (Q:List Q2):Prop:=∀ i,0 < i→i < Q.length→gk (aw Q 0) (aw Q i)
def oO (Q:List Q2) (i:Nat):Prop:=ao (aw Q i) (aw Q (aY Q.length i)) (aw Q (aY Q.length (aY Q.length i)))≤0∨(0 < i∧i+1 < Q.length∧ao (aw Q 0) (aw Q i) (aw Q (i+1))≤0)
def yV (Q:List Q2) (i:Nat):Prop:=∃ p∈Q,p≠aw Q i∧p≠aw Q (aY Q.length i)∧ao (aw Q i) (aw Q (aY Q.length i)) p≤0
theorem xc {Q:List Q2} (h:fI Q) {i:Nat} (h0:0 < i) (hi:i < Q.length):aw Q 0≠aw Q i:=fun e=>by
 have:=h i h0 hi;rw [← e] at this;rcases this with h | ⟨_,h⟩ <;> exact absurd h (Rat.not_lt.2 (Rat.le_refl))
theorem yz {Q:List Q2} (h3:3≤Q.length) (ho:fI Q):Ring Q↔∀ i,i < Q.length→¬ oO Q i:=by
 constructor
 ·intro hR i hi hb;rcases hb with hb | ⟨h0,h1,hb⟩
  ·have hn:=cO hi;have:=hR.rW _ hn;rw [B5 hi] at this;grind
  ·have mz:=hR.nodup;have hT:=hR.eh;have e0:(Q.length - 1+1)=Q.length:=by omega
   have dH:0≤ao (aw Q i) (aw Q (i+1)) (aw Q 0):=by
    have he:=kS hi;rw [show aY Q.length i=i+1 from Nat.mod_eq_of_lt h1] at he
    exact oC hT he (eK (by omega))
   have aI:ao (aw Q 0) (aw Q i) (aw Q (i+1))≠0:=AM (hR.ext.1 (eK (by omega))) (hR.ext.1 (eK hi)) (hR.ext.1 (eK h1)) (xc ho h0 hi) (xc ho (by omega) h1) fun e=>by
    have:=wR mz hi h1 e;omega
   rw [wQ] at hb aI;grind
 ·intro h;have PO:∀ k,k < Q.length→0 < ao (aw Q (dz Q.length k)) (aw Q k) (aw Q (aY Q.length k)):=fun k hk=>by
   have:=h _ (jf hk);unfold oO at this;rw [B0 hk] at this;exact Rat.not_le.1 fun e=>this (.inl e)
  refine ⟨?_,h3,PO⟩;cases Q with
  | nil=>exact trivial
  | cons o l =>
   have hv:∀ v∈l,gk o v:=fun v hv=>by
    obtain ⟨i,hi,rfl⟩:=pV hv;exact ho (i+1) (by omega) (by simp; omega)
   have hp:=V0 l hv fun e he=>by
    obtain ⟨i,h1,J⟩:=Lm he;have hi:i+1 < l.length:=(List.getElem?_eq_some_iff.1 J).1;have:=h (i+1) (by simp; omega)
    unfold oO at this;have e1:aw (o::l) (i+1)=e.1:=rV h1;have e2:aw (o::l) (i+1+1)=e.2:=rV J;have e0:aw (o::l) 0=o:=rfl;rw [e1,e2,e0] at this;exact Rat.not_le.1 fun e=>this (.inr ⟨by omega,by simp; omega,e⟩)
   refine ⟨hp.imp (fun h=>by grind),(V1 l hp fun e he=>?_).eh⟩
   obtain ⟨i,h1,J⟩:=Lm he;have g1:l[i]?=some e.1.1∧l[i+1]?=some e.1.2:=by
    unfold b9 at h1;rw [List.getElem?_zip_eq_some,List.getElem?_tail] at h1;exact h1
   have g2:l[i+1]?=some e.2.1∧l[i+1+1]?=some e.2.2:=by
    unfold b9 at J;rw [List.getElem?_zip_eq_some,List.getElem?_tail] at J;exact J
   have hi:i+1+1 < l.length:=(List.getElem?_eq_some_iff.1 g2.2).1;have:=PO (i+1+1) (by simp; omega)
   have hn:aY (o::l).length (i+1+1)=i+1+1+1:=Nat.mod_eq_of_lt (by simp; omega)
   have hq:dz (o::l).length (i+1+1)=i+1:=by
    have:=B5 (n:=(o::l).length) (k:=i+1) (by simp; omega)
    rwa [show aY (o::l).length (i+1)=i+1+1 from Nat.mod_eq_of_lt (by simp; omega)] at this
   rw [hn,hq] at this;have e1:aw (o::l) (i+1)=e.1.1:=rV g1.1;have e2:aw (o::l) (i+1+1)=e.1.2:=rV g1.2;have e3:aw (o::l) (i+1+1+1)=e.2.2:=rV g2.2;rw [e1,e2,e3] at this;exact this
theorem UH {Q:List Q2} (h3:3≤Q.length) (ho:fI Q) (h:∀ i,i < Q.length→¬ yV Q i):∀ i j,i < j→j < Q.length→aw Q i≠aw Q j:=by
 have ax:∀ i,i < Q.length→∀ p∈Q,p≠aw Q i→p≠aw Q (aY Q.length i)→0 < ao (aw Q i) (aw Q (aY Q.length i)) p:=fun i hi p hp h1 J =>
  Rat.not_le.1 fun e=>h i hi ⟨p,hp,h1,J,e⟩
 have aI:∀ i,i < Q.length→aw Q i≠aw Q (aY Q.length i):=fun i hi e=>by
  by_cases h0:i=0
  ·subst h0;exact xc ho (i:=aY Q.length 0) (by unfold aY; rw [Nat.mod_eq_of_lt (by omega)]; omega) (cO hi) e
  ·have bM:aw Q 0≠aw Q i:=xc ho (by omega) hi
   have:=ax i hi (aw Q 0) (eK (by omega)) bM (fun e2=>bM (e2.trans e.symm))
   rw [← e,BZ] at this;grind
 have key:∀ d i j,Q.length - j=d→0 < i→i < j→j < Q.length→aw Q i≠aw Q j:=by
  intro d
  induction d with
  | zero=>intro i j hd _ _ hj; omega
  | succ d ih =>
   intro i j hd h0 xQ hj e;have hi:i < Q.length:=by omega
   have eni:aY Q.length i=i+1:=Nat.mod_eq_of_lt (by omega)
   have fM:aw Q (aY Q.length i)=aw Q (aY Q.length j):=by
    refine Decidable.byContradiction fun hc=>?_
    have a:=ax i hi (aw Q (aY Q.length j)) (eK (cO hj)) (by rw [e]; exact Ne.symm (aI j hj)) (Ne.symm hc)
    have b:=ax j hj (aw Q (aY Q.length i)) (eK (cO hi)) (by rw [← e]; exact Ne.symm (aI i hi)) hc
    rw [← e,yx] at b;grind
   rw [eni] at fM;by_cases hl:j+1 < Q.length
   ·rw [show aY Q.length j=j+1 from Nat.mod_eq_of_lt hl] at fM
    exact ih (i+1) (j+1) (by omega) (by omega) (by omega) hl fM
   ·have:j+1=Q.length:=by omega
    rw [show aY Q.length j=0 from by unfold aY; rw [this,Nat.mod_self]] at fM
    exact xc ho (i:=i+1) (by omega) (by omega) fM.symm
 intro i j xQ hj;by_cases h0:i=0
 ·subst h0; exact xc ho xQ hj
 ·exact key _ i j rfl (by omega) xQ hj
theorem MW {Q:List Q2} (h3:3≤Q.length) (ho:fI Q):Ring Q↔∀ i,i < Q.length→¬ yV Q i:=by
 constructor
 ·rintro hR i hi ⟨p,hp,h1,J,hb⟩
  have dH:=oC hR.eh (kS hi) hp;have:=AM (hR.ext.1 (eK hi)) (hR.ext.1 (eK (cO hi))) (hR.ext.1 hp) (hR.ne _ (kS hi)) (Ne.symm h1) (Ne.symm J);grind
 ·intro h;have mz:=UH h3 ho h;have hd:∀ i j,i < Q.length→j < Q.length→i≠j→aw Q i≠aw Q j:=fun i j hi hj aI=>by
   rcases Nat.lt_or_gt_of_ne aI with h | h
   ·exact mz i j h hj
   ·exact Ne.symm (mz j i h hi)
  have ax:∀ i j,i < Q.length→j < Q.length→j≠i→j≠aY Q.length i→0 < ao (aw Q i) (aw Q (aY Q.length i)) (aw Q j):=fun i j hi hj h1 J =>
   Rat.not_le.1 fun e=>h i hi ⟨aw Q j,eK hj,hd j i hj hi h1,hd j _ hj (cO hi) J,e⟩
  refine (yz h3 ho).2 fun i hi hb=>?_
  rcases hb with hb | ⟨h0,h1,hb⟩
  ·have hn:=cO hi;have:=ax i _ hi (cO hn) (fun e=>by
    unfold aY at e;rcases Nat.lt_or_ge (i+1) Q.length with h | h
    ·rw [Nat.mod_eq_of_lt h] at e;rcases Nat.lt_or_ge (i+1+1) Q.length with h' | h'
     ·rw [Nat.mod_eq_of_lt h'] at e; omega
     ·rw [show i+1+1=Q.length by omega,Nat.mod_self] at e; omega
    ·rw [show i+1=Q.length by omega,Nat.mod_self,Nat.mod_eq_of_lt (by omega)] at e; omega) (w9 hn (by omega))
   grind
  ·have:=ax i 0 hi (by omega) (by omega) (by rw [show aY Q.length i=i+1 from Nat.mod_eq_of_lt h1]; omega)
   rw [show aY Q.length i=i+1 from Nat.mod_eq_of_lt h1,← wQ] at this
   grind
open Go
theorem oQ (a b p:Q2):aq (dP a b) p=ao a b p:=by simp only [gd,dX,dP]; grind
theorem MX {a b:Q2} (h:a≠b):mB (dP a b):=fun e=>h (Prod.ext (by have:=e.2; unfold dP at this; grind) (by have:=e.1; unfold dP at this; grind))
theorem V2 {m:Q3} {x y z:Q2} (hx:aq m x=0) (hy:aq m y=0) (aI:x≠y) (h:ao x y z=0):aq m z=0:=by
 rw [gd] at *;rw [dX] at h;by_cases h0:y.1 - x.1=0
 ·have h1:y.2 - x.2≠0:=fun e=>aI (Prod.ext (by grind) (by grind))
  have:(y.2 - x.2)*(m.1*z.1+m.2.1*z.2 - m.2.2)=0:=by grind
  exact (Rat.mul_eq_zero.1 this).resolve_left h1
 ·have:(y.1 - x.1)*(m.1*z.1+m.2.1*z.2 - m.2.2)=0:=by grind
  exact (Rat.mul_eq_zero.1 this).resolve_left h0
theorem NL {m:Q3} (hm:mB m) {a b c:Q2} (ha:aq m a=0) (hb:aq m b=0) (hc:aq m c=0):ao a b c=0 :=
 B6 (P:=[a,b,c]) ⟨m,hm,fun v hv=>by simp at hv; rcases hv with rfl | rfl | rfl <;> assumption⟩ (by simp) (by simp) (by simp)
theorem Ts {P:List Q2} {v:Q2} (h:v∈P) (hw:∃ w∈P,w≠v):∃ y,(v,y)∈ba P∧v≠y:=by
 obtain ⟨w,hw,aI⟩:=hw;obtain ⟨A,B,rfl⟩:=List.append_of_mem h;obtain ⟨y,h1,J⟩:=leave (v:=v) (B++A) ⟨w,by
  rcases List.mem_append.1 hw with h | h
  ·exact List.mem_append_right _ h
  ·rcases List.mem_cons.1 h with h | h
   ·exact absurd h aI
   ·exact List.mem_append_left _ h,aI⟩
 exact ⟨y,yn (A:=v::B) (KK (m:=[v]) h1),J⟩
theorem Ln {P:List Q2} (hT:bD P):(Flat P∧fH P=[])∨(¬ Flat P∧Ring (fH P)∧fI (fH P)∧gJ (fH P) P∧∀ v∈fH P,v∈P):=by
 by_cases hF:Flat P
 ·exact .inl ⟨hF,(UD hF).1⟩
 ·have hc:=Ll hT hF;rw [(W4 hT hF).1];refine .inr ⟨hF,UF hc,fun i h0 hi=>?_,(gJ.l6 fun v=>tY).trans (EW hT hF).1,fun v hv=>(Fs P).subset (tY.1 hv)⟩
  have:=Sr hc hi h0;have hle:il (aw (eV (fx P)) 0) (aw (eV (fx P)) i):=uf.2 (by omega)
  have aI:aw (eV (fx P)) 0≠aw (eV (fx P)) i:=fun e=>by rw [e,oE.2 rfl] at this; omega
  rcases hle with h | ⟨h,h'⟩
  ·exact .inl h
  ·exact .inr ⟨h,Rat.lt_of_le_of_ne h' fun e=>aI (Prod.ext h e)⟩
theorem W9 {S:Q3→Prop} {P C:List Q2} (hT:bD P) (hC:Ring C) (hs:gJ C P) (Ii:∀ v∈C,v∈P) (h:∀ e∈ba P,mD S e):∀ e∈ba C,mD S e:=by
 rintro ⟨x,y⟩ he
 have qX:x≠y:=hC.ne _ he;obtain ⟨x',h1,J⟩:=Ts (Ii x (mM he).1) ⟨y,Ii y (mM he).2,Ne.symm qX⟩;have a:=oC hT h1 (Ii y (mM he).2);have b:=Bs hC.eh he ((hs x').2 (.l6 (mM h1).2));rw [yx] at b;obtain ⟨m,hm,hl,v1,v2⟩:=h _ h1;exact ⟨m,hm,hl,v1,V2 v1 v2 J (by grind)⟩
theorem Xa {α:Type} [DecidableEq α]:∀ (n:Nat) (S:List α) (f:Nat→α),(∀ k,k < n→f k∈S)→(∀ i j,i < n→j < n→f i=f j→i=j)→n≤S.length:=by
 intro n
 induction n with
 | zero=>intro S f _ _; omega
 | succ n ih =>
  intro S f h1 J;have hn:=h1 n (by omega)
  have:=ih (S.erase (f n)) f (fun k hk=>(List.mem_erase_of_ne fun e=>by have:=J k n (by omega) (by omega) e; omega).2 (h1 k (by omega))) (fun i j hi hj=>J i j (by omega) (by omega))
  rw [List.length_erase_of_mem hn] at this;have:0 < S.length:=List.length_pos_of_mem hn;omega
theorem V3 {S:List Q3} {C:List Q2} (hC:Ring C) (h:∀ e∈ba C,mD (·∈S) e):C.length≤S.length:=by
 have h3:=hC.three;have hf:∀ k,∃ m:Q3,k < C.length→m∈S∧mB m∧aq m (aw C k)=0∧aq m (aw C (aY C.length k))=0:=fun k=>by
  by_cases hk:k < C.length
  ·obtain ⟨m,h⟩:=h _ (kS hk);exact ⟨m,fun _=>h⟩
  ·exact ⟨(0,0,0),fun h=>absurd h hk⟩
 obtain ⟨f,hf⟩:=Classical.axiomOfChoice hf;refine Xa C.length S f (fun k hk=>(hf k hk).1) fun i j hi hj e=>Decidable.byContradiction fun aI=>?_
 obtain ⟨_,hl,i1,i2⟩:=hf i hi;obtain ⟨_,_,j1,j2⟩:=hf j hj;rw [← e] at j1 j2;have hx:∀ a b c,a < C.length→b < C.length→c < C.length→a≠b→a≠c→b≠c→aq (f i) (aw C a)=0→aq (f i) (aw C b)=0→aq (f i) (aw C c)=0→False:=fun a b c ha hb hc dI Aq pg va vb vc =>
  AM (hC.ext.1 (eK ha)) (hC.ext.1 (eK hb)) (hC.ext.1 (eK hc)) (fun e=>dI (wR hC.nodup ha hb e)) (fun e=>Aq (wR hC.nodup ha hc e)) (fun e=>pg (wR hC.nodup hb hc e)) (NL hl va vb vc)
 by_cases h1:aY C.length i=j
 ·subst h1;refine hx i _ _ hi hj (cO hj) aI (fun e=>?_) (Ne.symm (w9 hj (by omega))) i1 i2 j2
  unfold aY at e;rcases Nat.lt_or_ge (i+1) C.length with h | h
  ·rw [Nat.mod_eq_of_lt h] at e;rcases Nat.lt_or_ge (i+1+1) C.length with h' | h'
   ·rw [Nat.mod_eq_of_lt h'] at e; omega
   ·rw [show i+1+1=C.length by omega,Nat.mod_self] at e; omega
  ·rw [show i+1=C.length by omega,Nat.mod_self,Nat.mod_eq_of_lt (by omega)] at e; omega
 ·exact hx i j _ hi hj (cO hi) aI (Ne.symm (w9 hi (by omega))) (Ne.symm h1) i1 j1 i2
theorem Xb {k:Nat} {C:List Q2} (hC:Ring C) (h:∀ e∈ba C,mD (Q3.sz k) e):∀ v∈C,Q2.sz (8*k+2) v:=by
 intro v hv;obtain ⟨i,hi,rfl⟩:=pV hv;obtain ⟨l,sl,hl,l1,l2⟩:=h _ (rL hi);obtain ⟨m,sm,hm,m1,m2⟩:=h _ (kS hi);have l2:aq l (aw C i)=0:=l2;have m1:aq m (aw C i)=0:=m1;have hd:qH l m≠0:=ZX hl l1 l2 (fun e=>by
  have hc:=hC.rW i hi;rw [NL hm (e.trans m1) m1 m2] at hc;grind)
 rw [ZW l2 m1 hd];exact Q2.mono (ZV sl sm) (by omega)
def kD (P:List Q2) (e:Q2 × Q2):List Q2:=fH (dc (dP e.1 e.2) P)
def gK (P B:List Q2):List Q2:=(ba B).foldl kD P
def jg (P B:List Q2) (j:Nat):List Q2:=((ba B).take j).foldl kD P
theorem Tt {P B:List Q2} {j:Nat} {e:Q2 × Q2} (h:(ba B)[j]?=some e):jg P B (j+1)=kD (jg P B j) e:=by
 unfold jg;rw [List.take_add_one,h,List.foldl_append]; rfl
theorem Md (P B:List Q2):jg P B B.length=gK P B:=by
 unfold jg gK;rw [← mK B,List.take_length]
def o6 (S:Q3→Prop) (P:List Q2):Prop:=P=[]∨(Ring P∧fI P∧∀ e∈ba P,mD S e)
theorem UI {S:Q3→Prop} {P:List Q2} {e:Q2 × Q2} (aI:e.1≠e.2) (hS:S (dP e.1 e.2)) (h:o6 S P):o6 S (kD P e):=by
 rcases h with rfl | ⟨hR,ho,DQ⟩
 ·exact .inl rfl
 ·have hT:=MP (m:=dP e.1 e.2) hR.eh;rcases Ln hT with ⟨_,h⟩ | ⟨_,h1,J,h3,h4⟩
  ·exact .inl h
  ·exact .inr ⟨h1,J,W9 hT h1 h3 h4 (ZY hS (MX aI) DQ)⟩
theorem Lo {S:Q3→Prop} {P B:List Q2} (hB:∀ e∈ba B,e.1≠e.2∧S (dP e.1 e.2)) (h:o6 S P) (j:Nat):o6 S (jg P B j):=by
 unfold jg;have hl:∀ e∈(ba B).take j,e.1≠e.2∧S (dP e.1 e.2):=fun e he=>hB e (List.mem_of_mem_take he)
 revert hl;generalize (ba B).take j=l;intro hl
 induction l generalizing P with
 | nil=>exact h
 | cons e l ih=>exact ih (UI (hl e (List.mem_cons_self ..)).1 (hl e (List.mem_cons_self ..)).2 h) fun x hx=>hl x (List.mem_cons_of_mem _ hx)
theorem Lp {S:List Q3} {k:Nat} {P:List Q2} (hk:∀ m∈S,Q3.sz k m) (h:o6 (·∈S) P):P.length≤S.length∧∀ v∈P,Q2.sz (8*k+2) v:=by
 rcases h with rfl | ⟨hR,_,DQ⟩
 ·exact ⟨Nat.zero_le _,fun v hv=>nomatch hv⟩
 ·exact ⟨V3 hR DQ,Xb hR fun e he=>(DQ e he).imp fun m hm=>⟨hk m hm.1,hm.2⟩⟩
def jh (P:List Q2):List Q3:=(ba P).map fun e=>dP e.1 e.2
theorem wj (P:List Q2):(jh P).length=P.length:=by unfold jh; rw [List.length_map,mK]
theorem Fw {P:List Q2} {e:Q2 × Q2} (h:e∈ba P):dP e.1 e.2∈jh P:=List.mem_map_of_mem (f:=fun e:Q2 × Q2=>dP e.1 e.2) h
theorem MY {P:List Q2} (h:Ring P):∀ e∈ba P,mD (·∈jh P) e:=fun e he=>⟨_,Fw he,MX (h.ne e he),by rw [oQ,pU],by rw [oQ,oG]⟩
theorem BJ {P:List Q2} {k:Nat} (h:∀ v∈P,Q2.sz k v):∀ m∈jh P,Q3.sz (6*k+3) m:=fun m hm=>by
 obtain ⟨e,he,rfl⟩:=List.mem_map.1 hm;have:=mM he;exact Q3.mono (Ol (h _ this.1) (h _ this.2)) (by omega)
theorem mD.mono {S T:Q3→Prop} {e:Q2 × Q2} (h:mD S e) (hs:∀ m,S m→T m):mD T e:=h.imp fun m hm=>⟨hs m hm.1,hm.2⟩
theorem o6.mono {S T:Q3→Prop} {P:List Q2} (h:o6 S P) (hs:∀ m,S m→T m):o6 T P:=h.imp id fun h=>⟨h.1,h.2.1,fun e he=>(h.2.2 e he).mono hs⟩
def Ou (P B:List Q2):Prop:=∀ j,j≤B.length→(jg P B j).length≤1073741824∧∀ v∈jg P B j,Q2.sz 2048 v
theorem NM {S:List Q3} {P B:List Q2} (hB:Ring B) (hk:∀ m∈S,Q3.sz 255 m) (hl:∀ m∈jh B,Q3.sz 255 m) (hn:S.length+B.length≤1073741824) (h:o6 (·∈S) P):Ou P B:=fun j hj=>by
 have hm:=Lo (S:=(·∈S++jh B)) (B:=B) (fun e he=>⟨hB.ne e he,List.mem_append_right _ (Fw he)⟩) (h.mono fun m hm=>List.mem_append_left _ hm) j
 obtain ⟨h1,J⟩:=Lp (k:=255) (fun m hm=>(List.mem_append.1 hm).elim (hk m) (hl m)) hm
 rw [List.length_append,wj] at h1;exact ⟨by omega,fun v hv=>Q2.mono (J v hv) (by decide)⟩
theorem UJ {P:List Q2} (hT:bD P) (e:Q2 × Q2):(Flat (dc (dP e.1 e.2) P)∧kD P e=[])∨(Ring (kD P e)∧fI (kD P e)∧∀ p,cM (kD P e) p↔cM P p∧0≤ao e.1 e.2 p):=by
 rcases Ln (MP (m:=dP e.1 e.2) hT) with h | ⟨_,h1,J,h3,_⟩
 ·exact .inl h
 ·refine .inr ⟨h1,J,fun p=>?_⟩
  rw [show cM (kD P e) p↔_ from h3 p,Kl hT,oQ]
open Go
def dL (l:List PV):Bool:=l.any fun p=>decide (¬ p.canon)
instance (a b:Q2):Decidable (gk a b):=inferInstanceAs (Decidable (_∨_))
def Dg (Q:List Q2):Bool:=(List.range Q.length).all fun i=>decide (i=0∨gk (aw Q 0) (aw Q i))
instance (Q:List Q2) (i:Nat):Decidable (oO Q i):=inferInstanceAs (Decidable (_∨_))
def CT (Q:List Q2):Bool:=(List.range Q.length).all fun i=>decide (¬ oO Q i)
theorem yA {Q:List Q2}:Dg Q=true↔fI Q:=by
 unfold Dg fI;rw [List.all_eq_true];constructor
 ·intro h i h0 hi;exact (of_decide_eq_true (h i (List.mem_range.2 hi))).resolve_left (by omega)
 ·intro h i hi;by_cases h0:i=0
  ·exact decide_eq_true (.inl h0)
  ·exact decide_eq_true (.inr (h i (by omega) (List.mem_range.1 hi)))
theorem Bt {Q:List Q2} (h3:3≤Q.length) (ho:fI Q):CT Q=true↔Ring Q:=by
 rw [yz h3 ho];unfold CT;rw [List.all_eq_true];exact ⟨fun h i hi=>of_decide_eq_true (h i (List.mem_range.2 hi)),fun h i hi=>decide_eq_true (h i (List.mem_range.1 hi))⟩
def bz (L:List PV):Int :=
 if L.length < 3∨64 < L.length then 4 else if dL L=true then 1 else if Dg (aV L)=true then (if CT (aV L)=true then 0 else 15) else 8
theorem oD {L:List PV} (h:bz L=0):(3≤L.length∧L.length≤64)∧(∀ p∈L,p.canon)∧Ring (aV L)∧fI (aV L):=by
 unfold bz at h
 split at h
 ·cases h
 ·rename_i h1
  split at h
  ·cases h
  ·rename_i J
   split at h
   ·rename_i h3
    split at h
    ·rename_i h4;have ho:=yA.1 h3;exact ⟨by omega,fun p hp=>Decidable.byContradiction fun e=>J (List.any_eq_true.2 ⟨p,hp,decide_eq_true e⟩),(Bt (by rw [cY]; omega) ho).1 h4,ho⟩
    ·cases h
   ·cases h
theorem Xc {L:List PV} (h1:3≤L.length∧L.length≤64) (J:∀ p∈L,p.canon) (h3:Ring (aV L)) (h4:fI (aV L)):bz L=0:=by
 unfold bz;rw [if_neg (by omega),if_neg (fun e=>by obtain ⟨p,hp,hc⟩:=List.any_eq_true.1 e; exact of_decide_eq_true hc (J p hp)),if_pos (yA.2 h4),if_pos ((Bt (by rw [cY]; omega) h4).2 h3)]
def zI (p:Q2) (o:Int) (e:Q2 × Q2):Int:=if a8 (ao e.1 e.2 p) 0 < o then a8 (ao e.1 e.2 p) 0 else o
def c8 (Q:List Q2) (p:Q2):Int:=(ba Q).foldl (zI p) 1
def qI (L:List PV) (p:PV):Int × Int:=if bz L=0∧p.canon then (c8 (aV L) p.p,0) else (0,1)
def nc (R:List Q2):List Q2 × Int:=if R.length=0 then ([],11) else if 64 < R.length then ([],4) else (R,0)
def dg (A B:List PV):List Q2 × Int:=if bz A=0∧bz B=0 then nc (gK (aV A) (aV B)) else ([],1)
def rf (s:Bool) (o:Int):Bool:=if s then decide (o≤0) else decide (o < 0)
def ie (s:Bool) (A B:List Q2):Option (Q2 × Q2):=(ba A).find? fun e=>B.all fun x=>rf s (a8 (ao e.1 e.2 x) 0)
def kc (s:Bool) (A B:List Q2):Option (Q2 × Q2):=match ie s A B with
 | some e=>some e
 | none=>ie s B A
def PQ (s:Bool) (A B:List PV):Bool × Int:=if bz A=0∧bz B=0 then ((kc s (aV A) (aV B)).isNone,0) else (false,1)
def QR (e:Q2 × Q2):XV:=(cB e.1,cB e.2)
def nf (A B:List PV):XV × Int:=if bz A=0∧bz B=0 then (match kc true (aV A) (aV B) with | some e=>(QR e,0) | none=>(mZ,6)) else (mZ,1)
def xF (a b:Q2) (st:Option (Rat × Rat)) (e:Q2 × Q2):Option (Rat × Rat) :=
 match st with
 | none=>none
 | some (lo,hi) =>
  if ao e.1 e.2 b - ao e.1 e.2 a=0 then (if ao e.1 e.2 a≤0 then none else some (lo,hi))
  else if 0 < ao e.1 e.2 b - ao e.1 e.2 a then some (lE lo (-ao e.1 e.2 a / (ao e.1 e.2 b - ao e.1 e.2 a)),hi)
  else some (lo,lF hi (-ao e.1 e.2 a / (ao e.1 e.2 b - ao e.1 e.2 a)))
def qJ (Q:List Q2) (a b:Q2):Option (Rat × Rat):=match (ba Q).foldl (xF a b) (some (0,1)) with
 | none=>none
 | some (lo,hi)=>if hi≤lo then none else some (lo,hi)
def gQ (L:List PV) (s:XV):(RV × RV) × Bool × Int :=
 if bz L=0∧s.1.canon∧s.2.canon then (match qJ (aV L) s.1.p s.2.p with | some (lo,hi)=>((RV.of lo,RV.of hi),true,0) | none=>((dj,dj),false,0)) else ((dj,dj),false,1)
abbrev QL:=Option (List Q2 × Nat)
def QL.val:QL→Value
 | none=>.slice none 0 0
 | some i=>.slice (some ⟨0,0,none⟩) i.1.length i.2
def QL.ae:QL→List aj
 | none=>[]
 | some i=>[.flat false i.1.length 6 (bP i.1)]
def QL.list:QL→List Q2
 | none=>[]
 | some i=>i.1
def cg (R:List Q2):Option aj:=match R.length with
 | 0=>none
 | n+1=>some (.flat true (n+1) 6 (bP R))
def RV.c1 (x:RV):List Value:=[.bool x.1,.string x.2.1,.string x.2.2]
def PL.fit (i:PL):Prop:=i.list.length≤1099511627776∧∀ v∈i.list,v.sz 2048
def CU:bF:={ ι:=PV,args:=fun i=>[i.v],pre:=fun i=>i.sz 2048,val:=fun i=>.bool (decide (¬ i.canon)) }
def eL:cG:={ ι:=PL,args:=fun i=>[i.val],ae:=PL.ae,pre:=PL.fit,val:=fun i=>.bool (!dL i.list),new:=fun _=>none }
def aX:cG:={ ι:=PL,args:=fun i=>[i.val],ae:=PL.ae,pre:=PL.fit,val:=fun i=>.int .i64 (bz i.list),new:=fun _=>none }
def mR:cG:={ ι:=PL × PV,args:=fun i=>[i.1.val,i.2.v],ae:=fun i=>i.1.ae,pre:=fun i=>i.1.fit∧i.2.sz 2048,val:=fun i=>.int .i64 (c8 (aV i.1.list) i.2.p),new:=fun _=>none }
def kt:cG:={ ι:=PL × PV,args:=fun i=>[i.1.val,i.2.v],ae:=fun i=>i.1.ae,pre:=fun i=>i.1.fit∧i.2.sz 2048,val:=fun i=>ZE.v (qI i.1.list i.2),new:=fun _=>none }
def pW:bF:={ ι:=xS,args:=fun i=>[i.1.v,i.2.1.v,i.2.2.v],pre:=Dd,val:=fun i=>(RV.of (ao i.1.p i.2.1.p i.2.2.p)).v }
def fk:cG:={ ι:=QL,args:=fun i=>[i.val],ae:=QL.ae,pre:=fun i=>i.list.length≤549755813888∧∀ v∈i.list,Q2.sz 262144 v,val:=fun i=>eD i.ae.length (fH i.list).length,new:=fun i=>cg (fH i.list) }
def lN.fit (i:lN):Prop:=(i.1.fit∧i.2.fit)
def xG (A B:List PV):Prop:=bz A=0→bz B=0→Ou (aV A) (aV B)
def bJ:cG:={ ι:=lN,args:=fun i=>[i.1.val,i.2.uM i.1.ae.length],ae:=fun i=>i.1.ae++i.2.ae,pre:=fun i=>lN.fit i∧xG i.1.list i.2.list,val:=fun i=>.tuple ⟨[eD (i.1.ae++i.2.ae).length (dg i.1.list i.2.list).1.length,.int .i64 (dg i.1.list i.2.list).2]⟩,new:=fun i=>cg (dg i.1.list i.2.list).1 }
def O0 (s:Bool):cG:={ ι:=lN,args:=fun i=>[i.1.val,i.2.uM i.1.ae.length],ae:=fun i=>i.1.ae++i.2.ae,pre:=lN.fit,val:=fun i=>.tuple ⟨[.bool (PQ s i.1.list i.2.list).1,.int .i64 (PQ s i.1.list i.2.list).2]⟩,new:=fun _=>none }
def mr:cG:={ ι:=lN,args:=fun i=>[i.1.val,i.2.uM i.1.ae.length],ae:=fun i=>i.1.ae++i.2.ae,pre:=lN.fit,val:=fun i=>.tuple ⟨[(nf i.1.list i.2.list).1.v,.int .i64 (nf i.1.list i.2.list).2]⟩,new:=fun _=>none }
def mc:cG:={ ι:=PL × XV,args:=fun i=>[i.1.val,i.2.v],ae:=fun i=>i.1.ae,pre:=fun i=>i.1.fit∧i.2.1.sz 2048∧i.2.2.sz 2048,val:=fun i=>.tuple ⟨[(gQ i.1.list i.2).1.1.v,(gQ i.1.list i.2).1.2.v,.bool (gQ i.1.list i.2).2.1,.int .i64 (gQ i.1.list i.2).2.2]⟩,new:=fun _=>none }
def sL (a b p:PV):Bool:=decide (p≠a∧p≠b∧a8 (ao a.p b.p p.p) 0≤0)
def si:cG:={ ι:=xS,args:=fun i=>[i.2.2.v,.pointer (some ⟨0,0,none⟩),.pointer (some ⟨1,0,none⟩)],ae:=fun i=>[.flat false 1 6 (fun _=>i.1.cells),.flat false 1 6 (fun _=>i.2.1.cells)],pre:=fun i=>i.1.sz 2048∧i.2.1.sz 2048∧i.2.2.sz 2048,val:=fun i=>.bool (sL i.1 i.2.1 i.2.2),new:=fun _=>none }
def uN (L:List PV) (i:Nat):Prop:=∀ p∈L.take i,p.canon
theorem KL (L:List PV):uN L 0:=fun p hp=>by simp at hp
theorem Lq {L:List PV} {i:Nat} {p:PV} (h:uN L i) (hp:L[i]?=some p) (hc:p.canon):uN L (i+1):=fun q hq=>by
 rw [List.take_add_one,hp] at hq;simp only [Option.toList_some,List.mem_append,List.mem_singleton] at hq;rcases hq with hq | rfl
 ·exact h q hq
 ·exact hc
theorem Me {L:List PV} (h:uN L L.length):dL L=false:=by
 cases e:dL L
 ·rfl
 ·obtain ⟨p,hp,hg⟩:=List.any_eq_true.1 e;rw [uN,List.take_length] at h;exact absurd (h p hp) (of_decide_eq_true hg)
theorem tO {L:List PV} {n j:Nat} (hn:n=L.length) (h:j < n):∃ a b:PV,di L j=a.cells∧di L (aY n j)=b.cells∧(a∈L∧b∈L)∧(ba (aV L))[j]?=some (a.p,b.p)∧aY n j < n∧a=iY L j∧b=iY L (aY n j):=by
 have hl:=cO h;refine ⟨iY L j,iY L (aY n j),rI (by omega),rI (by omega),⟨oI (by omega),oI (by omega)⟩,?_,hl,rfl,rfl⟩
 rw [j4 (by omega),j4 (by omega)]
 exact pL (g7 (by rw [cY]; omega)) (by rw [cY,← hn]; exact g7 (by rw [cY]; show aY n j < _; omega))
theorem Mf {α β:Type} {f:β→α→β} {l:List α} {z:β} {j:Nat} {e:α} (h:l[j]?=some e):(l.take (j+1)).foldl f z=f ((l.take j).foldl f z) e:=by
 rw [List.take_add_one,h,List.foldl_append]; rfl
theorem Tu (L:List PV):(ba (aV L)).take L.length=ba (aV L):=by
 rw [← cY L,← mK (aV L),List.take_length]
def ux (Q:List Q2) (p:Q2) (j:Nat):Int:=((ba Q).take j).foldl (zI p) 1
theorem Ss {Q:List Q2} {p a b:Q2} {j:Nat} (h:(ba Q)[j]?=some (a,b)):ux Q p (j+1)=if a8 (ao a b p) 0 < ux Q p j then a8 (ao a b p) 0 else ux Q p j:=by
 unfold ux;rw [Mf h];simp only [zI]
theorem Tv {L:List PV} {p:Q2}:ux (aV L) p L.length=c8 (aV L) p:=by unfold ux; rw [Tu]; rfl
theorem B7 {L:List PV} (h:L.length < 3∨64 < L.length):bz L=4:=if_pos h
theorem NN {L:List PV} (h:¬ (L.length < 3∨64 < L.length)) (J:dL L=true):bz L=1:=by unfold bz; rw [if_neg h,if_pos J]
theorem NO {L:List PV} (h:¬ (L.length < 3∨64 < L.length)) (J:dL L=false) (h3:¬ fI (aV L)):bz L=8:=by unfold bz; rw [if_neg h,if_neg (by rw [J]; decide),if_neg (fun e=>h3 (yA.1 e))]
theorem GA {L:List PV} (h:¬ (L.length < 3∨64 < L.length)) (J:dL L=false) (h3:fI (aV L)) (h4:¬ Ring (aV L)):bz L=15:=by
 unfold bz;rw [if_neg h,if_neg (by rw [J]; decide),if_pos (yA.2 h3),if_neg (fun e=>h4 ((Bt (by rw [cY]; omega) h3).1 e))]
theorem MZ {L:List PV} (h:¬ (L.length < 3∨64 < L.length)) (J:dL L=false) (h3:fI (aV L)) (h4:Ring (aV L)):bz L=0:=by
 unfold bz;rw [if_neg h,if_neg (by rw [J]; decide),if_pos (yA.2 h3),if_pos ((Bt (by rw [cY]; omega) h3).2 h4)]
theorem Bu {L:List PV} (h:dL L=false) {p:PV} (hp:p∈L):p=cB p.p:=by
 have hc:p.canon:=Decidable.byContradiction fun e=>by
  have:dL L=true:=List.any_eq_true.2 ⟨p,hp,decide_eq_true e⟩;rw [h] at this; cases this
 exact Prod.ext hc.1 hc.2
def xr (Q:List Q2) (i:Nat):Prop:=∀ k,0 < k→k≤i→gk (aw Q 0) (aw Q k)
theorem KM (Q:List Q2):xr Q 0:=fun k h0 h=>by omega
theorem Lr {Q:List Q2} {i:Nat} (h:xr Q i) (J:gk (aw Q 0) (aw Q (i+1))):xr Q (i+1):=fun k h0 hk=>by
 rcases Nat.lt_or_eq_of_le hk with e | e
 ·exact h k h0 (by omega)
 ·rw [e]; exact J
theorem Mg {Q:List Q2} {i:Nat} (h:xr Q i) (hi:i+1=Q.length):fI Q:=fun k h0 hk=>h k h0 (by omega)
theorem Ov {a b:Q2}:gk a b↔0 < fC b a:=by
 rw [← yG];have h1:=Lh a b;have J:=Lh b a;have h3:=Tr (p:=a) (q:=b);have h4:=uf (a:=a) (b:=b);have h5:=uf (a:=b) (b:=a);have h6:fC a b < 0↔gk a b:=yG;have h7:fC b a < 0↔gk b a:=yG;have h8:¬ (gk a b∧gk b a):=fun ⟨x,y⟩=>by unfold gk at x y; grind
 constructor
 ·intro h;have:¬ fC b a < 0:=fun e=>h8 ⟨h6.1 h,h7.1 e⟩
  omega
 ·intro h;refine Decidable.byContradiction fun hc=>?_
  have h9:il b a:=h5.2 hc;have Am:il a b:=h4.2 (by omega)
  have:a=b:=MU Am h9;have:=h3.2 (oE.2 this);omega
theorem Z4 {L:List PV} {j:Nat} {a b:PV} (h:j < L.length) (ha:a=iY L j) (hb:b=iY L (aY L.length j)) (J:L.any (sL a b)=false):¬ yV (aV L) j:=by
 rintro ⟨q,hq,h3,h4,h5⟩
 obtain ⟨p,hp,rfl⟩:=List.mem_map.1 hq;rw [cY] at h4 h5;rw [← j4 h,← ha] at h3 h5;rw [← j4 (cO h),← hb] at h4 h5;have:L.any (sL a b)=true:=List.any_eq_true.2 ⟨p,hp,decide_eq_true ⟨fun e=>h3 (by rw [e]),fun e=>h4 (by rw [e]),Int.not_lt.1 fun e=>Rat.not_lt.2 h5 (tW.1 e)⟩⟩
 rw [J] at this; cases this
theorem Xd {L:List PV} {j:Nat} {a b p:PV} (hc:dL L=false) (h:j < L.length) (ha:a=iY L j) (hb:b=iY L (aY L.length j)) (hp:p∈L) (J:sL a b p=true):yV (aV L) j:=by
 obtain ⟨h3,h4,h5⟩:=of_decide_eq_true J;have ca:=Bu hc (p:=a) (by rw [ha]; exact oI h)
 have cb:=Bu hc (p:=b) (by rw [hb]; exact oI (cO h))
 have cp:=Bu hc hp;refine ⟨p.p,List.mem_map_of_mem hp,?_,?_,?_⟩
 ·rw [← j4 h,← ha]; exact fun e=>h3 (by rw [cp,ca,e])
 ·rw [cY,← j4 (cO h),← hb]; exact fun e=>h4 (by rw [cp,cb,e])
 ·rw [cY,← j4 h,← ha,← j4 (cO h),← hb]; exact Rat.not_lt.1 fun e=>by have:=tW.2 e; omega
theorem ad2 {p:PV} (h:true=dL [p]):p.canon→False:=fun hc=>by
 unfold dL at h;simp [hc] at h
theorem ack {p:PV} (h:false=dL [p]):p.canon:=Decidable.byContradiction fun hc=>by
 unfold dL at h;simp [hc] at h
theorem ad3 {p q:PV} (h:true=dL [p,q]):p.canon→q.canon→False:=fun h1 J=>by
 unfold dL at h;simp [h1,J] at h
theorem acm {p q:PV} (h:false=dL [p,q]):p.canon∧q.canon:=by
 unfold dL at h;simp at h;exact h
theorem Ow {L:List PV} {p:PV} (h:¬ (bz L=0∧p.canon)):qI L p=(0,1):=if_neg h
theorem NP {L:List PV} {p:PV} (h:bz L=0∧p.canon):qI L p=(c8 (aV L) p.p,0):=if_pos h
def u7:bF:={ ι:=xS,args:=fun i=>[i.1.v,i.2.1.v,i.2.2.v],pre:=Dd,val:=fun i=>.bool (decide (i.2.1≠i.2.2)) }
def u9:bF:={ ι:=xS,args:=fun i=>[i.1.v,i.2.1.v,i.2.2.v],pre:=Dd,val:=fun i=>.bool (decide (a8 (ao i.1.p i.2.1.p i.2.2.p) 0≠0)) }
def sj (b:Bool) (Q:List Q2):List Q2:=match b with
 | false=>gw Q
 | true=>jz Q
def j5 (f g:FuncId):cG:={ ι:=QL × Bool,args:=fun i=>[i.1.val,.func (.func (match i.2 with | false=>f | true=>g)) #[] #[]],ae:=fun i=>i.1.ae,pre:=fun i=>i.1.list.length≤549755813888∧∀ v∈i.1.list,Q2.sz 262144 v,val:=fun i=>eD i.1.ae.length (sj i.2 i.1.list).length,new:=fun i=>cg (sj i.2 i.1.list) }
theorem BK {R:List Q2} {B:aj} (h:cg R=some B):B.iN=true:=by
 unfold cg at h
 split at h
 ·cases h
 ·cases h; rfl
def qk (Q:List Q2) (j:Nat):List Q2:=((ba Q).take j).flatMap m5
def ss (Q:List Q2) (j:Nat):List Q2:=(List.range j).flatMap (nN Q)
theorem Tw {Q:List Q2} {j:Nat} {a b:PV} (h:j < Q.length) (ha:a=cB (aw Q j)) (hb:b=cB (aw Q (aY Q.length j))):qk Q (j+1)=qk Q j++if a≠b then [aw Q j] else []:=by
 unfold qk;rw [Mc (pL (g7 h) (g7 (cO h)))]
 congr 1
 show (if fC (aw Q j) (aw Q (aY Q.length j))≠0 then [aw Q j] else [])=_
 by_cases e:aw Q j=aw Q (aY Q.length j)
 ·rw [if_neg (fun h=>h (oE.2 e)),if_neg (fun h=>h (by rw [ha,hb,e]))]
 ·rw [if_pos (fun h=>e (oE.1 h)),if_pos (fun h=>e ((W6 ha hb).1 h))]
theorem Tx {Q:List Q2} {j:Nat} {a b c:Q2} (ha:a=aw Q (dz Q.length j)) (hb:b=aw Q j) (hc:c=aw Q (aY Q.length j)):ss Q (j+1)=ss Q j++if a8 (ao a b c) 0≠0 then [b] else []:=by
 unfold ss;rw [List.range_succ,List.flatMap_append,List.flatMap_singleton,VZ ha hb hc rfl]
theorem Mh (Q:List Q2):qk Q Q.length=gw Q:=by unfold qk gw; rw [← mK Q,List.take_length]
theorem V4 (Q:List Q2) (j:Nat):(qk Q j).length≤Q.length:=W7 Q j
theorem V5 (Q:List Q2) (j:Nat):(ss Q j).length≤j:=W8 Q j
theorem M0 {L:List Q2} {n j:Nat} {a b d:PV} (hn:n=L.length) (h:j < n) (ha:a.p=aw L (dz n j)) (hb:b=cB (aw L j)) (hd:d=cB (aw L (aY n j))):∃ z:Bool,u7.val (a,b,d)=.bool z∧qk L (j+1)=qk L j++if z=true then [aw L j] else []:=by
 refine ⟨decide (b≠d),rfl,?_⟩;rw [Tw (a:=b) (b:=d) (by omega) hb (by rw [← hn]; exact hd)]
 by_cases e:b=d
 ·rw [if_neg (fun h=>h e),if_neg (by rw [decide_eq_false (fun h=>h e)]; decide)]
 ·rw [if_pos e,if_pos (decide_eq_true e)]
theorem M1 {L:List Q2} {n j:Nat} {a b d:PV} (hn:n=L.length) (h:j < n) (ha:a.p=aw L (dz n j)) (hb:b=cB (aw L j)) (hd:d=cB (aw L (aY n j))):∃ z:Bool,u9.val (a,b,d)=.bool z∧ss L (j+1)=ss L j++if z=true then [aw L j] else []:=by
 have eb:b.p=aw L j:=by rw [hb,ia]
 have ed:d.p=aw L (aY n j):=by rw [hd,ia]
 refine ⟨decide (a8 (ao a.p b.p d.p) 0≠0),rfl,?_⟩;rw [Tx (a:=a.p) (b:=b.p) (c:=d.p) (by rw [← hn]; exact ha) eb (by rw [← hn]; exact ed),eb]
 by_cases e:a8 (ao a.p (aw L j) d.p) 0=0
 ·rw [if_neg (fun h=>h e),if_neg (by rw [decide_eq_false (fun h=>h e)]; decide)]
 ·rw [if_pos e,if_pos (decide_eq_true e)]
theorem Mi (Q:List Q2):ss Q Q.length=jz Q:=rfl
theorem UK (Q:List Q2):fH Q=if (sj true (sj false Q)).length < 3 then [] else eV (sj true (sj false Q)):=rfl
theorem Xe {R:List Q2} {n:Nat} (h:R.length=n) (h0:0 < n):cg R=some (.flat true n 6 (bP R)):=by
 unfold cg;rw [h];cases n with
 | zero=>omega
 | succ n=>rfl
theorem Xf {k n:Nat} (h0:0 < n):eD k n=.slice (some ⟨k,0,none⟩) n aO:=by
 cases n with
 | zero=>omega
 | succ n=>rfl
def Ij (f:FuncId):cG:={ ι:=QL × q9,args:=fun i=>[.func (.func f) #[] #[.pointer (some ⟨i.1.ae.length,0,none⟩),.pointer (some ⟨i.1.ae.length+1,0,none⟩),.pointer (some ⟨i.1.ae.length+2,0,none⟩)]],ae:=fun i=>i.1.ae++[.aS false 1 [[i.1.val]],.aS false 6 [i.2.1.cells], .aS false 6 [i.2.2.cells]],pre:=fun i=>i.1.list.length≤1073741824∧(∀ v∈i.1.list,Q2.sz 2048 v)∧i.2.1.sz 2048∧i.2.2.sz 2048,val:=fun i=>eD (i.1.ae.length+3) (dc (dP i.2.1.p i.2.2.p) i.1.list).length,new:=fun i=>cg (dc (dP i.2.1.p i.2.2.p) i.1.list) }
theorem xt {a b p:Q2} {k l m:Nat} (ha:Q2.sz k a) (hb:Q2.sz l b) (hp:Q2.sz m p):QB (ao a b p) (l+k+1+(m+k+1)+(l+k+1+(m+k+1))+1):=yu (oN hb ha) (oN hp ha)
theorem Mj {m:Q3} {L:List Q2} {j:Nat} {a b w:PV} {O:List Q2} {x y:Rat} (gX:(ba L)[j]?=some (a.p,b.p)) (hO:O=((ba L).take j).flatMap (m9 m)) (hx:x=aq m a.p) (hy:y=aq m b.p) (hw:w.p=atR a.p b.p (x / (x - y))) :
  ((ba L).take (j+1)).flatMap (m9 m)=O++((if a8 x 0 ≥ 0 then [a.p] else [])++if a8 x 0*a8 y 0 < 0 then [w.p] else []):=by
 rw [Mc gX,← hO,m9];subst hx; subst hy
 congr 1
 unfold l9 gF iP;rw [hw]
theorem M3 (m:Q3) (L:List Q2):((ba L).take L.length).flatMap (m9 m)=dc m L:=by rw [NI,← mK L,List.take_length]
theorem Xg (m:Q3) (L:List Q2) (j:Nat):(((ba L).take j).flatMap (m9 m)).length≤2*L.length:=by
 have:=Fv m ((ba L).take j);rw [List.length_take,mK] at this;omega
theorem Xh {L:List PV} (h:dL L=false):ai (aV L)=L:=by
 unfold ai aV;rw [List.map_map];refine (List.map_congr_left (fun p hp=>?_)).trans (List.map_id L)
 exact (Bu h hp).symm
theorem V6 {L:List PV} (h:bz L=0):dL L=false:=by
 cases e:dL L
 ·rfl
 ·obtain ⟨p,hp,hc⟩:=List.any_eq_true.1 e;exact absurd ((oD h).2.1 p hp) (of_decide_eq_true hc)
theorem F5 {L:List PV} (h:bz L=0):bP (aV L)=di L:=by unfold bP; rw [Xh (V6 h)]
theorem Xi {R:List Q2} (h:R.length=0):nc R=([],11):=if_pos h
theorem Xj {R:List Q2} (h:64 < R.length):nc R=([],4):=by unfold nc; rw [if_neg (by omega),if_pos h]
theorem G4 {R:List Q2} (h:¬ R.length=0) (J:¬ 64 < R.length):nc R=(R,0):=by unfold nc; rw [if_neg h,if_neg J]
theorem Xk {k:Nat} {m:Q3} {P:List Q2} (sm:Q3.sz k m) (hP:∀ v∈P,Q2.sz 2048 v) (hk:k≤12291):∀ v∈dc m P,Q2.sz 262144 v:=by
 intro v hv;rcases NH hv with ⟨h1,_⟩ | ⟨e,he,hx⟩
 ·exact Q2.mono (hP v h1) (by decide)
 ·have hx:=tG hx;rw [hx.2.1];have h1:=hP _ (mM he).1;have J:=hP _ (mM he).2;have s1:=Om sm h1;have s2:=Om sm J;have:=zj h1 J (s1.div (s1.sub s2) (by omega))
  exact Q2.mono this (by omega)
theorem F6 {P:List Q2} {a b:Q2} (hl:P.length≤1073741824) (hP:∀ v∈P,Q2.sz 2048 v) (ha:Q2.sz 2048 a) (hb:Q2.sz 2048 b):(dc (dP a b) P).length≤549755813888∧∀ v∈dc (dP a b) P,Q2.sz 262144 v :=
 ⟨by have:=VX (dP a b) P; omega,Xk (k:=12291) (Q3.mono (Ol ha hb) (by decide)) hP (Nat.le_refl _)⟩
def ad4 (v:Value) (q:Nat):Nat→Value
 | 0=>v
 | _+1=>eD 5 q
def ad5 (F:Nat→List Value) (q:Nat):Nat→aA
 | 0=>[]
 | _+1=>zG 6 F q
theorem HA {A B:List PV} (h:¬ (bz A=0∧bz B=0)):dg A B=([],1):=if_neg h
theorem Ox {A B:List PV} {R:List Q2} (h:bz A=0∧bz B=0) (hR:R=jg (aV A) (aV B) B.length):dg A B=nc R:=by
 unfold dg;rw [if_pos h,hR,← cY B,Md]
theorem E2 {P Q C R:List Q2} {j:Nat} {a b:Q2} (gX:(ba Q)[j]?=some (a,b)) (hC:C=dc (dP a b) (jg P Q j)) (hR:R=fH C):R=jg P Q (j+1):=by
 rw [Tt gX,hR,hC]; rfl
def qK (s:Bool):bF:={ ι:=Int,args:=fun z=>[.int .i64 z],pre:=fun _=>True,val:=fun z=>.bool (rf s z) }
abbrev SI:=((List Q2 × Nat) × (List Q2 × Nat)) × FuncId × Bool
def gC (o:Option (Q2 × Q2)):XV × Bool:=match o with
 | some e=>(QR e,true)
 | none=>(mZ,false)
def SI.ok (f1 f2 f3:FuncId) (i:SI):Prop:=(i.2=(f1,true)∨i.2=(f2,false)∨i.2=(f3,true))∧(i.1.1.1.length≤1073741824∧∀ v∈i.1.1.1,Q2.sz 2048 v)∧i.1.2.1.length≤1073741824∧∀ v∈i.1.2.1,Q2.sz 2048 v
def xH (f1 f2 f3:FuncId) (V:Bool→List Q2→List Q2→Option (Q2 × Q2)):cG:={ ι:=SI,args:=fun i=>[.slice (some ⟨0,0,none⟩) i.1.1.1.length i.1.1.2,.slice (some ⟨1,0,none⟩) i.1.2.1.length i.1.2.2,.func (.func i.2.1) #[] #[]],ae:=fun i=>[.flat false i.1.1.1.length 6 (bP i.1.1.1),.flat false i.1.2.1.length 6 (bP i.1.2.1)],pre:=SI.ok f1 f2 f3,val:=fun i=>.tuple ⟨[(gC (V i.2.2 i.1.1.1 i.1.2.1)).1.v,.bool (gC (V i.2.2 i.1.1.1 i.1.2.1)).2]⟩,new:=fun _=>none }
def ng (s:Bool) (B:List Q2) (e:Q2 × Q2):Bool:=B.all fun x=>rf s (a8 (ao e.1 e.2 x) 0)
def sM (s:Bool) (a b x:Q2):Bool:=!rf s (a8 (ao a b x) 0)
theorem Xl {s:Bool} {B:List Q2} {a b:Q2} (h:B.any (sM s a b)=false):ng s B (a,b)=true:=by
 unfold ng;rw [List.all_eq_true];intro x hx;cases e:rf s (a8 (ao a b x) 0)
 ·have:B.any (sM s a b)=true:=List.any_eq_true.2 ⟨x,hx,by unfold sM; rw [e]; rfl⟩
  rw [h] at this; cases this
 ·rfl
theorem GB {s:Bool} {B:List Q2} {a b x:Q2} (hx:x∈B) (h:sM s a b x=true):ng s B (a,b)=false:=by
 unfold ng;cases e:B.all fun x=>rf s (a8 (ao (a,b).1 (a,b).2 x) 0)
 ·rfl
 ·have:=List.all_eq_true.1 e x hx;unfold sM at h;rw [show rf s (a8 (ao a b x) 0)=true from this] at h
  cases h
theorem V7 {s:Bool} {A B:List Q2} {j:Nat} {e:Q2 × Q2} (h:nJ (ng s B) (ba A) j) (he:(ba A)[j]?=some e) (J:ng s B e=true):ie s A B=some e:=by
 unfold ie;rw [show (fun e:Q2 × Q2=>B.all fun x=>rf s (a8 (ao e.1 e.2 x) 0))=ng s B from rfl]
 have hj:=(List.getElem?_eq_some_iff.1 he).1;rw [← List.take_append_drop j (ba A),List.find?_append,List.find?_eq_none.2,List.drop_eq_getElem_cons hj]
 ·rw [List.find?_cons,(List.getElem?_eq_some_iff.1 he).2,J]; rfl
 ·intro x hx hc;have:((ba A).take j).any (ng s B)=true:=List.any_eq_true.2 ⟨x,hx,hc⟩;rw [show ((ba A).take j).any (ng s B)=false from h] at this
  cases this
theorem V8 {s:Bool} {A B:List Q2} {n:Nat} (hn:n=A.length) (h:nJ (ng s B) (ba A) n):ie s A B=none:=by
 unfold ie;rw [List.find?_eq_none];intro x hx hc;rw [hn,← mK A] at h;have:=EY h;have J:(ba A).any (ng s B)=true:=List.any_eq_true.2 ⟨x,hx,hc⟩;rw [this] at J;cases J
theorem Xm {s:Bool} {A B:List Q2} {x:XV} (h:gC (ie s A B)=(x,true)):gC (kc s A B)=(x,true):=by
 unfold kc;cases e:ie s A B with
 | none=>rw [e] at h; cases h
 | some y=>rw [e] at h; exact h
theorem Xn {s:Bool} {A B:List Q2} {x:XV} (h:gC (ie s A B)=(x,false)):gC (kc s A B)=gC (ie s B A):=by
 unfold kc;cases e:ie s A B with
 | none=>rfl
 | some y=>rw [e] at h; cases h
theorem Cy {A B:List PV} (h:¬ (bz A=0∧bz B=0)):nf A B=(mZ,1):=if_neg h
theorem Xo {A B:List PV} {x:XV} {z:Bool} (h:bz A=0∧bz B=0) (J:gC (kc true (aV A) (aV B))=(x,z)):nf A B=if z=true then (x,0) else (mZ,6):=by
 unfold nf;rw [if_pos h];cases e:kc true (aV A) (aV B) with
 | none=>rw [e] at J; cases J; rfl
 | some y=>rw [e] at J; cases J; rfl
def nV:bF:={ ι:=PV,args:=fun i=>[i.v],pre:=fun _=>True,val:=fun i=>.bool (decide (¬ i.sz 12)) }
def mS (L:List PV):Bool:=decide ((10 < L.length∧L.length < 63)∨66 < L.length) || uu 12 L
def ku:cG:={ ι:=PL,args:=fun i=>[i.val],ae:=PL.ae,pre:=fun i=>i.list.length≤9223372036854775807,val:=fun i=>.bool (mS i.list),new:=fun _=>none }
theorem Ls {L:List PV} (h:(10 < L.length∧L.length < 63)∨66 < L.length):mS L=true:=by unfold mS; rw [decide_eq_true h]; rfl
theorem Ty {L:List PV} (h:¬ ((10 < L.length∧L.length < 63)∨66 < L.length)):mS L=uu 12 L:=by unfold mS; rw [decide_eq_false h]; rfl
theorem Mk {L:List PV} (h:mS L=false):(L.length≤10∨(63≤L.length∧L.length≤66))∧∀ p∈L,p.sz 12:=by
 unfold mS at h;rw [Bool.or_eq_false_iff] at h;have h1:=of_decide_eq_false h.1;exact ⟨by omega,RS h.2⟩
theorem B8 {n1 n2:Bool} {a1 b1 a2 b2:ByteArray} (h:12 < a1.size∨12 < b1.size∨12 < a2.size∨12 < b2.size):Value.bool true=nV.val ((n1,a1,b1),(n2,a2,b2)):=by
 have hn:¬ PV.sz 12 ((n1,a1,b1),(n2,a2,b2)):=fun e=>by
  have e:(a1.size≤12∧b1.size≤12)∧a2.size≤12∧b2.size≤12:=e;omega
 exact congrArg Value.bool (decide_eq_true hn).symm
theorem Z5 {n1 n2:Bool} {a1 b1 a2 b2:ByteArray} (h:¬ (12 < a1.size∨12 < b1.size∨12 < a2.size∨12 < b2.size)):Value.bool false=nV.val ((n1,a1,b1),(n2,a2,b2)):=by
 refine (congrArg Value.bool (decide_eq_false fun e=>e ?_)).symm
 show (a1.size≤12∧b1.size≤12)∧a2.size≤12∧b2.size≤12
 omega
open Go
open Go
def zJ (a b:Q2) (st:Option (Rat × Rat)) (e:Q2 × Q2):Option (Rat × Rat) :=
 match st with
 | none=>none
 | some (lo,hi) =>
  if ao e.1 e.2 a≤0∧ao e.1 e.2 b≤0 then none
  else if 0 < ao e.1 e.2 a∧0 < ao e.1 e.2 b then some (lo,hi)
  else if 0 < ao e.1 e.2 b then some (lE lo (ao e.1 e.2 a / (ao e.1 e.2 a - ao e.1 e.2 b)),hi)
  else some (lo,lF hi (ao e.1 e.2 a / (ao e.1 e.2 a - ao e.1 e.2 b)))
def sN (st:Option (Rat × Rat)):Option (Rat × Rat):=match st with
 | none=>none
 | some (lo,hi)=>if hi≤lo then none else some (lo,hi)
theorem Xp (Q:List Q2) (a b:Q2):qJ Q a b=sN ((ba Q).foldl (xF a b) (some (0,1))):=rfl
theorem max_le (x y:Rat):x≤lE x y∧y≤lE x y:=by unfold lE; split <;> grind
theorem min_le (x y:Rat):lF x y≤x∧lF x y≤y:=by unfold lF; split <;> grind
theorem max_eq {x y:Rat} (h:y≤x):lE x y=x:=by unfold lE; rw [if_neg (by grind)]
theorem min_eq {x y:Rat} (h:x≤y):lF x y=x:=by unfold lF; rw [if_neg (by grind)]
theorem F7 {a b:Q2}:∀ l:List (Q2 × Q2),l.foldl (xF a b) none=none
 | []=>rfl
 | e::l=>by rw [List.foldl_cons]; exact F7 l
theorem yB {a b:Q2}:∀ l:List (Q2 × Q2),l.foldl (zJ a b) none=none
 | []=>rfl
 | e::l=>by rw [List.foldl_cons]; exact yB l
theorem Ml (a b:Q2) (lo hi:Rat) (e:Q2 × Q2):xF a b (some (lo,hi)) e=if ao e.1 e.2 b - ao e.1 e.2 a=0 then (if ao e.1 e.2 a≤0 then none else some (lo,hi))
  else if 0 < ao e.1 e.2 b - ao e.1 e.2 a then some (lE lo (-ao e.1 e.2 a / (ao e.1 e.2 b - ao e.1 e.2 a)),hi)
  else some (lo,lF hi (-ao e.1 e.2 a / (ao e.1 e.2 b - ao e.1 e.2 a))):=rfl
theorem Mm (a b:Q2) (lo hi:Rat) (e:Q2 × Q2):zJ a b (some (lo,hi)) e=if ao e.1 e.2 a≤0∧ao e.1 e.2 b≤0 then none
  else if 0 < ao e.1 e.2 a∧0 < ao e.1 e.2 b then some (lo,hi)
  else if 0 < ao e.1 e.2 b then some (lE lo (ao e.1 e.2 a / (ao e.1 e.2 a - ao e.1 e.2 b)),hi)
  else some (lo,lF hi (ao e.1 e.2 a / (ao e.1 e.2 a - ao e.1 e.2 b))):=rfl
theorem M4 {a b:Q2}:∀ (l:List (Q2 × Q2)) (lo hi:Rat),hi≤lo→sN (l.foldl (xF a b) (some (lo,hi)))=none:=by
 intro l
 induction l with
 | nil=>intro lo hi h; unfold sN; simp only [List.foldl_nil]; rw [if_pos h]
 | cons e l ih =>
  intro lo hi h;rw [List.foldl_cons,Ml]
  split
  ·split
   ·rw [F7]; rfl
   ·exact ih _ _ h
  ·split
   ·refine ih _ _ ?_;have:=(max_le lo (-ao e.1 e.2 a / (ao e.1 e.2 b - ao e.1 e.2 a))).1;grind
   ·refine ih _ _ ?_;have:=(min_le hi (-ao e.1 e.2 a / (ao e.1 e.2 b - ao e.1 e.2 a))).1;grind
theorem Xq {x y:Rat} (h:y - x≠0):(-x / (y - x))*(y - x)=-x∧-x / (y - x)=x / (x - y):=by
 refine ⟨by rw [Rat.div_def]; grind,?_⟩
 have J:x - y≠0:=by grind
 have e1:(-x / (y - x))*(y - x)=-x:=by rw [Rat.div_def]; grind
 have e2:(x / (x - y))*(x - y)=x:=by rw [Rat.div_def]; grind
 have:(y - x)*(-x / (y - x) - x / (x - y))=0:=by grind
 have:=(Rat.mul_eq_zero.1 this).resolve_left h;grind
theorem Bv {a b k:Rat} (hk:0 < k) (h:a*k≤b*k):a≤b:=by
 by_cases h1:a≤b
 ·exact h1
 ·have:=Rat.mul_pos (show 0 < a - b by grind) hk
  grind
theorem NQ {a b:Q2}:∀ (l:List (Q2 × Q2)) (lo hi:Rat),0≤lo→hi≤1→sN (l.foldl (zJ a b) (some (lo,hi)))=sN (l.foldl (xF a b) (some (lo,hi))):=by
 intro l
 induction l with
 | nil=>intro lo hi _ _; rfl
 | cons e l ih =>
  intro lo hi h0 h1;rw [List.foldl_cons,List.foldl_cons,Ml,Mm];generalize ao e.1 e.2 a=x;generalize ao e.1 e.2 b=y;by_cases hs:y - x=0
  ·rw [if_pos hs];by_cases hx:x≤0
   ·rw [if_pos ⟨hx,by grind⟩,if_pos hx,yB,F7]
   ·rw [if_neg (fun e=>hx e.1),if_pos ⟨by grind,by grind⟩,if_neg hx]
    exact ih _ _ h0 h1
  ·obtain ⟨ht,te⟩:=Xq hs;rw [if_neg hs,te];rw [te] at ht;generalize x / (x - y)=t at ht;by_cases hp:0 < y - x
   ·rw [if_pos hp];by_cases hy:y≤0
    ·rw [if_pos ⟨by grind,hy⟩,yB,M4]
     ·rfl
     ·have J:1≤t:=Bv hp (by grind)
      have:=(max_le lo t).2;grind
    ·rw [if_neg (fun e=>hy e.2)]
     by_cases hx:0 < x
     ·rw [if_pos ⟨hx,by grind⟩]
      have J:t≤0:=Bv hp (by grind)
      rw [max_eq (by grind)]
      exact ih _ _ h0 h1
     ·rw [if_neg (fun e=>hx e.1),if_pos (by grind)]
      exact ih _ _ (by have:=(max_le lo t).1; grind) h1
   ·have hn:0 < x - y:=by grind
    rw [if_neg hp];by_cases hx:x≤0
    ·rw [if_pos ⟨hx,by grind⟩,yB,M4]
     ·rfl
     ·have J:t≤0:=Bv hn (by grind)
      have:=(min_le hi t).2;grind
    ·rw [if_neg (fun e=>hx e.1)]
     by_cases hy:0 < y
     ·rw [if_pos ⟨by grind,hy⟩]
      have J:1≤t:=Bv hn (by grind)
      rw [min_eq (by grind)]
      exact ih _ _ h0 h1
     ·rw [if_neg (fun e=>hy e.2),if_neg hy]
      exact ih _ _ h0 (by have:=(min_le hi t).1; grind)
def uO (Q:List Q2) (a b:Q2) (j:Nat):Option (Rat × Rat):=((ba Q).take j).foldl (zJ a b) (some (0,1))
theorem Tz {Q:List Q2} {a b p q:Q2} {j:Nat} {lo hi x y:Rat} (h:uO Q a b j=some (lo,hi)) (he:(ba Q)[j]?=some (p,q)) (hx:x=ao p q a) (hy:y=ao p q b) :
  uO Q a b (j+1)=if x≤0∧y≤0 then none else if 0 < x∧0 < y then some (lo,hi) else if 0 < y then some (lE lo (x / (x - y)),hi) else some (lo,lF hi (x / (x - y))):=by
 unfold uO at *;rw [Mf he,h,Mm];subst hx; subst hy;simp only
theorem TA {Q:List Q2} {a b:Q2} {j:Nat} (h:uO Q a b j=none):qJ Q a b=none:=by
 rw [Xp,← NQ _ _ _ (by grind) (by grind)]
 have e:ba Q=(ba Q).take j++(ba Q).drop j:=(List.take_append_drop ..).symm;rw [e,List.foldl_append,show List.foldl (zJ a b) (some (0,1)) ((ba Q).take j)=none from h,yB]
 rfl
theorem UL {Q:List Q2} {a b:Q2} {n:Nat} (hn:n=Q.length):sN (uO Q a b n)=qJ Q a b:=by
 unfold uO;rw [hn,← mK Q,List.take_length,NQ _ _ _ (by grind) (by grind)]
 rfl
theorem Oy {L:List PV} {s:XV} (h:¬ (bz L=0∧s.1.canon∧s.2.canon)):gQ L s=((dj,dj),false,1):=if_neg h
theorem NR {L:List PV} {s:XV} (h:bz L=0∧s.1.canon∧s.2.canon) (J:qJ (aV L) s.1.p s.2.p=none):gQ L s=((dj,dj),false,0):=by unfold gQ; rw [if_pos h,J]
theorem Xr {L:List PV} {s:XV} {lo hi:Rat} (h:bz L=0∧s.1.canon∧s.2.canon) (J:qJ (aV L) s.1.p s.2.p=some (lo,hi)):gQ L s=((RV.of lo,RV.of hi),true,0):=by unfold gQ; rw [if_pos h,J]
theorem V9 {lo hi:Rat} (h:hi≤lo):sN (some (lo,hi))=none:=if_pos h
theorem Wa {lo hi:Rat} (h:¬ hi≤lo):sN (some (lo,hi))=some (lo,hi):=if_neg h
theorem Xs {L:List PV} {p q:PV} {lo hi:RV} (h:bz L=0∧p.canon∧q.canon) (J:qJ (aV L) p.p q.p=some (lo.q,hi.q)) (c1:lo=RV.of lo.q) (c2:hi=RV.of hi.q):gQ L (p,q)=((lo,hi),true,0):=by
 have:=Xr (s:=(p,q)) h J;rw [← c1,← c2] at this;exact this
open Go
open Go
abbrev II:=List (Int × Int)
def iq (x:Int × Int):Q2:=((x.1:Rat),(x.2:Rat))
def bu (l:II):List Q2:=l.map iq
def rh (l:II) (k:Nat):Int × Int:=l.getD k (0,0)
def m6 (l:II) (r:Nat):List Value:=[.int .i64 (if r % 2=0 then (rh l (r / 2)).1 else (rh l (r / 2)).2)]
def hJ:cG:={ ι:=II,args:=fun i=>[.slice (some ⟨0,0,none⟩) (2*i.length) (2*i.length)],ae:=fun i=>[.flat false (2*i.length) 1 (m6 i)],pre:=fun i=>(0 < i.length∧i.length≤1000000)∧∀ x∈i,x.1.natAbs < 256∧x.2.natAbs < 256,val:=fun i=>.slice (some ⟨1,0,none⟩) i.length aO,new:=fun i=>some (.flat true i.length 6 (bP (bu i))) }
theorem M5 {l:II} {j:Nat} {x:Int × Int} (h:x=rh l j):m6 l (2*j)=[.int .i64 x.1]:=by
 unfold m6;rw [if_pos (by omega),show 2*j / 2=j by omega,h]
theorem M6 {l:II} {j:Nat} {x:Int × Int} (h:x=rh l j):m6 l (2*j+1)=[.int .i64 x.2]:=by
 unfold m6;rw [if_neg (by omega),show (2*j+1) / 2=j by omega,h]
theorem NS {l:II} {j:Nat} (h:j < l.length):rh l j∈l∧l[j]?=some (rh l j):=by
 unfold rh;rw [List.getD_eq_getElem?_getD,List.getElem?_eq_getElem h];exact ⟨List.getElem_mem h,rfl⟩
theorem M7 {l:II} {j:Nat} {x:Int × Int} (h:l[j]?=some x):bu (l.take (j+1))=bu (l.take j)++[iq x]:=by
 unfold bu;rw [List.take_add_one,h,List.map_append]
 rfl
theorem BL (l:II) (rows:List (List Value)) (h:rows=(List.range (2*l.length)).map (m6 l)):ar (.flat false (2*l.length) 1 (m6 l)) (.aS true 1 rows) :=
 FX (by rw [h]; simp) (fun r hr=>by
  rw [h,List.getD_eq_getElem?_getD,List.getElem?_map,List.getElem?_range hr]
  rfl) (fun r hr=>rfl)
theorem Fx (x:Q2):(cB x).canon:=⟨by show RV.of x.1=RV.of (RV.of x.1).q; rw [RV.ic],by show RV.of x.2=RV.of (RV.of x.2).q; rw [RV.ic]⟩
def dr:II:=[(0,0),(4,0),(4,4),(0,4)]
def jv:II:=[(3,3),(7,3),(3,7)]
def jR:II:=[(4,1),(6,1),(4,3)]
def jw:II:=[(3,3),(4,3),(4,4),(3,4)]
theorem nF (L:List Q2):aV (ai L)=L:=by
 unfold ai aV;rw [List.map_map];refine (List.map_congr_left (fun p hp=>?_)).trans (List.map_id L)
 exact ia p
theorem Mn {L:List Q2}:∀ p∈ai L,p.canon:=fun p hp=>by
 obtain ⟨x,_,rfl⟩:=List.mem_map.1 hp;exact Fx x
theorem G5 {l:II} (h1:3≤l.length∧l.length≤64) (J:Dg (bu l)=true) (h3:CT (bu l)=true):bz (ai (bu l))=0:=by
 unfold bz;rw [if_neg (by rw [Bd]; unfold bu; rw [List.length_map]; omega),if_neg (fun e=>by obtain ⟨p,hp,hc⟩:=List.any_eq_true.1 e; exact of_decide_eq_true hc (Mn p hp)),nF,if_pos J,if_pos h3]
theorem GC:bz (ai (bu dr))=0:=G5 (by decide) (by decide +kernel) (by decide +kernel)
theorem Xt:bz (ai (bu jv))=0:=G5 (by decide) (by decide +kernel) (by decide +kernel)
theorem Xu:bz (ai (bu jR))=0:=G5 (by decide) (by decide +kernel) (by decide +kernel)
theorem Wb:gK (bu dr) (bu jv)=bu jw:=by decide +kernel
theorem O1:dg (ai (bu dr)) (ai (bu jv))=(bu jw,0):=by
 unfold dg;rw [if_pos ⟨GC,Xt⟩,nF,nF,Wb];exact G4 (by decide) (by decide)
theorem Z6:nf (ai (bu dr)) (ai (bu jR))=((cB (iq (4,0)),cB (iq (4,4))),0):=by
 unfold nf;rw [if_pos ⟨GC,Xu⟩,nF,nF,show kc true (bu dr) (bu jR)=some (iq (4,0),iq (4,4)) by decide +kernel]
 rfl
theorem Z7:gQ (ai (bu dr)) (cB (iq (-2,1)),cB (iq (6,1)))=((RV.of (1 / 4),RV.of (3 / 4)),true,0):=by
 unfold gQ;rw [if_pos ⟨GC,Fx _,Fx _⟩,nF];show (match qJ (bu dr) (cB (iq (-2,1))).p (cB (iq (6,1))).p with | some (lo,hi)=>((RV.of lo,RV.of hi),true,(0:Int)) | none=>((dj,dj),false,0))=_
 rw [ia,ia,show qJ (bu dr) (iq (-2,1)) (iq (6,1))=some (1 / 4,3 / 4) by decide +kernel]
theorem zm {A B:List PV} (hA:∀ v∈A,v.sz 12) (hB:∀ v∈B,v.sz 12):xG A B:=fun h1 J=>by
 have a:=oD h1;have b:=oD J;refine NM (S:=jh (aV A)) b.2.2.1 (fun m hm=>Q3.mono (BJ (k:=12) (wS hA (by decide)) m hm) (by decide)) (fun m hm=>Q3.mono (BJ (k:=12) (wS hB (by decide)) m hm) (by decide)) (by rw [wj,cY,cY]; omega) (.inr ⟨a.2.2.1,a.2.2.2,MY a.2.2.1⟩)
theorem HB {l:II} (h:∀ x∈l,x.1.natAbs < 256∧x.2.natAbs < 256):∀ v∈ai (bu l),v.sz 12:=fun v hv=>by
 obtain ⟨x,hx,rfl⟩:=List.mem_map.1 hv;obtain ⟨y,hy,rfl⟩:=List.mem_map.1 hx;exact ur (u0 y.1 y.2 (h y hy).1 (h y hy).2) (by decide)
theorem Dh {L:List PV} (h:∀ v∈L,v.sz 12):∀ v∈L,v.sz 2048:=fun v hv=>PV.aQ (h v hv) (by decide)
theorem G6 {l:II} {c:Nat} (h:∀ x∈l,x.1.natAbs < 256∧x.2.natAbs < 256) (hl:l.length≤1000):PL.fit (some (ai (bu l),c)):=⟨by show (ai (bu l)).length≤_; rw [Bd]; unfold bu; rw [List.length_map]; omega,Dh (HB h)⟩
theorem M8 {c:Nat}:bJ.val (some (ai (bu dr),c),some (ai (bu jv),c))=.tuple ⟨[.slice (some ⟨2,0,none⟩) 4 aO,.int .i64 0]⟩∧bJ.new (some (ai (bu dr),c),some (ai (bu jv),c))=some (.flat true 4 6 (bP (bu jw))):=by
 refine ⟨?_,?_⟩
 ·show Value.tuple ⟨[eD 2 (dg (ai (bu dr)) (ai (bu jv))).1.length,.int .i64 (dg (ai (bu dr)) (ai (bu jv))).2]⟩=_
  rw [O1]; rfl
 ·show cg (dg (ai (bu dr)) (ai (bu jv))).1=_
  rw [O1]; rfl
theorem Xv {c:Nat} {a b:PV} (ha:a=cB (iq (4,0))) (hb:b=cB (iq (4,4))):mr.val (some (ai (bu dr),c),some (ai (bu jR),c))=.tuple ⟨[XV.v (a,b),.int .i64 0]⟩:=by
 show Value.tuple ⟨[(nf (ai (bu dr)) (ai (bu jR))).1.v,.int .i64 (nf (ai (bu dr)) (ai (bu jR))).2]⟩=_
 rw [Z6,ha,hb]
theorem Xw {c:Nat} {a b:PV} {x y:RV} (ha:a=cB (iq (-2,1))) (hb:b=cB (iq (6,1))) (hx:x=RV.of (1 / 4)) (hy:y=RV.of (3 / 4)):mc.val (some (ai (bu dr),c),(a,b))=.tuple ⟨[x.v,y.v,.bool true,.int .i64 0]⟩:=by
 show Value.tuple ⟨[(gQ (ai (bu dr)) (a,b)).1.1.v,(gQ (ai (bu dr)) (a,b)).1.2.v,.bool (gQ (ai (bu dr)) (a,b)).2.1,.int .i64 (gQ (ai (bu dr)) (a,b)).2.2]⟩=_
 rw [ha,hb,Z7,hx,hy]
open Go
theorem Z8 {L:List Q2} {k l:Nat} (h:∀ v∈L,Q2.sz k v) (hl:k≤l):∀ v∈ai L,v.sz l:=fun v hv=>by
 obtain ⟨x,hx,rfl⟩:=List.mem_map.1 hv;exact ur (h x hx) hl
def NT:cG:={ ι:=lN,args:=fun i=>[i.1.val,i.2.uM i.1.ae.length],ae:=fun i=>i.1.ae++i.2.ae,pre:=fun i=>lN.fit i∧xG i.1.list i.2.list,val:=fun i=>.tuple ⟨[.slice (some ⟨(i.1.ae++i.2.ae).length,0,none⟩) (dg i.1.list i.2.list).1.length aO,.int .i64 (dg i.1.list i.2.list).2]⟩,new:=fun i=>some (.flat true (dg i.1.list i.2.list).1.length 6 (bP (dg i.1.list i.2.list).1)) }
theorem zn {i k:PL} {R:List Q2} {e:Int} (h:(R,e)=dg i.list k.list):bJ.val (i,k)=.tuple ⟨[eD (i.ae++k.ae).length R.length,.int .i64 e]⟩∧bJ.new (i,k)=cg R∧NT.val (i,k)=.tuple ⟨[.slice (some ⟨(i.ae++k.ae).length,0,none⟩) R.length aO,.int .i64 e]⟩∧NT.new (i,k)=some (.flat true R.length 6 (bP R)):=by
 refine ⟨?_,?_,?_,?_⟩
 ·show Value.tuple ⟨[eD (i.ae++k.ae).length (dg i.list k.list).1.length,.int .i64 (dg i.list k.list).2]⟩=_; rw [← h]
 ·show cg (dg i.list k.list).1=_; rw [← h]
 ·show Value.tuple ⟨[.slice (some ⟨(i.ae++k.ae).length,0,none⟩) (dg i.list k.list).1.length aO,.int .i64 (dg i.list k.list).2]⟩=_; rw [← h]
 ·show some (aj.flat true (dg i.list k.list).1.length 6 (bP (dg i.list k.list).1))=_; rw [← h]
open Go
theorem Lt {α:Type} (f:α→Int) (k:Int):∀ (l:List α) (o:Int),k≤l.foldl (fun o e=>min o (f e)) o↔k≤o∧∀ e∈l,k≤f e
 | [],o=>by simp
 | e::l,o=>by
  rw [List.foldl_cons,Lt f k l];simp only [List.mem_cons,forall_eq_or_imp];rw [Int.le_min,and_assoc]
theorem B9 {Q:List Q2} {p:Q2} {k:Int}:k≤c8 Q p↔k≤1∧∀ e∈ba Q,k≤a8 (ao e.1 e.2 p) 0:=by
 have:=Lt (fun e:Q2 × Q2=>a8 (ao e.1 e.2 p) 0) k (ba Q) 1
 rw [← this];have e:zI p=fun (o:Int) (e:Q2 × Q2)=>min o (a8 (ao e.1 e.2 p) 0):=by
  funext o e
  simp only [zI];rw [Int.min_def]
  split <;> split <;> omega
 rw [← e]; rfl
theorem Be (Q:List Q2) (p:Q2):c8 Q p=-1∨c8 Q p=0∨c8 Q p=1:=by
 have h1:-1≤c8 Q p:=B9.2 ⟨by decide,fun e _=>by have:=pJ (ao e.1 e.2 p) 0; omega⟩
 have J:=(B9 (Q:=Q) (p:=p) (k:=c8 Q p)).1 (Int.le_refl _);omega
theorem M9 {x:Rat}:1≤a8 x 0↔0 < x:=by
 have:=pJ x 0;rw [← tW]; omega
theorem BM {Q:List Q2} {p:Q2}:c8 Q p=1↔∀ e∈ba Q,0 < ao e.1 e.2 p:=by
 have h:=B9 (Q:=Q) (p:=p) (k:=1);have:=Be Q p;constructor
 ·intro e x hx;exact M9.1 ((h.1 (by omega)).2 x hx)
 ·intro e;have:=h.2 ⟨Int.le_refl _,fun x hx=>M9.2 (e x hx)⟩
  omega
theorem x8 {Q:List Q2} {p:Q2}:0≤c8 Q p↔∀ e∈ba Q,0≤ao e.1 e.2 p:=by
 rw [B9];exact ⟨fun h e he=>nD.1 (h.2 e he),fun h=>⟨by decide,fun e he=>nD.2 (h e he)⟩⟩
theorem pM {Q:List Q2} {p:Q2} (h:Ring Q):0≤c8 Q p↔cM Q p:=by
 rw [x8];constructor
 ·intro J;exact So h fun k hk=>J (aw Q k,aw Q (aY Q.length k)) (kS hk)
 ·intro J e he;exact Bs h.eh he J
def Ds (Q:List Q2) (p:Q2):Prop:=∀ e∈ba Q,0 < ao e.1 e.2 p
def Ik (Q:List Q2):Q2:=Q.foldl (fun s v=>xD s v) (0,0)
theorem Z9 (a b:Q2):∀ (Q:List Q2) (s:Q2) (m:Rat),(∀ v∈Q,0≤ao a b v)→∀ k:Rat,(b.1 - a.1)*(s.2 - k*a.2) - (b.2 - a.2)*(s.1 - k*a.1)=m →
  ∃ d:Rat,(b.1 - a.1)*((Q.foldl (fun s v=>xD s v) s).2 - (k+Q.length)*a.2) - (b.2 - a.2)*((Q.foldl (fun s v=>xD s v) s).1 - (k+Q.length)*a.1)=m+d∧0≤d∧((∃ v∈Q,0 < ao a b v)→0 < d):=by
 intro Q
 induction Q with
 | nil =>
  intro s m _ k h;refine ⟨0,?_,by grind,fun ⟨v,hv,_⟩=>nomatch hv⟩
  simp only [List.foldl_nil,List.length_nil];grind
 | cons v Q ih =>
  intro s m hQ k h;have hv:=hQ v (List.mem_cons_self ..);obtain ⟨d,h1,J,h3⟩:=ih (xD s v) (m+ao a b v) (fun u hu=>hQ u (List.mem_cons_of_mem _ hu)) (k+1) (by rw [dX]; unfold xD; grind)
  refine ⟨ao a b v+d,?_,by grind,?_⟩
  ·rw [List.foldl_cons,List.length_cons];have:(k+1+((Q.length:Nat):Rat))=k+((Q.length+1:Nat):Rat):=by rw [Rat.natCast_add]; grind
   rw [this] at h1;rw [h1]; grind
  ·rintro ⟨u,hu,hp⟩
   rcases List.mem_cons.1 hu with rfl | hu
   ·grind
   ·have:=h3 ⟨u,hu,hp⟩;grind
theorem EG {Q:List Q2} (h:Ring Q):c8 Q (Jn (1 / (Q.length:Rat)) (Ik Q))=1:=by
 refine BM.2 fun e he=>?_
 obtain ⟨j,hj,rfl⟩:=BI he;have h3:=h.three;obtain ⟨d,h1,J,h4⟩:=Z9 (aw Q j) (aw Q (aY Q.length j)) Q (0,0) 0 (fun v hv=>oC h.eh (kS hj) hv) 0 (by grind)
 have hd:0 < d:=h4 ⟨_,eK (cO (cO hj)),Sq h hj⟩;have hn:(0:Rat) < (Q.length:Rat):=by
  have:((0:Nat):Rat) < (Q.length:Rat):=Rat.natCast_lt_natCast.2 (by omega)
  exact this
 have hi:(1 / (Q.length:Rat))*(Q.length:Rat)=1:=by rw [Rat.div_def]; grind
 have fN:0 < 1 / (Q.length:Rat):=by
  by_cases h1:0 < 1 / (Q.length:Rat)
  ·exact h1
  ·have:=Rat.mul_nonneg (show 0≤-(1 / (Q.length:Rat)) by grind) (show 0≤(Q.length:Rat) by grind)
   grind
 have:=Rat.mul_pos fN hd;have e:ao (aw Q j) (aw Q (aY Q.length j)) (Jn (1 / (Q.length:Rat)) (Ik Q))=(1 / (Q.length:Rat))*d:=by
  rw [dX];unfold Jn Ik;generalize List.foldl (fun s v=>xD s v) (0,0) Q=S at h1 ⊢
  generalize (1 / (Q.length:Rat))=i at hi ⊢;simp only;have h1:(aw Q (aY Q.length j)).1*S.2 - (aw Q j).1*S.2 - ((aw Q (aY Q.length j)).2*S.1 - (aw Q j).2*S.1) - (Q.length:Rat)*((aw Q (aY Q.length j)).1*(aw Q j).2 - (aw Q (aY Q.length j)).2*(aw Q j).1)=d:=by grind
  grind
 rw [e];exact this
open Go
def j6 (L:List PV):Bool:=mS L || decide (10 < L.length) || decide (bz L≠0)
def fg:cG:={ ι:=PL,args:=fun i=>[i.val],ae:=PL.ae,pre:=fun i=>i.list.length≤9223372036854775807,val:=fun i=>.bool (j6 i.list),new:=fun _=>none }
theorem NU {L:List PV} (h:j6 L=false):L.length≤10∧(∀ p∈L,p.sz 12)∧bz L=0:=by
 unfold j6 at h;rw [Bool.or_eq_false_iff,Bool.or_eq_false_iff] at h;have J:=of_decide_eq_false h.1.2;have h3:=of_decide_eq_false h.2;exact ⟨by omega,(Mk h.1.1).2,by simpa using h3⟩
theorem Xx {L:List PV} (h:mS L=true):j6 L=true:=by unfold j6; rw [h]; rfl
theorem Wc {L:List PV} (h:10 < L.length):j6 L=true:=by unfold j6; rw [decide_eq_true h,Bool.or_true,Bool.true_or]
theorem Wd {L:List PV} (h:bz L≠0):j6 L=true:=by unfold j6; rw [decide_eq_true h,Bool.or_true]
theorem Xy {L:List PV} (h:mS L=false) (J:¬ 10 < L.length) (h3:bz L=0):j6 L=false:=by unfold j6; rw [h,decide_eq_false J,h3]; rfl
def Di:bF:={ ι:=PV,args:=fun i=>[i.v],pre:=fun _=>True,val:=fun i=>.bool (decide (i.sz 12∧i.canon)) }
def nW (L:List PV) (p:PV):Int:=if (qI L p).2≠0 then 5 else (qI L p).1
theorem GD {L:List PV} {p:PV} (h:bz L=0) (hp:p.canon):nW L p=c8 (aV L) p.p:=by
 unfold nW;rw [NP ⟨h,hp⟩]
 rfl
def aL:cG:={ ι:=PL × PV,args:=fun i=>[i.1.val,i.2.v],ae:=fun i=>i.1.ae,pre:=fun i=>i.1.fit∧i.2.sz 2048,val:=fun i=>.int .i64 (nW i.1.list i.2),new:=fun _=>none }
open Go
theorem DR (x:Rat):0≤x*x:=by
 by_cases h:0≤x
 ·exact Rat.mul_nonneg h h
 ·have:=Rat.mul_nonneg (show 0≤-x by grind) (show 0≤-x by grind)
  grind
def mv (p d:Q2) (s:Rat):Q2:=(p.1+s*d.1,p.2+s*d.2)
theorem Xz (p:Q2) (s:Rat):mv p (0,0) s=p:=Prod.ext (by show p.1+s*0=p.1; grind) (by show p.2+s*0=p.2; grind)
theorem O2 (a b p d:Q2) (s:Rat):ao a b (mv p d s)=ao a b p+s*((b.1 - a.1)*d.2 - (b.2 - a.2)*d.1):=by
 rw [dX,dX]; unfold mv; grind
theorem Oz (f:Q3) (p d:Q2) (s:Rat):aq f (mv p d s)=aq f p+s*(f.1*d.1+f.2.1*d.2):=by
 rw [gd,gd]; unfold mv; grind
theorem OA {x k:Rat} (h:0 < x):∃ s:Rat,0 < s∧∀ t,0≤t→t≤s→0 < x+t*k:=by
 by_cases hk:0≤k
 ·exact ⟨1,by decide,fun t h0 _=>by have:=Rat.mul_nonneg h0 hk; grind⟩
 ·have hk:0 < -k:=by grind
  have e:(x / (2*-k))*(2*-k)=x:=by rw [Rat.div_def]; grind
  generalize hs:x / (2*-k)=s at e;have hs0:0 < s:=by
   by_cases h1:0 < s
   ·exact h1
   ·have:=Rat.mul_nonneg (show 0≤-s by grind) (show 0≤2*-k by grind)
    grind
  refine ⟨s,hs0,fun t h0 h1=>?_⟩
  have:=Rat.mul_nonneg (show 0≤s - t by grind) (show 0≤-k by grind)
  grind
theorem XA {p d:Q2}:∀ (l:List (Q2 × Q2)),(∀ e∈l,0 < ao e.1 e.2 p)→∃ s:Rat,0 < s∧∀ t,0≤t→t≤s→∀ e∈l,0 < ao e.1 e.2 (mv p d t):=by
 intro l
 induction l with
 | nil=>intro _; exact ⟨1,by decide,fun t _ _ e he=>nomatch he⟩
 | cons e l ih =>
  intro h;obtain ⟨s,hs,h1⟩:=ih fun x hx=>h x (List.mem_cons_of_mem _ hx)
  obtain ⟨u,hu,J⟩:=OA (k:=(e.2.1 - e.1.1)*d.2 - (e.2.2 - e.1.2)*d.1) (h e (List.mem_cons_self ..));refine ⟨if s≤u then s else u,by split <;> assumption,fun t h0 ht x hx=>?_⟩
  have ri:t≤s∧t≤u:=by
   by_cases ta:s≤u
   ·rw [if_pos ta] at ht; exact ⟨ht,by grind⟩
   ·rw [if_neg ta] at ht; exact ⟨by grind,ht⟩
  rcases List.mem_cons.1 hx with rfl | hx
  ·rw [O2]; exact J t h0 ri.2
  ·exact h1 t h0 ri.1 x hx
def pB (P:List Q2) (p:Q2):Prop:=∀ d:Q2,∃ s:Rat,0 < s∧∀ t,0≤t→t≤s→cM P (mv p d t)
theorem pB.PR {P:List Q2} {p:Q2} (h:pB P p):cM P p:=by
 obtain ⟨s,hs,h1⟩:=h (0,0);have:=h1 0 (by decide) (by grind)
 rwa [Xz] at this
theorem Ca {Q:List Q2} {p:Q2} (h:Ring Q):c8 Q p=1↔pB Q p:=by
 constructor
 ·intro h1 d;obtain ⟨s,hs,J⟩:=XA (p:=p) (d:=d) (ba Q) (BM.1 h1);exact ⟨s,hs,fun t h0 ht=>(pM h).1 (x8.2 fun e he=>by have:=J t h0 ht e he; grind)⟩
 ·intro h1;refine BM.2 fun e he=>?_
  have hp:=x8.1 ((pM h).2 h1.PR) e he;have aI:=h.ne e he;refine Decidable.byContradiction fun hn=>?_
  have h0:ao e.1 e.2 p=0:=by grind
  obtain ⟨s,hs,J⟩:=h1 (e.2.2 - e.1.2,-(e.2.1 - e.1.1));have h3:=x8.1 ((pM h).2 (J s (by grind) (by grind))) e he
  rw [O2,h0] at h3;have a:=DR (e.2.1 - e.1.1);have b:=DR (e.2.2 - e.1.2);have pos:0 < (e.2.1 - e.1.1)*(e.2.1 - e.1.1)+(e.2.2 - e.1.2)*(e.2.2 - e.1.2):=by
   refine Decidable.byContradiction fun hz=>aI ?_
   have z1:(e.2.1 - e.1.1)*(e.2.1 - e.1.1)=0:=by grind
   have z2:(e.2.2 - e.1.2)*(e.2.2 - e.1.2)=0:=by grind
   have z1:=(Rat.mul_eq_zero.1 z1).elim id id;have z2:=(Rat.mul_eq_zero.1 z2).elim id id;exact Prod.ext (by grind) (by grind)
  have:=Rat.mul_pos hs pos;grind
theorem XB {R P B:List Q2} {p:Q2} (h:∀ q,cM R q↔cM P q∧cM B q):pB R p↔pB P p∧pB B p:=by
 constructor
 ·intro hi;exact ⟨fun d=>(hi d).imp fun s hs=>⟨hs.1,fun t h0 ht=>((h _).1 (hs.2 t h0 ht)).1⟩,fun d=>(hi d).imp fun s hs=>⟨hs.1,fun t h0 ht=>((h _).1 (hs.2 t h0 ht)).2⟩⟩
 ·intro ⟨ha,hb⟩ d;obtain ⟨s,hs,h1⟩:=ha d;obtain ⟨u,hu,J⟩:=hb d;refine ⟨if s≤u then s else u,by split <;> assumption,fun t h0 ht=>?_⟩
  by_cases ta:s≤u
  ·rw [if_pos ta] at ht; exact (h _).2 ⟨h1 t h0 ht,J t h0 (by grind)⟩
  ·rw [if_neg ta] at ht; exact (h _).2 ⟨h1 t h0 (by grind),J t h0 ht⟩
theorem NV {P C:List Q2} {m:Q3} {p:Q2} (h:∀ q,cM C q↔cM P q∧0≤aq m q) (hp:pB P p) (hm:0 < aq m p):pB C p:=fun d=>by
 obtain ⟨s,hs,h1⟩:=hp d;obtain ⟨u,hu,J⟩:=OA (k:=m.1*d.1+m.2.1*d.2) hm;refine ⟨if s≤u then s else u,by split <;> assumption,fun t h0 ht=>?_⟩
 have ri:t≤s∧t≤u:=by
  by_cases ta:s≤u
  ·rw [if_pos ta] at ht; exact ⟨ht,by grind⟩
  ·rw [if_neg ta] at ht; exact ⟨by grind,ht⟩
 exact (h _).2 ⟨h1 t h0 ri.1,by rw [Oz]; have:=J t h0 ri.2; grind⟩
theorem We {C:List Q2} {p:Q2} (hF:Flat C):¬ pB C p:=fun h=>by
 obtain ⟨f,hf,hv⟩:=hF;have z:∀ q,cM C q→aq f q=0:=fun q hq=>by
  have a:=hq f (fun v n6=>by rw [hv v n6]; exact Rat.le_refl)
  have b:=hq (-f.1,-f.2.1,-f.2.2) (fun v n6=>by have:=hv v n6; rw [gd] at this ⊢; grind)
  rw [gd] at a b ⊢;grind
 obtain ⟨s,hs,h1⟩:=h (f.1,f.2.1);have a:=z _ h.PR;have b:=z _ (h1 s (by grind) (by grind))
 rw [Oz,a] at b;have x:=DR f.1;have y:=DR f.2.1;have pos:0 < f.1*f.1+f.2.1*f.2.1:=by
  refine Decidable.byContradiction fun hz=>hf ⟨?_,?_⟩
  ·exact (Rat.mul_eq_zero.1 (show f.1*f.1=0 by grind)).elim id id
  ·exact (Rat.mul_eq_zero.1 (show f.2.1*f.2.1=0 by grind)).elim id id
 have:=Rat.mul_pos hs pos;grind
theorem TB:∀ (l:List (Q2 × Q2)) (P:List Q2),Ring P→fI P→(l.foldl kD P=[]∧∀ p,pB P p→¬ ∀ e∈l,0 < ao e.1 e.2 p) ∨
  (Ring (l.foldl kD P)∧fI (l.foldl kD P)∧∀ p,cM (l.foldl kD P) p↔cM P p∧∀ e∈l,0≤ao e.1 e.2 p):=by
 intro l
 induction l with
 | nil=>intro P h1 J; exact .inr ⟨h1,J,fun p=>⟨fun h=>⟨h,fun e he=>nomatch he⟩,fun h=>h.1⟩⟩
 | cons e l ih =>
  intro P h1 J;rw [List.foldl_cons];rcases UJ h1.eh e with ⟨hF,h0⟩ | ⟨h3,h4,h5⟩
  ·left
   rw [h0];have nl:∀ l:List (Q2 × Q2),l.foldl kD []=[]:=fun l=>by
    induction l with
    | nil=>rfl
    | cons e l ih=>exact ih
   exact ⟨nl l,fun p hp ha=>We hF (NV (fun q=>Kl h1.eh) hp (by rw [oQ]; exact ha e (List.mem_cons_self ..)))⟩
  ·rcases ih _ h3 h4 with ⟨h6,h7⟩ | ⟨h6,h7,h8⟩
   ·left
    refine ⟨h6,fun p hp ha=>h7 p (NV (m:=dP e.1 e.2) (fun q=>by rw [oQ]; exact h5 q) hp (by rw [oQ]; exact ha e (List.mem_cons_self ..))) fun x hx=>ha x (List.mem_cons_of_mem _ hx)⟩
   ·right
    refine ⟨h6,h7,fun p=>?_⟩
    rw [h8 p,h5 p];exact ⟨fun h=>⟨h.1.1,fun x hx=>by rcases List.mem_cons.1 hx with rfl | hx; exact h.1.2; exact h.2 x hx⟩,fun h=>⟨⟨h.1,h.2 e (List.mem_cons_self ..)⟩,fun x hx=>h.2 x (List.mem_cons_of_mem _ hx)⟩⟩
theorem wk {P B:List Q2} (hP:Ring P) (oP:fI P) (hB:Ring B):(gK P B=[]∧∀ p,¬ (c8 P p=1∧c8 B p=1)) ∨
  (Ring (gK P B)∧fI (gK P B)∧(∀ p,0≤c8 (gK P B) p↔0≤c8 P p∧0≤c8 B p)∧∀ p,c8 (gK P B) p=1↔c8 P p=1∧c8 B p=1):=by
 unfold gK;rcases TB (ba B) P hP oP with ⟨h1,J⟩ | ⟨h1,J,h3⟩
 ·exact .inl ⟨h1,fun p hp=>J p ((Ca hP).1 hp.1) (BM.1 hp.2)⟩
 ·have hh:∀ q,cM ((ba B).foldl kD P) q↔cM P q∧cM B q:=fun q=>by rw [h3 q,← pM hB,x8]
  refine .inr ⟨h1,J,fun p=>?_,fun p=>?_⟩
  ·rw [pM h1,pM hP,pM hB]; exact hh p
  ·rw [Ca h1,Ca hP,Ca hB]; exact XB hh
theorem UM {a b:Q2} (h:gk a b):¬ gk b a:=by
 unfold gk at *;grind
theorem Mo {A B:List Q2} (hA:Ring A) (oA:fI A) (hB:Ring B) (oB:fI B) (hs:gJ A B):A=B:=by
 have mem:∀ v,v∈A↔v∈B:=fun v=>by rw [hA.ext,hB.ext,fF.iff hs]
 have tA:=hA.three;have tB:=hB.three;cases A with
 | nil=>simp at tA
 | cons a A =>
  cases B with
  | nil=>simp at tB
  | cons b B =>
   have dI:a=b:=by
    obtain ⟨i,hi,ei⟩:=pV ((mem a).1 (List.mem_cons_self ..));obtain ⟨j,hj,ej⟩:=pV ((mem b).2 (List.mem_cons_self ..));by_cases h0:i=0
    ·rw [← ei,h0]; rfl
    ·by_cases h1:j=0
     ·rw [← ej,h1]; rfl
     ·have x:gk b a:=by have:=oB i (by omega) hi; rw [ei] at this; exact this
      have y:gk a b:=by have:=oA j (by omega) hj; rw [ej] at this; exact this
      exact absurd x (UM y)
   subst dI;rw [KI (P:=a::A) hA.eh hB.eh hA.nodup hB.nodup (fun v=>hA.ext) (fun v=>(mem v).symm.trans hA.ext)]
theorem Kp {A B:List Q2} (hA:Ring A) (hB:Ring B) (h:∀ p,0≤c8 A p↔0≤c8 B p):gJ A B:=fun p=>by rw [← pM hA,← pM hB]; exact h p
theorem meet_comm {P B:List Q2} (hP:Ring P) (oP:fI P) (hB:Ring B) (oB:fI B):gK P B=gK B P:=by
 rcases wk hP oP hB with ⟨h1,J⟩ | ⟨h1,J,h3,h4⟩
 ·rcases wk hB oB hP with ⟨g1,g2⟩ | ⟨g1,g2,g3,g4⟩
  ·rw [h1,g1]
  ·have:=(g4 _).1 (EG g1);exact absurd ⟨this.2,this.1⟩ (J _)
 ·rcases wk hB oB hP with ⟨g1,g2⟩ | ⟨g1,g2,g3,g4⟩
  ·have:=(h4 _).1 (EG h1);exact absurd ⟨this.2,this.1⟩ (g2 _)
  ·exact Mo h1 J g1 g2 (Kp h1 g1 fun p=>by rw [h3,g3]; exact ⟨fun h=>⟨h.2,h.1⟩,fun h=>⟨h.2,h.1⟩⟩)
theorem Wf {P B:List Q2} (hP:Ring P) (oP:fI P) (hB:Ring B) (aI:gK P B≠[]):gK (gK P B) P=gK P B:=by
 rcases wk hP oP hB with ⟨h1,_⟩ | ⟨h1,J,h3,h4⟩
 ·exact absurd h1 aI
 ·rcases wk h1 J hP with ⟨g1,g2⟩ | ⟨g1,g2,g3,g4⟩
  ·have c:=EG h1;exact absurd ⟨c,((h4 _).1 c).1⟩ (g2 _)
  ·exact Mo g1 g2 h1 J (Kp g1 h1 fun p=>by rw [g3,h3]; exact ⟨fun h=>h.1,fun h=>⟨h,h.1⟩⟩)
theorem UN {P B:List Q2} (hP:Ring P) (oP:fI P) (hB:Ring B) (sP:∀ v∈P,Q2.sz 12 v) (sB:∀ v∈B,Q2.sz 12 v) :
  o6 (·∈jh P++jh B) (gK P B)∧(∀ m∈jh P++jh B,Q3.sz 75 m)∧(gK P B).length≤P.length+B.length∧∀ v∈gK P B,Q2.sz 602 v:=by
 have hm:=Lo (S:=(·∈jh P++jh B)) (P:=P) (B:=B) (fun e he=>⟨hB.ne e he,List.mem_append_right _ (Fw he)⟩) (.inr ⟨hP,oP,fun e he=>(MY hP e he).mono fun m hm=>List.mem_append_left _ hm⟩) B.length
 rw [Md] at hm;have hl:∀ m∈jh P++jh B,Q3.sz 75 m:=fun m h=>(List.mem_append.1 h).elim (BJ sP m) (BJ sB m)
 obtain ⟨h1,J⟩:=Lp (k:=75) hl hm;rw [List.length_append,wj,wj] at h1;exact ⟨hm,hl,h1,J⟩
open Go
def qL:cG:={ ι:=lN × PV,args:=fun i=>[i.1.1.val,i.1.2.uM i.1.1.ae.length,i.2.v],ae:=fun i=>i.1.1.ae++i.1.2.ae,pre:=fun i=>i.1.1.list.length*80≤140737488351232∧i.1.2.list.length*80≤140737488351232,val:=fun _=>.bool true,new:=fun _=>none }
theorem G7 {A B:List PV} (hA:bz A=0) (hB:bz B=0):dg A B=nc (gK (aV A) (aV B)):=if_pos ⟨hA,hB⟩
theorem XC {A B:List PV} {R:List Q2} (hA:bz A=0) (hB:bz B=0) (lA:A.length≤10) (lB:B.length≤10) (sA:∀ v∈A,v.sz 12) (sB:∀ v∈B,v.sz 12) (hR:R=gK (aV A) (aV B)) :
  dg A B=nc R∧dg B A=nc R∧R.length≤20∧((R=[]∧∀ p,¬ (c8 (aV A) p=1∧c8 (aV B) p=1)) ∨
   (bz (ai R)=0∧(∀ p,0≤c8 R p↔0≤c8 (aV A) p∧0≤c8 (aV B) p)∧(∀ p,c8 R p=1↔c8 (aV A) p=1∧c8 (aV B) p=1) ∧
    (∀ v∈ai R,v.sz 2048)∧xG (ai R) A∧dg (ai R) A=nc R∧0 < R.length)):=by
 have zA:=oD hA;have zB:=oD hB;obtain ⟨hm,hl,h1,J⟩:=UN zA.2.2.1 zA.2.2.2 zB.2.2.1 (wS sA (by decide)) (wS sB (by decide))
 rw [← hR] at hm h1 J;rw [cY,cY] at h1;refine ⟨by rw [G7 hA hB,hR],by rw [G7 hB hA,hR,meet_comm zB.2.2.1 zB.2.2.2 zA.2.2.1 zA.2.2.2],by omega,?_⟩
 rcases wk zA.2.2.1 zA.2.2.2 zB.2.2.1 with ⟨g1,g2⟩ | ⟨g1,g2,g3,g4⟩
 ·exact .inl ⟨by rw [hR,g1],g2⟩
 ·rw [← hR] at g1 g2 g3 g4;have h3:=g1.three;have hk:bz (ai R)=0:=Xc (by rw [Bd]; omega) Mn (by rw [nF]; exact g1) (by rw [nF]; exact g2)
  refine .inr ⟨hk,g3,g4,Z8 J (by decide),fun _ _=>?_,?_,by omega⟩
  ·rw [nF];exact NM (S:=jh (aV A)++jh (aV B)) zA.2.2.1 (fun m h=>Q3.mono (hl m h) (by decide)) (fun m h=>Q3.mono (hl m (List.mem_append_left _ h)) (by decide)) (by rw [List.length_append,wj,wj,cY,cY]; omega) hm
  ·rw [G7 hk hA,nF];have:=Wf zA.2.2.1 zA.2.2.2 zB.2.2.1 (by rw [← hR]; intro e; rw [e] at h3; simp at h3)
   rw [← hR] at this;rw [this]
open Go Go.RowKit
section
variable {P:Program} {w:World} {r:Reach} {base:Nat} {t:TypeId} {v:Value}
theorem Mp (ht:P.underlying t=some .bool) (h:Cell.okWide P w r base t v):∃ b,v=.bool b:=by
 simp only [Cell.okWide,ht] at h;cases v <;> simp_all [Cell.ok]
theorem A6 (ht:P.underlying t=some .string) (h:Cell.okWide P w r base t v):∃ s,v=.string s:=by
 simp only [Cell.okWide,ht] at h;cases v <;> simp_all [Cell.ok]
theorem TC {fs:Array Field} (ht:P.underlying t=some (.struct fs)) {ts:List TypeId} (ri:P.cellTypes P.depth t=some ts) (h:Value.okWide P w r base t v) :
  ∃ l:List Value,v=.agg ⟨l⟩∧l.length=P.cellsOf t∧∀ i x,l[i]?=some x→∃ u,ts[i % ts.length]?=some u∧Cell.okWide P w r base u x:=by
 simp only [Value.okWide,ht] at h;obtain ⟨cs,rfl,J,ts',h3,_,h5⟩:=h;rw [ri] at h3;cases h3;exact ⟨cs.toList,rfl,J,fun i x hx=>h5 i x (by simpa using hx)⟩
theorem XD {fs:Array Field} (ht:P.underlying t=some (.struct fs)) {b s:TypeId} (ri:P.cellTypes P.depth t=some [b,s,s,b,s,s]) (hn:P.cellsOf t=6) (hb:P.underlying b=some .bool) (hs:P.underlying s=some .string)
  (h:Value.okWide P w r base t v):∃ p:PV,v=p.v:=by
 obtain ⟨l,rfl,hl,hc⟩:=TC ht ri h;rw [hn] at hl
 match l,hl with
 | [x,y,z,x',y',z'],_ =>
  obtain ⟨u,hu,h0⟩:=hc 0 x rfl;obtain ⟨u1,qP,h1⟩:=hc 1 y rfl;obtain ⟨u2,s7,J⟩:=hc 2 z rfl;obtain ⟨u3,hu3,h3⟩:=hc 3 x' rfl;obtain ⟨u4,hu4,h4⟩:=hc 4 y' rfl;obtain ⟨u5,hu5,h5⟩:=hc 5 z' rfl;cases hu; cases qP; cases s7; cases hu3; cases hu4; cases hu5;obtain ⟨b0,rfl⟩:=Mp hb h0;obtain ⟨s1,rfl⟩:=A6 hs h1;obtain ⟨s2,rfl⟩:=A6 hs J;obtain ⟨b3,rfl⟩:=Mp hb h3;obtain ⟨s4,rfl⟩:=A6 hs h4;obtain ⟨s5,rfl⟩:=A6 hs h5;exact ⟨((b0,s1,s2),(b3,s4,s5)),rfl⟩
end
open Go Go.RowKit Go.ChangeShapes Go.WideShapes Go.ChangeAt
theorem RD {P:Program} {f:FuncId} {S:cG} (h:dk P f S) {i:S.ι} (hp:S.pre i) {Js:List Value} {ν:Nu} {w:World} (ha:bg ν (S.args i) Js) (hH:bQ ν ((S.ae i).map some) w)
  (hν:∀ id,(S.ae i).length≤id→ν id=none) {b:Bool} (hv:S.val i=.bool b) :
  Calls P f ⟨Js⟩ w fun e w'=>e=.returned (.bool b)∧Below w.heap.size w w':=by
 have h1:=h.calls i hp ν Js w 0 ha hH hν;rw [callsIn_wide] at h1;refine h1.mono fun e w' ⟨v',ak,he,hq⟩=>⟨?_,hq.below⟩
 have hr:=hq.val;rw [hv] at hr;rw [he,hr.jV]
section
variable {H:Type} {enc:TypeId × Value→H} {P:Program} {w:World} {base:Nat} {spare:Nat→Bool} {held:Bool}
structure Dj (P:Program) (tr tp b s:TypeId):Prop where
 rat:∃ f0 f1 f2,P.underlying tr=some (.struct #[f0,f1,f2])∧(f0.type=b∧f0.offset=0)∧(f1.type=s∧f1.offset=1)∧f2.type=s∧f2.offset=2
 pt:∃ f0 f1,P.underlying tp=some (.struct #[f0,f1])∧(f0.type=tr∧f0.offset=0)∧f1.type=tr∧f1.offset=3
 bool:P.underlying b=some .bool
 str:P.underlying s=some .string
 cr:P.cellsOf tr=3
 cp:P.cellsOf tp=6
 cb:P.cellsOf b=1
 cs:P.cellsOf s=1
theorem Na {tr tp b s:TypeId} (T:Dj P tr tp b s) {n:Nat} {l:List Value} {y:DataW H × List MemPlace} (h:DataW.trod enc P w base spare held n tr l=some y):∃ i:RV,l=i.cells:=by
 obtain ⟨f0,f1,f2,hu,⟨t0,o0⟩,⟨t1,o1⟩,t2,o2⟩:=T.rat;obtain ⟨y0,y1,y2,m,_,hl,h0,h1,J⟩:=Deep.trod_struct3 hu h;rw [T.cr] at hl;rw [t0,o0,T.cb] at h0;rw [t1,o1,T.cs] at h1;rw [t2,o2,T.cs] at J
 match l,hl with
 | [x,y,z],_ =>
  obtain ⟨b,e0,_⟩:=DataW.trod_bool T.bool h0;obtain ⟨s1,e1,_⟩:=DataW.trod_string T.str h1;obtain ⟨s2,e2,_⟩:=DataW.trod_string T.str J;simp at e0 e1 e2;subst e0; subst e1; subst e2;exact ⟨(b,s1,s2),rfl⟩
theorem XE {tr tp b s:TypeId} (T:Dj P tr tp b s) {n:Nat} {l:List Value} {y:DataW H × List MemPlace} (h:DataW.trod enc P w base spare held n tp l=some y):∃ p:PV,l=p.cells:=by
 obtain ⟨f0,f1,hu,⟨t0,o0⟩,t1,o1⟩:=T.pt;obtain ⟨y0,y1,m,_,hl,h0,h1⟩:=trod_struct2 hu h;rw [T.cp] at hl;rw [t0,o0,T.cr] at h0;rw [t1,o1,T.cr] at h1;obtain ⟨i,e0⟩:=Na T h0;obtain ⟨j,e1⟩:=Na T h1
 match l,hl with
 | [x,y,z,x',y',z'],_ =>
  have e0:[x,y,z]=i.cells:=e0;have e1:[x',y',z']=j.cells:=e1;refine ⟨(i,j),?_⟩;show [x,y,z]++[x',y',z']=i.cells++j.cells
  rw [e0,e1]
end
open Go Go.RowKit Go.ChangeShapes Go.WideShapes Go.ChangeAt
section
variable {P:Program} {w:World} {r:Reach} {base:Nat} {t:TypeId} {v:Value}
end
structure aey (P:Program) (tr tn:TypeId):Prop where
 ln:∃ f0 f1 f2,P.underlying tn=some (.struct #[f0,f1,f2])∧(f0.type=tr∧f0.offset=0)∧(f1.type=tr∧f1.offset=3)∧f2.type=tr∧f2.offset=6
 cn:P.cellsOf tn=9
section
variable {H:Type} {enc:TypeId × Value→H} {P:Program} {w:World} {base:Nat} {spare:Nat→Bool} {held:Bool}
end
open Go Go.RowKit Go.ChangeShapes Go.WideShapes Go.ChangeAt
section
variable {H:Type} {enc:TypeId × Value→H} {P:Program} {w:World} {base:Nat} {spare:Nat→Bool} {held:Bool}
theorem Kq {tl tr tp b s:TypeId} (T:Dj P tr tp b s) (ht:P.underlying tl=some (.slice tp)) {v:Value} {d:DataW H} {ps:List MemPlace} {r:Reach} {b0:Nat} (hv:Value.okWide P w r b0 tl v)
  (h:DataW.Trod enc P w base (fun _=>true) held tl v d ps) :
  ∃ (i:PL) (ν:Nu),i.list.length≤9223372036854775807∧(∀ B m,(∀ elems spare,d=.slice elems spare→(elems.length+spare.length)*B≤m)→i.list.length*B≤m)∧au ν i.val v∧bQ ν (i.ae.map some) w∧∀ id,i.ae.length≤id→ν id=none:=by
 obtain ⟨a0,o7,ad6,rfl⟩:=okWide_slice ht hv;obtain ⟨fuel,hf⟩:=h;rcases Deep.open_slice ht hf with ⟨As,_⟩ | ⟨a,len,cap,m,n,D,Pl,As,hb,hl,hm,mE,hd,hx⟩
 ·simp [Value.cells] at As;obtain ⟨rfl,rfl,rfl⟩:=As;refine ⟨none,fun _=>none,Nat.zero_le _,fun B m _=>by show 0*B≤m; omega,.iD,⟨fun id b h=>by simp [PL.ae] at h,fun i j bi bj li lj h=>by simp [PL.ae] at h⟩,fun _ _=>rfl⟩
 ·simp [Value.cells] at As;obtain ⟨rfl,rfl,rfl⟩:=As;have mE:m=ad6:=mE;subst mE;simp only [Value.okWide,ht,Cell.okWide,Cell.ok] at hv;obtain ⟨_,_,_,rj,row,cells,G8,_⟩:=hv;have Hg:a.block < w.heap.size:=by
   unfold World.shape? at G8
   split at G8
   ·rename_i hh;exact (Array.getElem?_eq_some_iff.1 hh).1
   ·cases G8
  obtain ⟨V,hV⟩:=Deep.choose_lt (α:=PV) (n:=m) (p:=fun i p=>∀ j,j < 6→w.cell? ((a.add (i*6)).add j)=p.cells[j]?) (fun i hi=>by
   obtain ⟨eM,h1,J⟩:=hx i hi;rw [T.cp] at h1;obtain ⟨p,rfl⟩:=XE T J;obtain ⟨_,_,hc⟩:=World.cells?_some h1;exact ⟨p,hc⟩)
  have hlm:o7≤m:=hl;refine ⟨some ((List.range o7).map V,aO),fun id=>if id=0 then some ⟨a.block,a.off,6,m⟩ else none,?_,?_,?_,⟨fun id b bm=>?_,fun i j bi bj li lj h1 J h3 h4=>?_⟩,fun id bm=>?_⟩
  ·show ((List.range o7).map V).length≤_
   have eH:m≤9223372036854775807:=hm;rw [List.length_map,List.length_range];omega
  ·intro B M hB;have hd:=hB _ _ (congrArg Prod.fst hd);show ((List.range o7).map V).length*B≤M
   rw [List.length_map,List.length_range];refine Nat.le_trans (Nat.mul_le_mul_right _ ?_) hd;simp
  ·have e:a=Loc.at ⟨a.block,a.off,6,m⟩ 0 0:=by
    obtain ⟨b0,o0,s0⟩:=a;have:s0=none:=rj;subst this;simp [Loc.at]
   have:=au.slice (ν:=fun id=>if id=0 then some ⟨a.block,a.off,6,m⟩ else none) 0 0 o7 aO m ⟨a.block,a.off,6,m⟩ rfl (.inr rfl) hlm (by simp)
   rw [← e] at this;show au _ (.slice (some ⟨0,0,none⟩) ((List.range o7).map V).length aO) _
   rw [List.length_map,List.length_range];exact this
  ·cases id with
   | succ id=>simp [PL.ae] at bm
   | zero =>
    simp [PL.ae] at bm;subst bm;refine ⟨_,rfl,⟨rfl,fun r hr=>rfl,fun r hr j v xU=>?_,fun _ r hr v hv=>?_,fun r hr v hv=>?_,fun h=>(by cases h),(fun r h=>by cases h),Hg⟩⟩
    ·have ff:r < o7:=hr;have hr:r < ((List.range o7).map V).length:=by rw [List.length_map,List.length_range]; exact ff
     obtain ⟨p,hp,_,aZ⟩:=rG hr;have hpV:V r=p:=by
      rw [List.getElem?_map,List.getElem?_range ff] at hp
      simpa using hp
     have xU:(di ((List.range o7).map V) r)[j]?=some v:=xU;rw [aZ] at xU;have hj:j < 6:=(List.getElem?_eq_some_iff.1 xU).1;have hc:=hV r (by omega) j hj
     rw [hpV,xU] at hc;refine ⟨v,?_,?_⟩
     ·rw [← hc]
      congr 1
      obtain ⟨b0,o0,s0⟩:=a;have:s0=none:=rj;subst this;by_cases J:r*6=0
      ·have h3:r=0:=by omega
       by_cases h1:j=0 <;> simp [Loc.at,Addr.add,h1,h3]
      ·by_cases h1:j=0 <;> simp [Loc.at,Addr.add,h1,J,Nat.add_assoc]
     ·have hs:mh p.cells=true:=rfl;exact au.jT (dC hs v (List.mem_of_getElem? xU))
    ·exact dC (Lg _ r) v hv
    ·have:=dC (Lg ((List.range o7).map V) r) v hv;cases v <;> first | rfl | simp [cH] at this
  ·cases i with
   | succ i=>simp [PL.ae] at h1
   | zero =>
    cases j with
    | zero=>exact absurd rfl h3
    | succ j=>simp [PL.ae] at J
  ·have:id≠0:=by
    intro e; subst e;have bm:1≤0:=bm;omega
   simp [this]
end
theorem acn {w:World} {i1 i2:PL} {dQ qV:Nu} {v1 v2:Value} (h1:au dQ i1.val v1) (H1:bQ dQ (i1.ae.map some) w) (n1:∀ id,i1.ae.length≤id→dQ id=none) (J:au qV i2.val v2) (H2:bQ qV (i2.ae.map some) w) (n2:∀ id,i2.ae.length≤id→qV id=none) :
  ∃ ν:Nu,bQ ν ((i1.ae++i2.ae).map some) w∧(∀ id,(i1.ae++i2.ae).length≤id→ν id=none)∧au ν i1.val v1∧au ν (i2.uM i1.ae.length) v2:=by
 have own:∀ i:PL,∀ b∈i.ae,b.own=false∧b.iN=true∧b.rc=none:=fun i b hb=>by
  cases i with
  | none=>cases hb
  | some i=>rw [List.mem_singleton.1 hb]; exact ⟨rfl,rfl,rfl⟩
 have eh:∀ {ν ak:Nu} {l:Loc} {b:aj},b.iN=true→bN ν l b w→bN ak l b w:=fun {ν ak l b} hf h =>
  ⟨h.ah,h.len,fun r hr j v hv=>by
   obtain ⟨v',hc,iG⟩:=h.cell r hr j v hv;have hs:=h.plain hf r hr v (List.mem_of_getElem? hv);rw [iG.jU hs] at hc;exact ⟨v,hc,au.jT hs⟩,h.plain,h.one,h.own,h.lr,h.live⟩
 refine ⟨fun id=>if id < i1.ae.length then dQ id else qV (id - i1.ae.length),⟨fun id b bm=>?_,fun i j bi bj li lj hi hj aI ho=>?_⟩,fun id bm=>?_,?_,?_⟩
 ·rw [List.getElem?_map] at bm;obtain ⟨b',bA,e⟩:=Option.map_eq_some_iff.1 bm;obtain rfl:b'=b:=Option.some.inj e;by_cases h:id < i1.ae.length
  ·rw [List.getElem?_append_left h] at bA;obtain ⟨l,hl,hr⟩:=H1.aJ id b' (by rw [List.getElem?_map,bA]; rfl)
   exact ⟨l,by rw [if_pos h]; exact hl,eh (own _ _ (List.mem_of_getElem? bA)).2.1 hr⟩
  ·rw [List.getElem?_append_right (by omega)] at bA
   obtain ⟨l,hl,hr⟩:=H2.aJ (id - i1.ae.length) b' (by rw [List.getElem?_map,bA]; rfl)
   exact ⟨l,by rw [if_neg h]; exact hl,eh (own _ _ (List.mem_of_getElem? bA)).2.1 hr⟩
 ·rw [List.getElem?_map] at hi;obtain ⟨b',bA,e⟩:=Option.map_eq_some_iff.1 hi;obtain rfl:b'=bi:=Option.some.inj e;have:b'.own=false:=by
   rcases List.mem_append.1 (List.mem_of_getElem? bA) with h | h
   ·exact (own _ _ h).1
   ·exact (own _ _ h).1
  rw [this] at ho;cases ho
 ·rw [List.length_append] at bm;show (if id < i1.ae.length then dQ id else qV (id - i1.ae.length))=none
  rw [if_neg (by omega)]
  exact n2 _ (by omega)
 ·cases i1 with
  | none=>cases h1; exact .iD
  | some i =>
   obtain ⟨L,c0⟩:=i;have h1:au dQ (.slice (some ⟨0,0,none⟩) L.length c0) v1:=h1;show au _ (.slice (some ⟨0,0,none⟩) L.length c0) v1
   generalize L.length=k at h1 ⊢;cases h1 with
   | slice id row n c c' l h hc hn hr=>exact .slice _ _ _ _ _ l (by show (if 0 < 1 then dQ 0 else _)=_; exact h) hc hn hr
   | void id row c a hc=>exact .void _ _ _ a hc
 ·cases i2 with
  | none=>cases J; exact .iD
  | some i =>
   obtain ⟨L,c0⟩:=i;have J:au qV (.slice (some ⟨0,0,none⟩) L.length c0) v2:=J;show au _ (.slice (some ⟨i1.ae.length,0,none⟩) L.length c0) v2
   generalize L.length=k at J ⊢;cases J with
   | slice id row n c c' l h hc hn hr=>exact .slice _ _ _ _ _ l (by show (if i1.ae.length < i1.ae.length then _ else qV (i1.ae.length - i1.ae.length))=_; rw [if_neg (by omega),Nat.sub_self]; exact h) hc hn hr
   | void id row c a hc=>exact .void _ _ _ a hc
end Go.Ae
