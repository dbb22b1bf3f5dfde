import Derived.WalkKit
import Derived.ProofKit
import Derived.OpenShut
import Derived.ShutString
import Derived.ChangeOld
import Derived.Below
import Derived.Deep.Slices
import Derived.Deep.Strs
import Derived.SizedLaws
import Derived.Test.YtlapbjdhekcipaaGreatTD
set_option linter.unusedVariables false
set_option linter.unusedSimpArgs false
namespace Go.Ae
open Go
theorem aak (o i j k m:Q2):aB o j k*aB i j m=aB o j m*aB i j k+aB o i j*aB j k m:=by simp only [fR]; grind
theorem aal (o i j k m:Q2):aB o j k*aB i k m=aB o k m*aB i j k+aB o i k*aB j k m:=by simp only [fR]; grind
theorem E8 {a x s:Rat} (ha:0 < a) (h:a*x=s) (hs:0 < s):0 < x:=by
 by_cases hx:0 < x
 ·exact hx
 ·have:=Rat.mul_nonneg (show 0≤a by grind) (show 0≤-x by grind)
  grind
theorem N2 {a b c d:Rat} (ha:0 < a) (hb:0 < b) (hc:0 < c) (hd:0 < d):0 < a*b+c*d:=by
 have:=Rat.mul_pos ha hb;have:=Rat.mul_pos hc hd;grind
def iY (a b:Q2):Prop:=a.1 < b.1∨a.1=b.1∧a.2 < b.2
theorem U5 {o a b c:Q2} (ha:iY o a) (hb:iY o b) (hc:iY o c) (h1:0 < aB o a b) (J:0 < aB o b c):0 < aB o a c:=by
 have e:(b.1 - o.1)*aB o a c=(a.1 - o.1)*aB o b c+(c.1 - o.1)*aB o a b:=by simp only [fR]; grind
 have DY:0 < b.1 - o.1:=by
  rcases hb with h | ⟨h,h'⟩
  ·grind
  ·exfalso;have e2:aB o b c=-((b.2 - o.2)*(c.1 - o.1)):=by rw [fR,show b.1 - o.1=0 by grind]; grind
   have:=Rat.mul_nonneg (show 0≤b.2 - o.2 by grind) (show 0≤c.1 - o.1 by rcases hc with h | ⟨h,_⟩ <;> grind)
   grind
 have vF:0 < a.1 - o.1:=by
  rcases ha with h | ⟨h,h'⟩
  ·grind
  ·exfalso;have e2:aB o a b=-((a.2 - o.2)*(b.1 - o.1)):=by rw [fR,show a.1 - o.1=0 by grind]; grind
   have:=Rat.mul_pos (show 0 < a.2 - o.2 by grind) DY
   grind
 refine E8 DY e ?_;have:=Rat.mul_pos vF J;have:=Rat.mul_nonneg (show 0≤c.1 - o.1 by rcases hc with h | ⟨h,_⟩ <;> grind) (show 0≤aB o a b by grind)
 grind
theorem Wp {o:Q2}:∀ l:List Q2,(∀ v∈l,iY o v)→(∀ e∈cI l,0 < aB o e.1 e.2)→l.Pairwise (fun a b=>0 < aB o a b):=by
 intro l
 induction l with
 | nil=>exact fun _ _=>.nil
 | cons a l ih =>
  intro hv he;cases l with
  | nil=>simp
  | cons b l =>
   rw [mu] at he;have J:=ih (fun v h=>hv v (List.mem_cons_of_mem _ h)) (fun e h=>he e (List.mem_cons_of_mem _ h))
   rw [List.pairwise_cons];refine ⟨fun c hc=>?_,J⟩
   have eZ:=he (a,b) (List.mem_cons_self ..);rcases List.mem_cons.1 hc with rfl | cQ
   ·exact eZ
   ·rw [List.pairwise_cons] at J;exact U5 (hv a (List.mem_cons_self ..)) (hv b (List.mem_cons_of_mem _ (List.mem_cons_self ..))) (hv c (List.mem_cons_of_mem _ hc)) eZ (J.1 c cQ)
def zH:List Q2→Prop
 | []=>True
 | a::l=>l.Pairwise (fun b c=>0 < aB a b c)∧zH l
theorem zH.fZ:∀ {l:List Q2},zH l→bO l
 | [],_=>trivial
 | a::l,h=>⟨h.1.imp (fun h=>by grind),zH.fZ h.2⟩
theorem Wq {o:Q2}:∀ l:List Q2,l.Pairwise (fun a b=>0 < aB o a b)→(∀ e∈cI (cI l),0 < aB e.1.1 e.1.2 e.2.2)→zH l:=by
 intro l
 induction l with
 | nil=>exact fun _ _=>trivial
 | cons a l ih =>
  intro hf hc;rw [List.pairwise_cons] at hf;obtain ⟨Q9,hf⟩:=hf;cases l with
  | nil=>exact ⟨.nil,trivial⟩
  | cons b l =>
   have hS:=ih hf (fun e he=>hc e (by
    cases l with
    | nil=>cases he
    | cons c l=>rw [mu,mu,mu]; exact List.mem_cons_of_mem _ he))
   rw [List.pairwise_cons] at hf;have JG:l.Pairwise (fun x y=>0 < aB b x y):=hS.1
   have h1:∀ z∈l,0 < aB a b z:=by
    cases l with
    | nil=>intro z hz; cases hz
    | cons c l =>
     have P9:0 < aB a b c:=hc ((a,b),(b,c)) (by rw [mu,mu,mu]; exact List.mem_cons_self ..)
     intro z hz;rcases List.mem_cons.1 hz with rfl | oz
     ·exact P9
     ·rw [List.pairwise_cons] at JG;exact E8 (hf.1 c (List.mem_cons_self ..)) (aak o a b c z) (N2 (hf.1 z hz) P9 (Q9 b (List.mem_cons_self ..)) (JG.1 z oz))
   refine ⟨?_,hS⟩;rw [List.pairwise_cons];refine ⟨h1,?_⟩;have h3:=List.Pairwise.and_mem.1 (JG.and hf.2);refine h3.imp fun {x y} ⟨hx,hy,aem,aen⟩=>?_
   exact E8 (hf.1 x hx) (aal o a b x y) (N2 aen (h1 x hx) (Q9 x (List.mem_cons_of_mem _ hx)) aem)
theorem LH {α:Type} {l:List α} {e:α × α} (h:e∈cI l):∃ i,l[i]?=some e.1∧l[i+1]?=some e.2:=by
 obtain ⟨i,hi,rfl⟩:=List.getElem_of_mem h;refine ⟨i,?_⟩;have:(cI l)[i]?=some (cI l)[i]:=List.getElem?_eq_getElem hi;unfold cI at this;rw [List.getElem?_zip_eq_some,List.getElem?_tail] at this;exact this
theorem yW {a b:Q2}:dV a b < 0↔iY a b:=by
 have h:=ur (a:=b) (b:=a);unfold iK at h;unfold iY;constructor
 ·intro hc;have hn:¬ (b.1 < a.1∨b.1=a.1∧b.2≤a.2):=fun e=>h.1 e hc
  grind
 ·intro hc;refine Decidable.byContradiction fun hn=>?_
  have:=h.2 hn;grind
def lW (Q:List Q2):Prop:=∀ i,0 < i→i < Q.length→iY (aF Q 0) (aF Q i)
def o9 (Q:List Q2) (i:Nat):Prop:=aB (aF Q i) (aF Q (aZ Q.length i)) (aF Q (aZ Q.length (aZ Q.length i)))≤0∨(0 < i∧i+1 < Q.length∧aB (aF Q 0) (aF Q i) (aF Q (i+1))≤0)
def zh (Q:List Q2) (i:Nat):Prop:=∃ p∈Q,p≠aF Q i∧p≠aF Q (aZ Q.length i)∧aB (aF Q i) (aF Q (aZ Q.length i)) p≤0
theorem xh {Q:List Q2} (h:lW Q) {i:Nat} (h0:0 < i) (hi:i < Q.length):aF Q 0≠aF Q i:=fun e=>by
 have:=h i h0 hi;rw [← e] at this;rcases this with h | ⟨_,h⟩ <;> exact absurd h (Rat.not_lt.2 (Rat.le_refl))
theorem yJ {Q:List Q2} (h3:3≤Q.length) (ho:lW Q):Ring Q↔∀ i,i < Q.length→¬ o9 Q i:=by
 constructor
 ·intro hR i hi hb;rcases hb with hb | ⟨h0,h1,hb⟩
  ·have hn:=cJ hi;have:=hR.xg _ hn;rw [GM hi] at this;grind
  ·have kc:=hR.nodup;have hT:=hR.fZ;have e0:(Q.length - 1+1)=Q.length:=by omega
   have eY:0≤aB (aF Q i) (aF Q (i+1)) (aF Q 0):=by
    have he:=nq hi;rw [show aZ Q.length i=i+1 from Nat.mod_eq_of_lt h1] at he
    exact pX hT he (fA (by omega))
   have aN:aB (aF Q 0) (aF Q i) (aF Q (i+1))≠0:=A3 (hR.ext.1 (fA (by omega))) (hR.ext.1 (fA hi)) (hR.ext.1 (fA h1)) (xh ho h0 hi) (xh ho (by omega) h1) fun e=>by
    have:=wV kc hi h1 e;omega
   rw [wT] at hb aN;grind
 ·intro h;have Qa:∀ k,k < Q.length→0 < aB (aF Q (dZ Q.length k)) (aF Q k) (aF Q (aZ Q.length k)):=fun k hk=>by
   have:=h _ (jT hk);unfold o9 at this;rw [GL hk] at this;exact Rat.not_le.1 fun e=>this (.inl e)
  refine ⟨?_,h3,Qa⟩;cases Q with
  | nil=>exact trivial
  | cons o l =>
   have hv:∀ v∈l,iY o v:=fun v hv=>by
    obtain ⟨i,hi,rfl⟩:=wU hv;exact ho (i+1) (by omega) (by simp; omega)
   have hp:=Wp l hv fun e he=>by
    obtain ⟨i,h1,J⟩:=LH he;have hi:i+1 < l.length:=(List.getElem?_eq_some_iff.1 J).1;have:=h (i+1) (by simp; omega)
    unfold o9 at this;have e1:aF (o::l) (i+1)=e.1:=sD h1;have e2:aF (o::l) (i+1+1)=e.2:=sD J;have e0:aF (o::l) 0=o:=rfl;rw [e1,e2,e0] at this;exact Rat.not_le.1 fun e=>this (.inr ⟨by omega,by simp; omega,e⟩)
   refine ⟨hp.imp (fun h=>by grind),(Wq l hp fun e he=>?_).fZ⟩
   obtain ⟨i,h1,J⟩:=LH he;have g1:l[i]?=some e.1.1∧l[i+1]?=some e.1.2:=by
    unfold cI at h1;rw [List.getElem?_zip_eq_some,List.getElem?_tail] at h1;exact h1
   have g2:l[i+1]?=some e.2.1∧l[i+1+1]?=some e.2.2:=by
    unfold cI at J;rw [List.getElem?_zip_eq_some,List.getElem?_tail] at J;exact J
   have hi:i+1+1 < l.length:=(List.getElem?_eq_some_iff.1 g2.2).1;have:=Qa (i+1+1) (by simp; omega)
   have hn:aZ (o::l).length (i+1+1)=i+1+1+1:=Nat.mod_eq_of_lt (by simp; omega)
   have hq:dZ (o::l).length (i+1+1)=i+1:=by
    have:=GM (n:=(o::l).length) (k:=i+1) (by simp; omega)
    rwa [show aZ (o::l).length (i+1)=i+1+1 from Nat.mod_eq_of_lt (by simp; omega)] at this
   rw [hn,hq] at this;have e1:aF (o::l) (i+1)=e.1.1:=sD g1.1;have e2:aF (o::l) (i+1+1)=e.1.2:=sD g1.2;have e3:aF (o::l) (i+1+1+1)=e.2.2:=sD g2.2;rw [e1,e2,e3] at this;exact this
theorem U6 {Q:List Q2} (h3:3≤Q.length) (ho:lW Q) (h:∀ i,i < Q.length→¬ zh Q i):∀ i j,i < j→j < Q.length→aF Q i≠aF Q j:=by
 have an:∀ i,i < Q.length→∀ p∈Q,p≠aF Q i→p≠aF Q (aZ Q.length i)→0 < aB (aF Q i) (aF Q (aZ Q.length i)) p:=fun i hi p hp h1 J =>
  Rat.not_le.1 fun e=>h i hi ⟨p,hp,h1,J,e⟩
 have aN:∀ i,i < Q.length→aF Q i≠aF Q (aZ Q.length i):=fun i hi e=>by
  by_cases h0:i=0
  ·subst h0;exact xh ho (i:=aZ Q.length 0) (by unfold aZ; rw [Nat.mod_eq_of_lt (by omega)]; omega) (cJ hi) e
  ·have bQ:aF Q 0≠aF Q i:=xh ho (by omega) hi
   have:=an i hi (aF Q 0) (fA (by omega)) bQ (fun e2=>bQ (e2.trans e.symm))
   rw [← e,Cg] at this;grind
 have key:∀ d i j,Q.length - j=d→0 < i→i < j→j < Q.length→aF Q i≠aF Q j:=by
  intro d
  induction d with
  | zero=>intro i j hd _ _ hj; omega
  | succ d ih =>
   intro i j hd h0 xZ hj e;have hi:i < Q.length:=by omega
   have eni:aZ Q.length i=i+1:=Nat.mod_eq_of_lt (by omega)
   have fh:aF Q (aZ Q.length i)=aF Q (aZ Q.length j):=by
    refine Decidable.byContradiction fun hc=>?_
    have a:=an i hi (aF Q (aZ Q.length j)) (fA (cJ hj)) (by rw [e]; exact Ne.symm (aN j hj)) (Ne.symm hc)
    have b:=an j hj (aF Q (aZ Q.length i)) (fA (cJ hi)) (by rw [← e]; exact Ne.symm (aN i hi)) hc
    rw [← e,yG] at b;grind
   rw [eni] at fh;by_cases hl:j+1 < Q.length
   ·rw [show aZ Q.length j=j+1 from Nat.mod_eq_of_lt hl] at fh
    exact ih (i+1) (j+1) (by omega) (by omega) (by omega) hl fh
   ·have:j+1=Q.length:=by omega
    rw [show aZ Q.length j=0 from by unfold aZ; rw [this,Nat.mod_self]] at fh
    exact xh ho (i:=i+1) (by omega) (by omega) fh.symm
 intro i j xZ hj;by_cases h0:i=0
 ·subst h0; exact xh ho xZ hj
 ·exact key _ i j rfl (by omega) xZ hj
theorem Ng {Q:List Q2} (h3:3≤Q.length) (ho:lW Q):Ring Q↔∀ i,i < Q.length→¬ zh Q i:=by
 constructor
 ·rintro hR i hi ⟨p,hp,h1,J,hb⟩
  have eY:=pX hR.fZ (nq hi) hp;have:=A3 (hR.ext.1 (fA hi)) (hR.ext.1 (fA (cJ hi))) (hR.ext.1 hp) (hR.ne _ (nq hi)) (Ne.symm h1) (Ne.symm J);grind
 ·intro h;have kc:=U6 h3 ho h;have hd:∀ i j,i < Q.length→j < Q.length→i≠j→aF Q i≠aF Q j:=fun i j hi hj aN=>by
   rcases Nat.lt_or_gt_of_ne aN with h | h
   ·exact kc i j h hj
   ·exact Ne.symm (kc j i h hi)
  have an:∀ i j,i < Q.length→j < Q.length→j≠i→j≠aZ Q.length i→0 < aB (aF Q i) (aF Q (aZ Q.length i)) (aF Q j):=fun i j hi hj h1 J =>
   Rat.not_le.1 fun e=>h i hi ⟨aF Q j,fA hj,hd j i hj hi h1,hd j _ hj (cJ hi) J,e⟩
  refine (yJ h3 ho).2 fun i hi hb=>?_
  rcases hb with hb | ⟨h0,h1,hb⟩
  ·have hn:=cJ hi;have:=an i _ hi (cJ hn) (fun e=>by
    unfold aZ at e;rcases Nat.lt_or_ge (i+1) Q.length with h | h
    ·rw [Nat.mod_eq_of_lt h] at e;rcases Nat.lt_or_ge (i+1+1) Q.length with h' | h'
     ·rw [Nat.mod_eq_of_lt h'] at e; omega
     ·rw [show i+1+1=Q.length by omega,Nat.mod_self] at e; omega
    ·rw [show i+1=Q.length by omega,Nat.mod_self,Nat.mod_eq_of_lt (by omega)] at e; omega) (xf hn (by omega))
   grind
  ·have:=an i 0 hi (by omega) (by omega) (by rw [show aZ Q.length i=i+1 from Nat.mod_eq_of_lt h1]; omega)
   rw [show aZ Q.length i=i+1 from Nat.mod_eq_of_lt h1,← wT] at this
   grind
open Go
theorem xi (a b p:Q2):bg (c8 a b) p=aB a b p:=by simp only [kS,fR,c8]; grind
theorem Nh {a b:Q2} (h:a≠b):mY (c8 a b):=fun e=>h (Prod.ext (by have:=e.2; unfold c8 at this; grind) (by have:=e.1; unfold c8 at this; grind))
theorem Wr {m:Q3} {x y z:Q2} (hx:bg m x=0) (hy:bg m y=0) (aN:x≠y) (h:aB x y z=0):bg m z=0:=by
 rw [kS] at *;rw [fR] at h;by_cases h0:y.1 - x.1=0
 ·have h1:y.2 - x.2≠0:=fun e=>aN (Prod.ext (by grind) (by grind))
  have:(y.2 - x.2)*(m.1*z.1+m.2.1*z.2 - m.2.2)=0:=by grind
  exact (Rat.mul_eq_zero.1 this).resolve_left h1
 ·have:(y.1 - x.1)*(m.1*z.1+m.2.1*z.2 - m.2.2)=0:=by grind
  exact (Rat.mul_eq_zero.1 this).resolve_left h0
theorem N3 {m:Q3} (hm:mY m) {a b c:Q2} (ha:bg m a=0) (hb:bg m b=0) (hc:bg m c=0):aB a b c=0 :=
 Ch (P:=[a,b,c]) ⟨m,hm,fun v hv=>by simp at hv; rcases hv with rfl | rfl | rfl <;> assumption⟩ (by simp) (by simp) (by simp)
theorem TO {P:List Q2} {v:Q2} (h:v∈P) (hw:∃ w∈P,w≠v):∃ y,(v,y)∈bf P∧v≠y:=by
 obtain ⟨w,hw,aN⟩:=hw;obtain ⟨A,B,rfl⟩:=List.append_of_mem h;obtain ⟨y,h1,J⟩:=leave (v:=v) (B++A) ⟨w,by
  rcases List.mem_append.1 hw with h | h
  ·exact List.mem_append_right _ h
  ·rcases List.mem_cons.1 h with h | h
   ·exact absurd h aN
   ·exact List.mem_append_left _ h,aN⟩
 exact ⟨y,BD (A:=v::B) (K3 (m:=[v]) h1),J⟩
theorem TP {P:List Q2} (hT:bO P):(Flat P∧cV P=[])∨(¬ Flat P∧Ring (cV P)∧lW (cV P)∧iQ (cV P) P∧∀ v∈cV P,v∈P):=by
 by_cases hF:Flat P
 ·exact .inl ⟨hF,(UY hF).1⟩
 ·have hc:=LG hT hF;rw [(Xw hT hF).1];refine .inr ⟨hF,U0 hc,fun i h0 hi=>?_,(iQ.o8 fun v=>uf).trans (E5 hT hF).1,fun v hv=>(FB P).subset (uf.1 hv)⟩
  have:=SO hc hi h0;have hle:iK (aF (fc (fV P)) 0) (aF (fc (fV P)) i):=ur.2 (by omega)
  have aN:aF (fc (fV P)) 0≠aF (fc (fV P)) i:=fun e=>by rw [e,n7.2 rfl] at this; omega
  rcases hle with h | ⟨h,h'⟩
  ·exact .inl h
  ·exact .inr ⟨h,Rat.lt_of_le_of_ne h' fun e=>aN (Prod.ext h e)⟩
theorem XA {S:Q3→Prop} {P C:List Q2} (hT:bO P) (hC:Ring C) (hs:iQ C P) (IA:∀ v∈C,v∈P) (h:∀ e∈bf P,mZ S e):∀ e∈bf C,mZ S e:=by
 rintro ⟨x,y⟩ he
 have rr:x≠y:=hC.ne _ he;obtain ⟨x',h1,J⟩:=TO (IA x (oU he).1) ⟨y,IA y (oU he).2,Ne.symm rr⟩;have a:=pX hT h1 (IA y (oU he).2);have b:=Fz hC.fZ he ((hs x').2 (.o8 (oU h1).2));rw [yG] at b;obtain ⟨m,hm,hl,v1,v2⟩:=h _ h1;exact ⟨m,hm,hl,v1,Wr v1 v2 J (by grind)⟩
theorem XB {α:Type} [DecidableEq α]:∀ (n:Nat) (S:List α) (f:Nat→α),(∀ k,k < n→f k∈S)→(∀ i j,i < n→j < n→f i=f j→i=j)→n≤S.length:=by
 intro n
 induction n with
 | zero=>intro S f _ _; omega
 | succ n ih =>
  intro S f h1 J;have hn:=h1 n (by omega)
  have:=ih (S.erase (f n)) f (fun k hk=>(List.mem_erase_of_ne fun e=>by have:=J k n (by omega) (by omega) e; omega).2 (h1 k (by omega))) (fun i j hi hj=>J i j (by omega) (by omega))
  rw [List.length_erase_of_mem hn] at this;have:0 < S.length:=List.length_pos_of_mem hn;omega
theorem Ws {S:List Q3} {C:List Q2} (hC:Ring C) (h:∀ e∈bf C,mZ (·∈S) e):C.length≤S.length:=by
 have h3:=hC.three;have hf:∀ k,∃ m:Q3,k < C.length→m∈S∧mY m∧bg m (aF C k)=0∧bg m (aF C (aZ C.length k))=0:=fun k=>by
  by_cases hk:k < C.length
  ·obtain ⟨m,h⟩:=h _ (nq hk);exact ⟨m,fun _=>h⟩
  ·exact ⟨(0,0,0),fun h=>absurd h hk⟩
 obtain ⟨f,hf⟩:=Classical.axiomOfChoice hf;refine XB C.length S f (fun k hk=>(hf k hk).1) fun i j hi hj e=>Decidable.byContradiction fun aN=>?_
 obtain ⟨_,hl,i1,i2⟩:=hf i hi;obtain ⟨_,_,j1,j2⟩:=hf j hj;rw [← e] at j1 j2;have hx:∀ a b c,a < C.length→b < C.length→c < C.length→a≠b→a≠c→b≠c→bg (f i) (aF C a)=0→bg (f i) (aF C b)=0→bg (f i) (aF C c)=0→False:=fun a b c ha hb hc eZ AD pH va vb vc =>
  A3 (hC.ext.1 (fA ha)) (hC.ext.1 (fA hb)) (hC.ext.1 (fA hc)) (fun e=>eZ (wV hC.nodup ha hb e)) (fun e=>AD (wV hC.nodup ha hc e)) (fun e=>pH (wV hC.nodup hb hc e)) (N3 hl va vb vc)
 by_cases h1:aZ C.length i=j
 ·subst h1;refine hx i _ _ hi hj (cJ hj) aN (fun e=>?_) (Ne.symm (xf hj (by omega))) i1 i2 j2
  unfold aZ at e;rcases Nat.lt_or_ge (i+1) C.length with h | h
  ·rw [Nat.mod_eq_of_lt h] at e;rcases Nat.lt_or_ge (i+1+1) C.length with h' | h'
   ·rw [Nat.mod_eq_of_lt h'] at e; omega
   ·rw [show i+1+1=C.length by omega,Nat.mod_self] at e; omega
  ·rw [show i+1=C.length by omega,Nat.mod_self,Nat.mod_eq_of_lt (by omega)] at e; omega
 ·exact hx i j _ hi hj (cJ hi) aN (Ne.symm (xf hi (by omega))) (Ne.symm h1) i1 j1 i2
theorem XC {k:Nat} {C:List Q2} (hC:Ring C) (h:∀ e∈bf C,mZ (Q3.sz k) e):∀ v∈C,Q2.sz (8*k+2) v:=by
 intro v hv;obtain ⟨i,hi,rfl⟩:=wU hv;obtain ⟨l,sl,hl,l1,l2⟩:=h _ (rX hi);obtain ⟨m,sm,hm,m1,m2⟩:=h _ (nq hi);have l2:bg l (aF C i)=0:=l2;have m1:bg m (aF C i)=0:=m1;have hd:qU l m≠0:=aaf hl l1 l2 (fun e=>by
  have hc:=hC.xg i hi;rw [N3 hm (e.trans m1) m1 m2] at hc;grind)
 rw [aae l2 m1 hd];exact Q2.mono (aac sl sm) (by omega)
def zI (P:List Q2) (e:Q2 × Q2):List Q2:=cV (dg (c8 e.1 e.2) P)
def jY (P B:List Q2):List Q2:=(bf B).foldl zI P
def fY (P B:List Q2) (j:Nat):List Q2:=((bf B).take j).foldl zI P
theorem TQ (P B:List Q2):fY P B 0=P:=rfl
theorem TR {P B:List Q2} {j:Nat} {e:Q2 × Q2} (h:(bf B)[j]?=some e):fY P B (j+1)=zI (fY P B j) e:=by
 unfold fY;rw [List.take_add_one,h,List.foldl_append]; rfl
theorem Mx (P B:List Q2):fY P B B.length=jY P B:=by
 unfold fY jY;rw [← kP B,List.take_length]
theorem TS {P B:List Q2} {j:Nat} (hj:j≤B.length) (h:fY P B j=[]):jY P B=[]:=by
 have e:bf B=(bf B).take j++(bf B).drop j:=(List.take_append_drop ..).symm;unfold jY;rw [e,List.foldl_append,show List.foldl zI P ((bf B).take j)=[] from h]
 generalize (bf B).drop j=l
 induction l with
 | nil=>rfl
 | cons e l ih=>exact ih
def qV (S:Q3→Prop) (P:List Q2):Prop:=P=[]∨(Ring P∧lW P∧∀ e∈bf P,mZ S e)
theorem U7 {S:Q3→Prop} {P:List Q2} {e:Q2 × Q2} (aN:e.1≠e.2) (hS:S (c8 e.1 e.2)) (h:qV S P):qV S (zI P e):=by
 rcases h with rfl | ⟨hR,ho,DZ⟩
 ·exact .inl rfl
 ·have hT:=Wc (m:=c8 e.1 e.2) hR.fZ;rcases TP hT with ⟨_,h⟩ | ⟨_,h1,J,h3,h4⟩
  ·exact .inl h
  ·exact .inr ⟨h1,J,XA hT h1 h3 h4 (aag hS (Nh aN) DZ)⟩
theorem TU {S:Q3→Prop} {P B:List Q2} (hB:∀ e∈bf B,e.1≠e.2∧S (c8 e.1 e.2)) (h:qV S P) (j:Nat):qV S (fY P B j):=by
 unfold fY;have hl:∀ e∈(bf B).take j,e.1≠e.2∧S (c8 e.1 e.2):=fun e he=>hB e (List.mem_of_mem_take he)
 revert hl;generalize (bf B).take j=l;intro hl
 induction l generalizing P with
 | nil=>exact h
 | cons e l ih=>exact ih (U7 (hl e (List.mem_cons_self ..)).1 (hl e (List.mem_cons_self ..)).2 h) fun x hx=>hl x (List.mem_cons_of_mem _ hx)
theorem TW {S:List Q3} {k:Nat} {P:List Q2} (hk:∀ m∈S,Q3.sz k m) (h:qV (·∈S) P):P.length≤S.length∧∀ v∈P,Q2.sz (8*k+2) v:=by
 rcases h with rfl | ⟨hR,_,DZ⟩
 ·exact ⟨Nat.zero_le _,fun v hv=>nomatch hv⟩
 ·exact ⟨Ws hR DZ,XC hR fun e he=>(DZ e he).imp fun m hm=>⟨hk m hm.1,hm.2⟩⟩
def sE (P:List Q2):List Q3:=(bf P).map fun e=>c8 e.1 e.2
theorem My (P:List Q2):(sE P).length=P.length:=by unfold sE; rw [List.length_map,kP]
theorem Mz {P:List Q2} {e:Q2 × Q2} (h:e∈bf P):c8 e.1 e.2∈sE P:=List.mem_map_of_mem (f:=fun e:Q2 × Q2=>c8 e.1 e.2) h
theorem Wt {P:List Q2} (h:Ring P):∀ e∈bf P,mZ (·∈sE P) e:=fun e he=>⟨_,Mz he,Nh (h.ne e he),by rw [xi,sj],by rw [xi,p9]⟩
theorem Ni {P:List Q2} {k:Nat} (h:∀ v∈P,Q2.sz k v):∀ m∈sE P,Q3.sz (6*k+3) m:=fun m hm=>by
 obtain ⟨e,he,rfl⟩:=List.mem_map.1 hm;have:=oU he;exact Q3.mono (Hi (h _ this.1) (h _ this.2)) (by omega)
theorem mZ.mono {S T:Q3→Prop} {e:Q2 × Q2} (h:mZ S e) (hs:∀ m,S m→T m):mZ T e:=h.imp fun m hm=>⟨hs m hm.1,hm.2⟩
theorem qV.mono {S T:Q3→Prop} {P:List Q2} (h:qV S P) (hs:∀ m,S m→T m):qV T P:=h.imp id fun h=>⟨h.1,h.2.1,fun e he=>(h.2.2 e he).mono hs⟩
def OL (P B:List Q2):Prop:=∀ j,j≤B.length→(fY P B j).length≤1073741824∧∀ v∈fY P B j,Q2.sz 2048 v
theorem XD {S:List Q3} {P B:List Q2} (hB:Ring B) (hk:∀ m∈S,Q3.sz 255 m) (hl:∀ m∈sE B,Q3.sz 255 m) (hn:S.length+B.length≤1073741824) (h:qV (·∈S) P):OL P B:=fun j hj=>by
 have hm:=TU (S:=(·∈S++sE B)) (B:=B) (fun e he=>⟨hB.ne e he,List.mem_append_right _ (Mz he)⟩) (h.mono fun m hm=>List.mem_append_left _ hm) j
 obtain ⟨h1,J⟩:=TW (k:=255) (fun m hm=>(List.mem_append.1 hm).elim (hk m) (hl m)) hm
 rw [List.length_append,My] at h1;exact ⟨by omega,fun v hv=>Q2.mono (J v hv) (by decide)⟩
open Go
def fa (l:List PV):Bool:=l.any fun p=>decide (¬ p.canon)
instance (a b:Q2):Decidable (iY a b):=inferInstanceAs (Decidable (_∨_))
def Dt (Q:List Q2):Bool:=(List.range Q.length).all fun i=>decide (i=0∨iY (aF Q 0) (aF Q i))
instance (Q:List Q2) (i:Nat):Decidable (o9 Q i):=inferInstanceAs (Decidable (_∨_))
def C7 (Q:List Q2):Bool:=(List.range Q.length).all fun i=>decide (¬ o9 Q i)
theorem BW {Q:List Q2}:Dt Q=true↔lW Q:=by
 unfold Dt lW;rw [List.all_eq_true];constructor
 ·intro h i h0 hi;exact (of_decide_eq_true (h i (List.mem_range.2 hi))).resolve_left (by omega)
 ·intro h i hi;by_cases h0:i=0
  ·exact decide_eq_true (.inl h0)
  ·exact decide_eq_true (.inr (h i (by omega) (List.mem_range.1 hi)))
theorem FF {Q:List Q2} (h3:3≤Q.length) (ho:lW Q):C7 Q=true↔Ring Q:=by
 rw [yJ h3 ho];unfold C7;rw [List.all_eq_true];exact ⟨fun h i hi=>of_decide_eq_true (h i (List.mem_range.2 hi)),fun h i hi=>decide_eq_true (h i (List.mem_range.1 hi))⟩
def bt (L:List PV):Int :=
 if L.length < 3∨64 < L.length then 4 else if fa L=true then 1 else if Dt (aG L)=true then (if C7 (aG L)=true then 0 else 15) else 8
theorem nj {L:List PV} (h:bt L=0):(3≤L.length∧L.length≤64)∧(∀ p∈L,p.canon)∧Ring (aG L)∧lW (aG L):=by
 unfold bt at h
 split at h
 ·cases h
 ·rename_i h1
  split at h
  ·cases h
  ·rename_i J
   split at h
   ·rename_i h3
    split at h
    ·rename_i h4;have ho:=BW.1 h3;exact ⟨by omega,fun p hp=>Decidable.byContradiction fun e=>J (List.any_eq_true.2 ⟨p,hp,decide_eq_true e⟩),(FF (by rw [cE]; omega) ho).1 h4,ho⟩
    ·cases h
   ·cases h
def IB (p:Q2) (o:Int) (e:Q2 × Q2):Int:=if aW (aB e.1 e.2 p) 0 < o then aW (aB e.1 e.2 p) 0 else o
def HP (Q:List Q2) (p:Q2):Int:=(bf Q).foldl (IB p) 1
def mR (R:List Q2):List Q2 × Int:=if R.length=0 then ([],11) else if 64 < R.length then ([],4) else (R,0)
def bP (L:List PV) (a b:PV):List Q2 × Int:=if bt L=0∧a.canon∧b.canon then (if a=b then ([],12) else mR (cV (dg (c8 a.p b.p) (aG L)))) else ([],1)
def bH (A B:List PV):List Q2 × Int:=if bt A=0∧bt B=0 then mR (jY (aG A) (aG B)) else ([],1)
def rC (s:Bool) (o:Int):Bool:=if s then decide (o≤0) else decide (o < 0)
def iG (s:Bool) (A B:List Q2):Option (Q2 × Q2):=(bf A).find? fun e=>B.all fun x=>rC s (aW (aB e.1 e.2 x) 0)
def kC (s:Bool) (A B:List Q2):Option (Q2 × Q2):=match iG s A B with
 | some e=>some e
 | none=>iG s B A
def Qb (s:Bool) (A B:List PV):Bool × Int:=if bt A=0∧bt B=0 then ((kC s (aG A) (aG B)).isNone,0) else (false,1)
def Ra (e:Q2 × Q2):XV:=(cA e.1,cA e.2)
def nN (A B:List PV):XV × Int:=if bt A=0∧bt B=0 then (match kC true (aG A) (aG B) with | some e=>(Ra e,0) | none=>(nG,6)) else (nG,1)
def xO (a b:Q2) (st:Option (Rat × Rat)) (e:Q2 × Q2):Option (Rat × Rat) :=
 match st with
 | none=>none
 | some (lo,hi) =>
  if aB e.1 e.2 b - aB e.1 e.2 a=0 then (if aB e.1 e.2 a≤0 then none else some (lo,hi))
  else if 0 < aB e.1 e.2 b - aB e.1 e.2 a then some (mf lo (-aB e.1 e.2 a / (aB e.1 e.2 b - aB e.1 e.2 a)),hi)
  else some (lo,mg hi (-aB e.1 e.2 a / (aB e.1 e.2 b - aB e.1 e.2 a)))
def qW (Q:List Q2) (a b:Q2):Option (Rat × Rat):=match (bf Q).foldl (xO a b) (some (0,1)) with
 | none=>none
 | some (lo,hi)=>if hi≤lo then none else some (lo,hi)
def ik (L:List PV) (s:XV):(RV × RV) × Bool × Int :=
 if bt L=0∧s.1.canon∧s.2.canon then (match qW (aG L) s.1.p s.2.p with | some (lo,hi)=>((RV.of lo,RV.of hi),true,0) | none=>((dc,dc),false,0)) else ((dc,dc),false,1)
abbrev QL:=Option (List Q2 × Nat)
def QL.val:QL→Value
 | none=>.slice none 0 0
 | some i=>.slice (some ⟨0,0,none⟩) i.1.length i.2
def QL.ae:QL→List ai
 | none=>[]
 | some i=>[.flat false i.1.length 6 (aX i.1)]
def QL.list:QL→List Q2
 | none=>[]
 | some i=>i.1
def bW (R:List Q2):Option ai:=match R.length with
 | 0=>none
 | n+1=>some (.flat true (n+1) 6 (aX R))
def RV.c1 (x:RV):List Value:=[.bool x.1,.string x.2.1,.string x.2.2]
def PL.fit (i:PL):Prop:=i.list.length≤1099511627776∧∀ v∈i.list,v.sz 2048
def C8:bG:={ ι:=PV,args:=fun i=>[i.v],pre:=fun i=>i.sz 2048,val:=fun i=>.bool (decide (¬ i.canon)) }
def dN:ax:={ ι:=PL,args:=fun i=>[i.val],ae:=PL.ae,pre:=PL.fit,val:=fun i=>.bool (!fa i.list),new:=fun _=>none }
def bk:ax:={ ι:=PL,args:=fun i=>[i.val],ae:=PL.ae,pre:=PL.fit,val:=fun i=>.int .i64 (bt i.list),new:=fun _=>none }
def sF:ax:={ ι:=PL × PV,args:=fun i=>[i.1.val,i.2.v],ae:=fun i=>i.1.ae,pre:=fun i=>i.1.fit∧i.2.sz 2048,val:=fun i=>.int .i64 (HP (aG i.1.list) i.2.p),new:=fun _=>none }
def qe:bG:={ ι:=x0,args:=fun i=>[i.1.v,i.2.1.v,i.2.2.v],pre:=Dr,val:=fun i=>(RV.of (aB i.1.p i.2.1.p i.2.2.p)).v }
def dL:ax:={ ι:=QL,args:=fun i=>[i.val],ae:=QL.ae,pre:=fun i=>i.list.length≤549755813888∧∀ v∈i.list,Q2.sz 262144 v,val:=fun i=>dw i.ae.length (cV i.list).length,new:=fun i=>bW (cV i.list) }
def c6:ax:={ ι:=PL × kf,args:=fun i=>[i.1.val,i.2.1.v,i.2.2.v],ae:=fun i=>i.1.ae,pre:=fun i=>i.1.fit∧i.2.1.sz 2048∧i.2.2.sz 2048,val:=fun i=>.tuple ⟨[dw i.1.ae.length (bP i.1.list i.2.1 i.2.2).1.length,.int .i64 (bP i.1.list i.2.1 i.2.2).2]⟩,new:=fun i=>bW (bP i.1.list i.2.1 i.2.2).1 }
def kM.fit (i:kM):Prop:=(i.1.fit∧i.2.fit)
def qX (A B:List PV):Prop:=bt A=0→bt B=0→OL (aG A) (aG B)
def cF:ax:={ ι:=kM,args:=fun i=>[i.1.val,i.2.sO i.1.ae.length],ae:=fun i=>i.1.ae++i.2.ae,pre:=fun i=>kM.fit i∧qX i.1.list i.2.list,val:=fun i=>.tuple ⟨[dw (i.1.ae++i.2.ae).length (bH i.1.list i.2.list).1.length,.int .i64 (bH i.1.list i.2.list).2]⟩,new:=fun i=>bW (bH i.1.list i.2.list).1 }
def Ph (s:Bool):ax:={ ι:=kM,args:=fun i=>[i.1.val,i.2.sO i.1.ae.length],ae:=fun i=>i.1.ae++i.2.ae,pre:=kM.fit,val:=fun i=>.tuple ⟨[.bool (Qb s i.1.list i.2.list).1,.int .i64 (Qb s i.1.list i.2.list).2]⟩,new:=fun _=>none }
def mS:ax:={ ι:=kM,args:=fun i=>[i.1.val,i.2.sO i.1.ae.length],ae:=fun i=>i.1.ae++i.2.ae,pre:=kM.fit,val:=fun i=>.tuple ⟨[(nN i.1.list i.2.list).1.v,.int .i64 (nN i.1.list i.2.list).2]⟩,new:=fun _=>none }
def mG:ax:={ ι:=PL × XV,args:=fun i=>[i.1.val,i.2.v],ae:=fun i=>i.1.ae,pre:=fun i=>i.1.fit∧i.2.1.sz 2048∧i.2.2.sz 2048,val:=fun i=>.tuple ⟨[(ik i.1.list i.2).1.1.v,(ik i.1.list i.2).1.2.v,.bool (ik i.1.list i.2).2.1,.int .i64 (ik i.1.list i.2).2.2]⟩,new:=fun _=>none }
def s7 (a b p:PV):Bool:=decide (p≠a∧p≠b∧aW (aB a.p b.p p.p) 0≤0)
def sP:ax:={ ι:=x0,args:=fun i=>[i.2.2.v,.pointer (some ⟨0,0,none⟩),.pointer (some ⟨1,0,none⟩)],ae:=fun i=>[.flat false 1 6 (fun _=>i.1.cells),.flat false 1 6 (fun _=>i.2.1.cells)],pre:=fun i=>i.1.sz 2048∧i.2.1.sz 2048∧i.2.2.sz 2048,val:=fun i=>.bool (s7 i.1 i.2.1 i.2.2),new:=fun _=>none }
def uX (L:List PV) (i:Nat):Prop:=∀ p∈L.take i,p.canon
theorem K4 (L:List PV):uX L 0:=fun p hp=>by simp at hp
theorem LI {L:List PV} {i:Nat} {p:PV} (h:uX L i) (hp:L[i]?=some p) (hc:p.canon):uX L (i+1):=fun q hq=>by
 rw [List.take_add_one,hp] at hq;simp only [Option.toList_some,List.mem_append,List.mem_singleton] at hq;rcases hq with hq | rfl
 ·exact h q hq
 ·exact hc
theorem MA {L:List PV} (h:uX L L.length):fa L=false:=by
 cases e:fa L
 ·rfl
 ·obtain ⟨p,hp,hg⟩:=List.any_eq_true.1 e;rw [uX,List.take_length] at h;exact absurd (h p hp) (of_decide_eq_true hg)
theorem pY {L:List PV} {n j:Nat} (hn:n=L.length) (h:j < n):∃ a b:PV,bF L j=a.cells∧bF L (aZ n j)=b.cells∧(a∈L∧b∈L)∧(bf (aG L))[j]?=some (a.p,b.p)∧aZ n j < n∧a=gg L j∧b=gg L (aZ n j):=by
 have hl:=cJ h;refine ⟨gg L j,gg L (aZ n j),ni (by omega),ni (by omega),⟨lO (by omega),lO (by omega)⟩,?_,hl,rfl,rfl⟩
 rw [jC (by omega),jC (by omega)]
 exact oV (gN (by rw [cE]; omega)) (by rw [cE,← hn]; exact gN (by rw [cE]; show aZ n j < _; omega))
theorem MB {α β:Type} {f:β→α→β} {l:List α} {z:β} {j:Nat} {e:α} (h:l[j]?=some e):(l.take (j+1)).foldl f z=f ((l.take j).foldl f z) e:=by
 rw [List.take_add_one,h,List.foldl_append]; rfl
theorem TX (L:List PV):(bf (aG L)).take L.length=bf (aG L):=by
 rw [← cE L,← kP (aG L),List.take_length]
def uH (Q:List Q2) (p:Q2) (j:Nat):Int:=((bf Q).take j).foldl (IB p) 1
theorem SQ {Q:List Q2} {p a b:Q2} {j:Nat} (h:(bf Q)[j]?=some (a,b)):uH Q p (j+1)=if aW (aB a b p) 0 < uH Q p j then aW (aB a b p) 0 else uH Q p j:=by
 unfold uH;rw [MB h];simp only [IB]
theorem TY {L:List PV} {p:Q2}:uH (aG L) p L.length=HP (aG L) p:=by unfold uH; rw [TX]; rfl
theorem Ci {L:List PV} (h:L.length < 3∨64 < L.length):bt L=4:=if_pos h
theorem N4 {L:List PV} (h:¬ (L.length < 3∨64 < L.length)) (J:fa L=true):bt L=1:=by unfold bt; rw [if_neg h,if_pos J]
theorem N5 {L:List PV} (h:¬ (L.length < 3∨64 < L.length)) (J:fa L=false) (h3:¬ lW (aG L)):bt L=8:=by unfold bt; rw [if_neg h,if_neg (by rw [J]; decide),if_neg (fun e=>h3 (BW.1 e))]
theorem GO {L:List PV} (h:¬ (L.length < 3∨64 < L.length)) (J:fa L=false) (h3:lW (aG L)) (h4:¬ Ring (aG L)):bt L=15:=by
 unfold bt;rw [if_neg h,if_neg (by rw [J]; decide),if_pos (BW.2 h3),if_neg (fun e=>h4 ((FF (by rw [cE]; omega) h3).1 e))]
theorem Nj {L:List PV} (h:¬ (L.length < 3∨64 < L.length)) (J:fa L=false) (h3:lW (aG L)) (h4:Ring (aG L)):bt L=0:=by
 unfold bt;rw [if_neg h,if_neg (by rw [J]; decide),if_pos (BW.2 h3),if_pos ((FF (by rw [cE]; omega) h3).2 h4)]
theorem BG {L:List PV} (h:fa L=false) {p:PV} (hp:p∈L):p=cA p.p:=by
 have hc:p.canon:=Decidable.byContradiction fun e=>by
  have:fa L=true:=List.any_eq_true.2 ⟨p,hp,decide_eq_true e⟩;rw [h] at this; cases this
 exact Prod.ext hc.1 hc.2
def xC (Q:List Q2) (i:Nat):Prop:=∀ k,0 < k→k≤i→iY (aF Q 0) (aF Q k)
theorem K5 (Q:List Q2):xC Q 0:=fun k h0 h=>by omega
theorem LJ {Q:List Q2} {i:Nat} (h:xC Q i) (J:iY (aF Q 0) (aF Q (i+1))):xC Q (i+1):=fun k h0 hk=>by
 rcases Nat.lt_or_eq_of_le hk with e | e
 ·exact h k h0 (by omega)
 ·rw [e]; exact J
theorem MC {Q:List Q2} {i:Nat} (h:xC Q i) (hi:i+1=Q.length):lW Q:=fun k h0 hk=>h k h0 (by omega)
theorem OM {a b:Q2}:iY a b↔0 < dV b a:=by
 rw [← yW];have h1:=LB a b;have J:=LB b a;have h3:=TN (p:=a) (q:=b);have h4:=ur (a:=a) (b:=b);have h5:=ur (a:=b) (b:=a);have h6:dV a b < 0↔iY a b:=yW;have h7:dV b a < 0↔iY b a:=yW;have h8:¬ (iY a b∧iY b a):=fun ⟨x,y⟩=>by unfold iY at x y; grind
 constructor
 ·intro h;have:¬ dV b a < 0:=fun e=>h8 ⟨h6.1 h,h7.1 e⟩
  omega
 ·intro h;refine Decidable.byContradiction fun hc=>?_
  have h9:iK b a:=h5.2 hc;have Jw:iK a b:=h4.2 (by omega)
  have:a=b:=Nc Jw h9;have:=h3.2 (n7.2 this);omega
theorem aam {L:List PV} {j:Nat} {a b:PV} (h:j < L.length) (ha:a=gg L j) (hb:b=gg L (aZ L.length j)) (J:L.any (s7 a b)=false):¬ zh (aG L) j:=by
 rintro ⟨q,hq,h3,h4,h5⟩
 obtain ⟨p,hp,rfl⟩:=List.mem_map.1 hq;rw [cE] at h4 h5;rw [← jC h,← ha] at h3 h5;rw [← jC (cJ h),← hb] at h4 h5;have:L.any (s7 a b)=true:=List.any_eq_true.2 ⟨p,hp,decide_eq_true ⟨fun e=>h3 (by rw [e]),fun e=>h4 (by rw [e]),Int.not_lt.1 fun e=>Rat.not_lt.2 h5 (rV.1 e)⟩⟩
 rw [J] at this; cases this
theorem XE {L:List PV} {j:Nat} {a b p:PV} (hc:fa L=false) (h:j < L.length) (ha:a=gg L j) (hb:b=gg L (aZ L.length j)) (hp:p∈L) (J:s7 a b p=true):zh (aG L) j:=by
 obtain ⟨h3,h4,h5⟩:=of_decide_eq_true J;have ca:=BG hc (p:=a) (by rw [ha]; exact lO h)
 have cb:=BG hc (p:=b) (by rw [hb]; exact lO (cJ h))
 have cp:=BG hc hp;refine ⟨p.p,List.mem_map_of_mem hp,?_,?_,?_⟩
 ·rw [← jC h,← ha]; exact fun e=>h3 (by rw [cp,ca,e])
 ·rw [cE,← jC (cJ h),← hb]; exact fun e=>h4 (by rw [cp,cb,e])
 ·rw [cE,← jC h,← ha,← jC (cJ h),← hb]; exact Rat.not_lt.1 fun e=>by have:=rV.2 e; omega
theorem IC {p q:PV} (h:true=fa [p,q]):p.canon→q.canon→False:=fun h1 J=>by
 unfold fa at h;simp [h1,J] at h
theorem HQ {p q:PV} (h:false=fa [p,q]):p.canon∧q.canon:=by
 unfold fa at h;simp at h;exact h
def vm:bG:={ ι:=x0,args:=fun i=>[i.1.v,i.2.1.v,i.2.2.v],pre:=Dr,val:=fun i=>.bool (decide (i.2.1≠i.2.2)) }
def vn:bG:={ ι:=x0,args:=fun i=>[i.1.v,i.2.1.v,i.2.2.v],pre:=Dr,val:=fun i=>.bool (decide (aW (aB i.1.p i.2.1.p i.2.2.p) 0≠0)) }
def sQ (b:Bool) (Q:List Q2):List Q2:=match b with
 | false=>gC Q
 | true=>js Q
def ky (f g:FuncId):ax:={ ι:=QL × Bool,args:=fun i=>[i.1.val,.func (.func (match i.2 with | false=>f | true=>g)) #[] #[]],ae:=fun i=>i.1.ae,pre:=fun i=>i.1.list.length≤549755813888∧∀ v∈i.1.list,Q2.sz 262144 v,val:=fun i=>dw i.1.ae.length (sQ i.2 i.1.list).length,new:=fun i=>bW (sQ i.2 i.1.list) }
theorem yK {R:List Q2} {B:ai} (h:bW R=some B):B.jd=true:=by
 unfold bW at h
 split at h
 ·cases h
 ·cases h; rfl
def qL (Q:List Q2) (j:Nat):List Q2:=((bf Q).take j).flatMap kX
def sR (Q:List Q2) (j:Nat):List Q2:=(List.range j).flatMap (kY Q)
theorem TZ {Q:List Q2} {j:Nat} {a b:PV} (h:j < Q.length) (ha:a=cA (aF Q j)) (hb:b=cA (aF Q (aZ Q.length j))):qL Q (j+1)=qL Q j++if a≠b then [aF Q j] else []:=by
 unfold qL;rw [BF (oV (gN h) (gN (cJ h)))]
 congr 1
 show (if dV (aF Q j) (aF Q (aZ Q.length j))≠0 then [aF Q j] else [])=_
 by_cases e:aF Q j=aF Q (aZ Q.length j)
 ·rw [if_neg (fun h=>h (n7.2 e)),if_neg (fun h=>h (by rw [ha,hb,e]))]
 ·rw [if_pos (fun h=>e (n7.1 h)),if_pos (fun h=>e ((Xy ha hb).1 h))]
theorem T0 {Q:List Q2} {j:Nat} {a b c:Q2} (ha:a=aF Q (dZ Q.length j)) (hb:b=aF Q j) (hc:c=aF Q (aZ Q.length j)):sR Q (j+1)=sR Q j++if aW (aB a b c) 0≠0 then [b] else []:=by
 unfold sR;rw [List.range_succ,List.flatMap_append,List.flatMap_singleton,Nf ha hb hc rfl]
theorem MD (Q:List Q2):qL Q Q.length=gC Q:=by unfold qL gC; rw [← kP Q,List.take_length]
theorem Wu (Q:List Q2) (j:Nat):(qL Q j).length≤Q.length:=N1 Q j
theorem Wv (Q:List Q2) (j:Nat):(sR Q j).length≤j:=GN Q j
theorem Nk {L:List Q2} {n j:Nat} {a b d:PV} (hn:n=L.length) (h:j < n) (ha:a.p=aF L (dZ n j)) (hb:b=cA (aF L j)) (hd:d=cA (aF L (aZ n j))):∃ z:Bool,vm.val (a,b,d)=.bool z∧qL L (j+1)=qL L j++if z=true then [aF L j] else []:=by
 refine ⟨decide (b≠d),rfl,?_⟩;rw [TZ (a:=b) (b:=d) (by omega) hb (by rw [← hn]; exact hd)]
 by_cases e:b=d
 ·rw [if_neg (fun h=>h e),if_neg (by rw [decide_eq_false (fun h=>h e)]; decide)]
 ·rw [if_pos e,if_pos (decide_eq_true e)]
theorem Nl {L:List Q2} {n j:Nat} {a b d:PV} (hn:n=L.length) (h:j < n) (ha:a.p=aF L (dZ n j)) (hb:b=cA (aF L j)) (hd:d=cA (aF L (aZ n j))):∃ z:Bool,vn.val (a,b,d)=.bool z∧sR L (j+1)=sR L j++if z=true then [aF L j] else []:=by
 have eb:b.p=aF L j:=by rw [hb,gF]
 have ed:d.p=aF L (aZ n j):=by rw [hd,gF]
 refine ⟨decide (aW (aB a.p b.p d.p) 0≠0),rfl,?_⟩;rw [T0 (a:=a.p) (b:=b.p) (c:=d.p) (by rw [← hn]; exact ha) eb (by rw [← hn]; exact ed),eb]
 by_cases e:aW (aB a.p (aF L j) d.p) 0=0
 ·rw [if_neg (fun h=>h e),if_neg (by rw [decide_eq_false (fun h=>h e)]; decide)]
 ·rw [if_pos e,if_pos (decide_eq_true e)]
theorem ME (Q:List Q2):sR Q Q.length=js Q:=rfl
theorem U8 (Q:List Q2):cV Q=if (sQ true (sQ false Q)).length < 3 then [] else fc (sQ true (sQ false Q)):=rfl
theorem XF {R:List Q2} {n:Nat} (h:R.length=n) (h0:0 < n):bW R=some (.flat true n 6 (aX R)):=by
 unfold bW;rw [h];cases n with
 | zero=>omega
 | succ n=>rfl
theorem XG {k n:Nat} (h0:0 < n):dw k n=.slice (some ⟨k,0,none⟩) n ao:=by
 cases n with
 | zero=>omega
 | succ n=>rfl
def ID (f:FuncId):ax:={ ι:=QL × kf,args:=fun i=>[.func (.func f) #[] #[.pointer (some ⟨i.1.ae.length,0,none⟩),.pointer (some ⟨i.1.ae.length+1,0,none⟩),.pointer (some ⟨i.1.ae.length+2,0,none⟩)]],ae:=fun i=>i.1.ae++[.aR false 1 [[i.1.val]],.aR false 6 [i.2.1.cells], .aR false 6 [i.2.2.cells]],pre:=fun i=>i.1.list.length≤1073741824∧(∀ v∈i.1.list,Q2.sz 2048 v)∧i.2.1.sz 2048∧i.2.2.sz 2048,val:=fun i=>dw (i.1.ae.length+3) (dg (c8 i.2.1.p i.2.2.p) i.1.list).length,new:=fun i=>bW (dg (c8 i.2.1.p i.2.2.p) i.1.list) }
theorem xD {a b p:Q2} {k l m:Nat} (ha:Q2.sz k a) (hb:Q2.sz l b) (hp:Q2.sz m p):QB (aB a b p) (l+k+1+(m+k+1)+(l+k+1+(m+k+1))+1):=wI (nw hb ha) (nw hp ha)
theorem MF {m:Q3} {L:List Q2} {j:Nat} {a b w:PV} {O:List Q2} {x y:Rat} (eH:(bf L)[j]?=some (a.p,b.p)) (hO:O=((bf L).take j).flatMap (nM m)) (hx:x=bg m a.p) (hy:y=bg m b.p) (hw:w.p=atR a.p b.p (x / (x - y))) :
  ((bf L).take (j+1)).flatMap (nM m)=O++((if aW x 0 ≥ 0 then [a.p] else [])++if aW x 0*aW y 0 < 0 then [w.p] else []):=by
 rw [BF eH,← hO,nM];subst hx; subst hy
 congr 1
 unfold mF gV jf;rw [hw]
theorem Nm (m:Q3) (L:List Q2):((bf L).take L.length).flatMap (nM m)=dg m L:=by rw [NZ,← kP L,List.take_length]
theorem XH (m:Q3) (L:List Q2) (j:Nat):(((bf L).take j).flatMap (nM m)).length≤2*L.length:=by
 have:=FE m ((bf L).take j);rw [List.length_take,kP] at this;omega
theorem XI {L:List PV} (h:fa L=false):aQ (aG L)=L:=by
 unfold aQ aG;rw [List.map_map];refine (List.map_congr_left (fun p hp=>?_)).trans (List.map_id L)
 exact (BG h hp).symm
theorem Ww {L:List PV} (h:bt L=0):fa L=false:=by
 cases e:fa L
 ·rfl
 ·obtain ⟨p,hp,hc⟩:=List.any_eq_true.1 e;exact absurd ((nj h).2.1 p hp) (of_decide_eq_true hc)
theorem wK {L:List PV} (h:bt L=0):aX (aG L)=bF L:=by unfold aX; rw [XI (Ww h)]
theorem xj {L:List PV} {a b:PV} (h:¬ (bt L=0∧a.canon∧b.canon)):bP L a b=([],1):=if_neg h
theorem ON {L:List PV} {a b:PV} (h:bt L=0∧a.canon∧b.canon) (J:a=b):bP L a b=([],12):=by unfold bP; rw [if_pos h,if_pos J]
theorem N6 {L:List PV} {a b:PV} {C R:List Q2} (h:bt L=0∧a.canon∧b.canon) (J:a≠b) (hC:C=dg (c8 a.p b.p) (aG L)) (hR:R=cV C):bP L a b=mR R:=by unfold bP; rw [if_pos h,if_neg J,← hC,← hR]
theorem yX {R:List Q2} (h:R.length=0):mR R=([],11):=if_pos h
theorem Cj {R:List Q2} (h:64 < R.length):mR R=([],4):=by unfold mR; rw [if_neg (by omega),if_pos h]
theorem zi {R:List Q2} (h:¬ R.length=0) (J:¬ 64 < R.length):mR R=(R,0):=by unfold mR; rw [if_neg h,if_neg J]
theorem XJ {k:Nat} {m:Q3} {P:List Q2} (sm:Q3.sz k m) (hP:∀ v∈P,Q2.sz 2048 v) (hk:k≤12291):∀ v∈dg m P,Q2.sz 262144 v:=by
 intro v hv;rcases Xr hv with ⟨h1,_⟩ | ⟨e,he,hx⟩
 ·exact Q2.mono (hP v h1) (by decide)
 ·have hx:=yh hx;rw [hx.2.1];have h1:=hP _ (oU he).1;have J:=hP _ (oU he).2;have s1:=CI sm h1;have s2:=CI sm J;have:=qI h1 J (s1.div (s1.sub s2) (by omega))
  exact Q2.mono this (by omega)
theorem yL {P:List Q2} {a b:Q2} (hl:P.length≤1073741824) (hP:∀ v∈P,Q2.sz 2048 v) (ha:Q2.sz 2048 a) (hb:Q2.sz 2048 b):(dg (c8 a b) P).length≤549755813888∧∀ v∈dg (c8 a b) P,Q2.sz 262144 v :=
 ⟨by have:=Wl (c8 a b) P; omega,XJ (k:=12291) (Q3.mono (Hi ha hb) (by decide)) hP (Nat.le_refl _)⟩
def aeo (v:Value) (q:Nat):Nat→Value
 | 0=>v
 | _+1=>dw 5 q
def aep (F:Nat→List Value) (q:Nat):Nat→aA
 | 0=>[]
 | _+1=>zT 6 F q
theorem qM {A B:List PV} (h:¬ (bt A=0∧bt B=0)):bH A B=([],1):=if_neg h
theorem OO {A B:List PV} {R:List Q2} (h:bt A=0∧bt B=0) (hR:R=fY (aG A) (aG B) B.length):bH A B=mR R:=by
 unfold bH;rw [if_pos h,hR,← cE B,Mx]
theorem yw {P Q C R:List Q2} {j:Nat} {a b:Q2} (eH:(bf Q)[j]?=some (a,b)) (hC:C=dg (c8 a b) (fY P Q j)) (hR:R=cV C):R=fY P Q (j+1):=by
 rw [TR eH,hR,hC]; rfl
def qY (s:Bool):bG:={ ι:=Int,args:=fun z=>[.int .i64 z],pre:=fun _=>True,val:=fun z=>.bool (rC s z) }
abbrev SI:=((List Q2 × Nat) × (List Q2 × Nat)) × FuncId × Bool
def gZ (o:Option (Q2 × Q2)):XV × Bool:=match o with
 | some e=>(Ra e,true)
 | none=>(nG,false)
def SI.ok (f1 f2 f3:FuncId) (i:SI):Prop:=(i.2=(f1,true)∨i.2=(f2,false)∨i.2=(f3,true))∧(i.1.1.1.length≤1073741824∧∀ v∈i.1.1.1,Q2.sz 2048 v)∧i.1.2.1.length≤1073741824∧∀ v∈i.1.2.1,Q2.sz 2048 v
def xP (f1 f2 f3:FuncId) (V:Bool→List Q2→List Q2→Option (Q2 × Q2)):ax:={ ι:=SI,args:=fun i=>[.slice (some ⟨0,0,none⟩) i.1.1.1.length i.1.1.2,.slice (some ⟨1,0,none⟩) i.1.2.1.length i.1.2.2,.func (.func i.2.1) #[] #[]],ae:=fun i=>[.flat false i.1.1.1.length 6 (aX i.1.1.1),.flat false i.1.2.1.length 6 (aX i.1.2.1)],pre:=SI.ok f1 f2 f3,val:=fun i=>.tuple ⟨[(gZ (V i.2.2 i.1.1.1 i.1.2.1)).1.v,.bool (gZ (V i.2.2 i.1.1.1 i.1.2.1)).2]⟩,new:=fun _=>none }
def nO (s:Bool) (B:List Q2) (e:Q2 × Q2):Bool:=B.all fun x=>rC s (aW (aB e.1 e.2 x) 0)
def s8 (s:Bool) (a b x:Q2):Bool:=!rC s (aW (aB a b x) 0)
theorem XL {s:Bool} {B:List Q2} {a b:Q2} (h:B.any (s8 s a b)=false):nO s B (a,b)=true:=by
 unfold nO;rw [List.all_eq_true];intro x hx;cases e:rC s (aW (aB a b x) 0)
 ·have:B.any (s8 s a b)=true:=List.any_eq_true.2 ⟨x,hx,by unfold s8; rw [e]; rfl⟩
  rw [h] at this; cases this
 ·rfl
theorem GP {s:Bool} {B:List Q2} {a b x:Q2} (hx:x∈B) (h:s8 s a b x=true):nO s B (a,b)=false:=by
 unfold nO;cases e:B.all fun x=>rC s (aW (aB (a,b).1 (a,b).2 x) 0)
 ·rfl
 ·have:=List.all_eq_true.1 e x hx;unfold s8 at h;rw [show rC s (aW (aB a b x) 0)=true from this] at h
  cases h
theorem Wx {s:Bool} {A B:List Q2} {j:Nat} {e:Q2 × Q2} (h:ob (nO s B) (bf A) j) (he:(bf A)[j]?=some e) (J:nO s B e=true):iG s A B=some e:=by
 unfold iG;rw [show (fun e:Q2 × Q2=>B.all fun x=>rC s (aW (aB e.1 e.2 x) 0))=nO s B from rfl]
 have hj:=(List.getElem?_eq_some_iff.1 he).1;rw [← List.take_append_drop j (bf A),List.find?_append,List.find?_eq_none.2,List.drop_eq_getElem_cons hj]
 ·rw [List.find?_cons,(List.getElem?_eq_some_iff.1 he).2,J]; rfl
 ·intro x hx hc;have:((bf A).take j).any (nO s B)=true:=List.any_eq_true.2 ⟨x,hx,hc⟩;rw [show ((bf A).take j).any (nO s B)=false from h] at this
  cases this
theorem Wy {s:Bool} {A B:List Q2} {n:Nat} (hn:n=A.length) (h:ob (nO s B) (bf A) n):iG s A B=none:=by
 unfold iG;rw [List.find?_eq_none];intro x hx hc;rw [hn,← kP A] at h;have:=E7 h;have J:(bf A).any (nO s B)=true:=List.any_eq_true.2 ⟨x,hx,hc⟩;rw [this] at J;cases J
theorem XM {s:Bool} {A B:List Q2} {x:XV} (h:gZ (iG s A B)=(x,true)):gZ (kC s A B)=(x,true):=by
 unfold kC;cases e:iG s A B with
 | none=>rw [e] at h; cases h
 | some y=>rw [e] at h; exact h
theorem XN {s:Bool} {A B:List Q2} {x:XV} (h:gZ (iG s A B)=(x,false)):gZ (kC s A B)=gZ (iG s B A):=by
 unfold kC;cases e:iG s A B with
 | none=>rfl
 | some y=>rw [e] at h; cases h
theorem CL {A B:List PV} (h:¬ (bt A=0∧bt B=0)):nN A B=(nG,1):=if_neg h
theorem XO {A B:List PV} {x:XV} {z:Bool} (h:bt A=0∧bt B=0) (J:gZ (kC true (aG A) (aG B))=(x,z)):nN A B=if z=true then (x,0) else (nG,6):=by
 unfold nN;rw [if_pos h];cases e:kC true (aG A) (aG B) with
 | none=>rw [e] at J; cases J; rfl
 | some y=>rw [e] at J; cases J; rfl
def s9:bG:={ ι:=PV,args:=fun i=>[i.v],pre:=fun _=>True,val:=fun i=>.bool (decide (¬ i.sz 12)) }
def gW (L:List PV):Bool:=decide ((10 < L.length∧L.length < 63)∨66 < L.length) || uF 12 L
def cf:ax:={ ι:=PL,args:=fun i=>[i.val],ae:=PL.ae,pre:=fun i=>i.list.length≤9223372036854775807,val:=fun i=>.bool (gW i.list),new:=fun _=>none }
theorem LK {L:List PV} (h:(10 < L.length∧L.length < 63)∨66 < L.length):gW L=true:=by unfold gW; rw [decide_eq_true h]; rfl
theorem T1 {L:List PV} (h:¬ ((10 < L.length∧L.length < 63)∨66 < L.length)):gW L=uF 12 L:=by unfold gW; rw [decide_eq_false h]; rfl
theorem U9 {L:List PV} (h:gW L=false):(L.length≤10∨(63≤L.length∧L.length≤66))∧∀ p∈L,p.sz 12:=by
 unfold gW at h;rw [Bool.or_eq_false_iff] at h;have h1:=of_decide_eq_false h.1;exact ⟨by omega,Sh h.2⟩
def g9:ax:={ ι:=kM,args:=fun i=>[i.1.val,i.2.sO i.1.ae.length],ae:=fun i=>i.1.ae++i.2.ae,pre:=kM.fit,val:=fun i=>.bool (decide (bt i.1.list=0∧bt i.2.list=0)),new:=fun _=>none }
theorem Ck {n1 n2:Bool} {a1 b1 a2 b2:ByteArray} (h:12 < a1.size∨12 < b1.size∨12 < a2.size∨12 < b2.size):Value.bool true=s9.val ((n1,a1,b1),(n2,a2,b2)):=by
 have hn:¬ PV.sz 12 ((n1,a1,b1),(n2,a2,b2)):=fun e=>by
  have e:(a1.size≤12∧b1.size≤12)∧a2.size≤12∧b2.size≤12:=e;omega
 exact congrArg Value.bool (decide_eq_true hn).symm
theorem aan {n1 n2:Bool} {a1 b1 a2 b2:ByteArray} (h:¬ (12 < a1.size∨12 < b1.size∨12 < a2.size∨12 < b2.size)):Value.bool false=s9.val ((n1,a1,b1),(n2,a2,b2)):=by
 refine (congrArg Value.bool (decide_eq_false fun e=>e ?_)).symm
 show (a1.size≤12∧b1.size≤12)∧a2.size≤12∧b2.size≤12
 omega
open Go
def zW (b:RV):RV:=(decide (b.n < 0),nb b.d,nb b.n.natAbs)
theorem acK (b:RV) (h:b.n≠0):(zW b).q=b.q⁻¹:=by
 have e1:(zW b).n=if b.n < 0 then -(b.d:Int) else b.d:=by
  show ba (decide (b.n < 0)) (ab (nb b.d))=_
  rw [gO];unfold ba;by_cases hn:b.n < 0 <;> simp [hn]
 have e2:(zW b).d=b.n.natAbs:=by
  show (if ab (nb b.n.natAbs)=0 then 1 else ab (nb b.n.natAbs))=_
  rw [gO,if_neg (by omega)]
 have hd:=natCast_pos b.jz;rw [ue,ue b,e1,e2];have bQ:(b.n:Rat)≠0:=fun e=>h (by exact_mod_cast e)
 have hinv:((b.n:Rat) / ((b.d:Nat):Rat))⁻¹=((b.d:Nat):Rat) / (b.n:Rat):=by grind
 rw [hinv];by_cases hn:b.n < 0
 ·rw [if_pos hn];have:((b.n.natAbs:Nat):Rat)=-(b.n:Rat):=by
   rw [← Rat.intCast_natCast,show ((b.n.natAbs:Nat):Int)=-b.n by omega,Rat.intCast_neg]
  rw [this,Rat.intCast_neg,Rat.intCast_natCast];grind
 ·rw [if_neg hn];have:((b.n.natAbs:Nat):Rat)=(b.n:Rat):=by
   rw [← Rat.intCast_natCast,show ((b.n.natAbs:Nat):Int)=b.n by omega]
  rw [this,Rat.intCast_natCast]
theorem aao {b:RV} (h:b.ok):(zW b).ok:=by
 refine ⟨?_,?_⟩
 ·show (nb b.d).size≤_
  rw [gx];unfold RV.d
  split
  ·exact Nat.le_trans (gR (show 1 < C ^ 1 by decide)) (by decide)
  ·exact Nat.le_trans (iN _) h.2
 ·show (nb b.n.natAbs).size≤_
  rw [gx];unfold RV.n;rw [rT];exact Nat.le_trans (iN _) h.1
theorem aeq:bN 0=dc.v:=by
 show Value.agg ⟨[.bool false,.string (nb 0),.string (fI 1)]⟩=_
 rw [oX]; rfl
open Go
def zX (a b:Q2) (st:Option (Rat × Rat)) (e:Q2 × Q2):Option (Rat × Rat) :=
 match st with
 | none=>none
 | some (lo,hi) =>
  if aB e.1 e.2 a≤0∧aB e.1 e.2 b≤0 then none
  else if 0 < aB e.1 e.2 a∧0 < aB e.1 e.2 b then some (lo,hi)
  else if 0 < aB e.1 e.2 b then some (mf lo (aB e.1 e.2 a / (aB e.1 e.2 a - aB e.1 e.2 b)),hi)
  else some (lo,mg hi (aB e.1 e.2 a / (aB e.1 e.2 a - aB e.1 e.2 b)))
def ta (st:Option (Rat × Rat)):Option (Rat × Rat):=match st with
 | none=>none
 | some (lo,hi)=>if hi≤lo then none else some (lo,hi)
theorem XP (Q:List Q2) (a b:Q2):qW Q a b=ta ((bf Q).foldl (xO a b) (some (0,1))):=rfl
theorem max_le (x y:Rat):x≤mf x y∧y≤mf x y:=by unfold mf; split <;> grind
theorem min_le (x y:Rat):mg x y≤x∧mg x y≤y:=by unfold mg; split <;> grind
theorem max_eq {x y:Rat} (h:y≤x):mf x y=x:=by unfold mf; rw [if_neg (by grind)]
theorem min_eq {x y:Rat} (h:x≤y):mg x y=x:=by unfold mg; rw [if_neg (by grind)]
theorem Gd {a b:Q2}:∀ l:List (Q2 × Q2),l.foldl (xO a b) none=none
 | []=>rfl
 | e::l=>by rw [List.foldl_cons]; exact Gd l
theorem yM {a b:Q2}:∀ l:List (Q2 × Q2),l.foldl (zX a b) none=none
 | []=>rfl
 | e::l=>by rw [List.foldl_cons]; exact yM l
theorem MG (a b:Q2) (lo hi:Rat) (e:Q2 × Q2):xO a b (some (lo,hi)) e=if aB e.1 e.2 b - aB e.1 e.2 a=0 then (if aB e.1 e.2 a≤0 then none else some (lo,hi))
  else if 0 < aB e.1 e.2 b - aB e.1 e.2 a then some (mf lo (-aB e.1 e.2 a / (aB e.1 e.2 b - aB e.1 e.2 a)),hi)
  else some (lo,mg hi (-aB e.1 e.2 a / (aB e.1 e.2 b - aB e.1 e.2 a))):=rfl
theorem MH (a b:Q2) (lo hi:Rat) (e:Q2 × Q2):zX a b (some (lo,hi)) e=if aB e.1 e.2 a≤0∧aB e.1 e.2 b≤0 then none
  else if 0 < aB e.1 e.2 a∧0 < aB e.1 e.2 b then some (lo,hi)
  else if 0 < aB e.1 e.2 b then some (mf lo (aB e.1 e.2 a / (aB e.1 e.2 a - aB e.1 e.2 b)),hi)
  else some (lo,mg hi (aB e.1 e.2 a / (aB e.1 e.2 a - aB e.1 e.2 b))):=rfl
theorem Nn {a b:Q2}:∀ (l:List (Q2 × Q2)) (lo hi:Rat),hi≤lo→ta (l.foldl (xO a b) (some (lo,hi)))=none:=by
 intro l
 induction l with
 | nil=>intro lo hi h; unfold ta; simp only [List.foldl_nil]; rw [if_pos h]
 | cons e l ih =>
  intro lo hi h;rw [List.foldl_cons,MG]
  split
  ·split
   ·rw [Gd]; rfl
   ·exact ih _ _ h
  ·split
   ·refine ih _ _ ?_;have:=(max_le lo (-aB e.1 e.2 a / (aB e.1 e.2 b - aB e.1 e.2 a))).1;grind
   ·refine ih _ _ ?_;have:=(min_le hi (-aB e.1 e.2 a / (aB e.1 e.2 b - aB e.1 e.2 a))).1;grind
theorem XQ {x y:Rat} (h:y - x≠0):(-x / (y - x))*(y - x)=-x∧-x / (y - x)=x / (x - y):=by
 refine ⟨by rw [Rat.div_def]; grind,?_⟩
 have J:x - y≠0:=by grind
 have e1:(-x / (y - x))*(y - x)=-x:=by rw [Rat.div_def]; grind
 have e2:(x / (x - y))*(x - y)=x:=by rw [Rat.div_def]; grind
 have:(y - x)*(-x / (y - x) - x / (x - y))=0:=by grind
 have:=(Rat.mul_eq_zero.1 this).resolve_left h;grind
theorem BH {a b k:Rat} (hk:0 < k) (h:a*k≤b*k):a≤b:=by
 by_cases h1:a≤b
 ·exact h1
 ·have:=Rat.mul_pos (show 0 < a - b by grind) hk
  grind
theorem N7 {a b:Q2}:∀ (l:List (Q2 × Q2)) (lo hi:Rat),0≤lo→hi≤1→ta (l.foldl (zX a b) (some (lo,hi)))=ta (l.foldl (xO a b) (some (lo,hi))):=by
 intro l
 induction l with
 | nil=>intro lo hi _ _; rfl
 | cons e l ih =>
  intro lo hi h0 h1;rw [List.foldl_cons,List.foldl_cons,MG,MH];generalize aB e.1 e.2 a=x;generalize aB e.1 e.2 b=y;by_cases hs:y - x=0
  ·rw [if_pos hs];by_cases hx:x≤0
   ·rw [if_pos ⟨hx,by grind⟩,if_pos hx,yM,Gd]
   ·rw [if_neg (fun e=>hx e.1),if_pos ⟨by grind,by grind⟩,if_neg hx]
    exact ih _ _ h0 h1
  ·obtain ⟨ht,te⟩:=XQ hs;rw [if_neg hs,te];rw [te] at ht;generalize x / (x - y)=t at ht;by_cases hp:0 < y - x
   ·rw [if_pos hp];by_cases hy:y≤0
    ·rw [if_pos ⟨by grind,hy⟩,yM,Nn]
     ·rfl
     ·have J:1≤t:=BH hp (by grind)
      have:=(max_le lo t).2;grind
    ·rw [if_neg (fun e=>hy e.2)]
     by_cases hx:0 < x
     ·rw [if_pos ⟨hx,by grind⟩]
      have J:t≤0:=BH hp (by grind)
      rw [max_eq (by grind)]
      exact ih _ _ h0 h1
     ·rw [if_neg (fun e=>hx e.1),if_pos (by grind)]
      exact ih _ _ (by have:=(max_le lo t).1; grind) h1
   ·have hn:0 < x - y:=by grind
    rw [if_neg hp];by_cases hx:x≤0
    ·rw [if_pos ⟨hx,by grind⟩,yM,Nn]
     ·rfl
     ·have J:t≤0:=BH hn (by grind)
      have:=(min_le hi t).2;grind
    ·rw [if_neg (fun e=>hx e.1)]
     by_cases hy:0 < y
     ·rw [if_pos ⟨by grind,hy⟩]
      have J:1≤t:=BH hn (by grind)
      rw [min_eq (by grind)]
      exact ih _ _ h0 h1
     ·rw [if_neg (fun e=>hy e.2),if_neg hy]
      exact ih _ _ h0 (by have:=(min_le hi t).1; grind)
def uY (Q:List Q2) (a b:Q2) (j:Nat):Option (Rat × Rat):=((bf Q).take j).foldl (zX a b) (some (0,1))
theorem T2 {Q:List Q2} {a b p q:Q2} {j:Nat} {lo hi x y:Rat} (h:uY Q a b j=some (lo,hi)) (he:(bf Q)[j]?=some (p,q)) (hx:x=aB p q a) (hy:y=aB p q b) :
  uY Q a b (j+1)=if x≤0∧y≤0 then none else if 0 < x∧0 < y then some (lo,hi) else if 0 < y then some (mf lo (x / (x - y)),hi) else some (lo,mg hi (x / (x - y))):=by
 unfold uY at *;rw [MB he,h,MH];subst hx; subst hy;simp only
theorem T3 {Q:List Q2} {a b:Q2} {j:Nat} (h:uY Q a b j=none):qW Q a b=none:=by
 rw [XP,← N7 _ _ _ (by grind) (by grind)]
 have e:bf Q=(bf Q).take j++(bf Q).drop j:=(List.take_append_drop ..).symm;rw [e,List.foldl_append,show List.foldl (zX a b) (some (0,1)) ((bf Q).take j)=none from h,yM]
 rfl
theorem Va {Q:List Q2} {a b:Q2} {n:Nat} (hn:n=Q.length):ta (uY Q a b n)=qW Q a b:=by
 unfold uY;rw [hn,← kP Q,List.take_length,N7 _ _ _ (by grind) (by grind)]
 rfl
theorem OP {L:List PV} {s:XV} (h:¬ (bt L=0∧s.1.canon∧s.2.canon)):ik L s=((dc,dc),false,1):=if_neg h
theorem N8 {L:List PV} {s:XV} (h:bt L=0∧s.1.canon∧s.2.canon) (J:qW (aG L) s.1.p s.2.p=none):ik L s=((dc,dc),false,0):=by unfold ik; rw [if_pos h,J]
theorem XR {L:List PV} {s:XV} {lo hi:Rat} (h:bt L=0∧s.1.canon∧s.2.canon) (J:qW (aG L) s.1.p s.2.p=some (lo,hi)):ik L s=((RV.of lo,RV.of hi),true,0):=by unfold ik; rw [if_pos h,J]
theorem Wz {lo hi:Rat} (h:hi≤lo):ta (some (lo,hi))=none:=if_pos h
theorem WA {lo hi:Rat} (h:¬ hi≤lo):ta (some (lo,hi))=some (lo,hi):=if_neg h
theorem XT {L:List PV} {p q:PV} {lo hi:RV} (h:bt L=0∧p.canon∧q.canon) (J:qW (aG L) p.p q.p=some (lo.q,hi.q)) (c1:lo=RV.of lo.q) (c2:hi=RV.of hi.q):ik L (p,q)=((lo,hi),true,0):=by
 have:=XR (s:=(p,q)) h J;rw [← c1,← c2] at this;exact this
open Go
theorem Hl {A B:List PV} {z:Bool} (h:decide (bt A=0∧bt B=0)=z):Value.bool (decide (bt A=0∧bt B=0))=.bool z:=by rw [h]
theorem No {B:List PV}:decide (bt []=0∧bt B=0)=false:=decide_eq_false fun e=>by have:=e.1; cases this
theorem WB {B:List PV}:decide (bt B=0∧bt []=0)=false:=decide_eq_false fun e=>by have:=e.2; cases this
open Go
abbrev II:=List (Int × Int)
def iq (x:Int × Int):Q2:=((x.1:Rat),(x.2:Rat))
def bB (l:II):List Q2:=l.map iq
def rD (l:II) (k:Nat):Int × Int:=l.getD k (0,0)
def nI (l:II) (r:Nat):List Value:=[.int .i64 (if r % 2=0 then (rD l (r / 2)).1 else (rD l (r / 2)).2)]
def iC:ax:={ ι:=II,args:=fun i=>[.slice (some ⟨0,0,none⟩) (2*i.length) (2*i.length)],ae:=fun i=>[.flat false (2*i.length) 1 (nI i)],pre:=fun i=>(0 < i.length∧i.length≤1000000)∧∀ x∈i,x.1.natAbs < 256∧x.2.natAbs < 256,val:=fun i=>.slice (some ⟨1,0,none⟩) i.length ao,new:=fun i=>some (.flat true i.length 6 (aX (bB i))) }
theorem Np {l:II} {j:Nat} {x:Int × Int} (h:x=rD l j):nI l (2*j)=[.int .i64 x.1]:=by
 unfold nI;rw [if_pos (by omega),show 2*j / 2=j by omega,h]
theorem Nq {l:II} {j:Nat} {x:Int × Int} (h:x=rD l j):nI l (2*j+1)=[.int .i64 x.2]:=by
 unfold nI;rw [if_neg (by omega),show (2*j+1) / 2=j by omega,h]
theorem N9 {l:II} {j:Nat} (h:j < l.length):rD l j∈l∧l[j]?=some (rD l j):=by
 unfold rD;rw [List.getD_eq_getElem?_getD,List.getElem?_eq_getElem h];exact ⟨List.getElem_mem h,rfl⟩
theorem Nr {l:II} {j:Nat} {x:Int × Int} (h:l[j]?=some x):bB (l.take (j+1))=bB (l.take j)++[iq x]:=by
 unfold bB;rw [List.take_add_one,h,List.map_append]
 rfl
theorem BX (l:II) (rows:List (List Value)) (h:rows=(List.range (2*l.length)).map (nI l)):aq (.flat false (2*l.length) 1 (nI l)) (.aR true 1 rows) :=
 F5 (by rw [h]; simp) (fun r hr=>by
  rw [h,List.getD_eq_getElem?_getD,List.getElem?_map,List.getElem?_range hr]
  rfl) (fun r hr=>rfl)
theorem FG (x:Q2):(cA x).canon:=⟨by show RV.of x.1=RV.of (RV.of x.1).q; rw [RV.fw],by show RV.of x.2=RV.of (RV.of x.2).q; rw [RV.fw]⟩
def dG:II:=[(0,0),(4,0),(4,4),(0,4)]
def jM:II:=[(3,3),(7,3),(3,7)]
def kh:II:=[(4,1),(6,1),(4,3)]
def jN:II:=[(3,3),(4,3),(4,4),(3,4)]
theorem ux (L:List Q2):aG (aQ L)=L:=by
 unfold aQ aG;rw [List.map_map];refine (List.map_congr_left (fun p hp=>?_)).trans (List.map_id L)
 exact gF p
theorem Vb {L:List Q2}:∀ p∈aQ L,p.canon:=fun p hp=>by
 obtain ⟨x,_,rfl⟩:=List.mem_map.1 hp;exact FG x
theorem Hm {l:II} (h1:3≤l.length∧l.length≤64) (J:Dt (bB l)=true) (h3:C7 (bB l)=true):bt (aQ (bB l))=0:=by
 unfold bt;rw [if_neg (by rw [oR]; unfold bB; rw [List.length_map]; omega),if_neg (fun e=>by obtain ⟨p,hp,hc⟩:=List.any_eq_true.1 e; exact of_decide_eq_true hc (Vb p hp)),ux,if_pos J,if_pos h3]
theorem GQ:bt (aQ (bB dG))=0:=Hm (by decide) (by decide +kernel) (by decide +kernel)
theorem XU:bt (aQ (bB jM))=0:=Hm (by decide) (by decide +kernel) (by decide +kernel)
theorem XW:bt (aQ (bB kh))=0:=Hm (by decide) (by decide +kernel) (by decide +kernel)
theorem WC:jY (bB dG) (bB jM)=bB jN:=by decide +kernel
theorem Pj:bH (aQ (bB dG)) (aQ (bB jM))=(bB jN,0):=by
 unfold bH;rw [if_pos ⟨GQ,XU⟩,ux,ux,WC];exact zi (by decide) (by decide)
theorem aap:nN (aQ (bB dG)) (aQ (bB kh))=((cA (iq (4,0)),cA (iq (4,4))),0):=by
 unfold nN;rw [if_pos ⟨GQ,XW⟩,ux,ux,show kC true (bB dG) (bB kh)=some (iq (4,0),iq (4,4)) by decide +kernel]
 rfl
theorem aaq:ik (aQ (bB dG)) (cA (iq (-2,1)),cA (iq (6,1)))=((RV.of (1 / 4),RV.of (3 / 4)),true,0):=by
 unfold ik;rw [if_pos ⟨GQ,FG _,FG _⟩,ux];show (match qW (bB dG) (cA (iq (-2,1))).p (cA (iq (6,1))).p with | some (lo,hi)=>((RV.of lo,RV.of hi),true,(0:Int)) | none=>((dc,dc),false,0))=_
 rw [gF,gF,show qW (bB dG) (iq (-2,1)) (iq (6,1))=some (1 / 4,3 / 4) by decide +kernel]
theorem jZ {A B:List PV} (hA:∀ v∈A,v.sz 12) (hB:∀ v∈B,v.sz 12):qX A B:=fun h1 J=>by
 have a:=nj h1;have b:=nj J;refine XD (S:=sE (aG A)) b.2.2.1 (fun m hm=>Q3.mono (Ni (k:=12) (uu hA (by decide)) m hm) (by decide)) (fun m hm=>Q3.mono (Ni (k:=12) (uu hB (by decide)) m hm) (by decide)) (by rw [My,cE,cE]; omega) (.inr ⟨a.2.2.1,a.2.2.2,Wt a.2.2.1⟩)
theorem HR {l:II} (h:∀ x∈l,x.1.natAbs < 256∧x.2.natAbs < 256):∀ v∈aQ (bB l),v.sz 12:=fun v hv=>by
 obtain ⟨x,hx,rfl⟩:=List.mem_map.1 hv;obtain ⟨y,hy,rfl⟩:=List.mem_map.1 hx;exact sC (vk y.1 y.2 (h y hy).1 (h y hy).2) (by decide)
theorem Qc {L:List PV} (h:∀ v∈L,v.sz 12):∀ v∈L,v.sz 2048:=fun v hv=>PV.aP (h v hv) (by decide)
theorem Hn {l:II} {c:Nat} (h:∀ x∈l,x.1.natAbs < 256∧x.2.natAbs < 256) (hl:l.length≤1000):PL.fit (some (aQ (bB l),c)):=⟨by show (aQ (bB l)).length≤_; rw [oR]; unfold bB; rw [List.length_map]; omega,Qc (HR h)⟩
theorem Ns {c:Nat}:cF.val (some (aQ (bB dG),c),some (aQ (bB jM),c))=.tuple ⟨[.slice (some ⟨2,0,none⟩) 4 ao,.int .i64 0]⟩∧cF.new (some (aQ (bB dG),c),some (aQ (bB jM),c))=some (.flat true 4 6 (aX (bB jN))):=by
 refine ⟨?_,?_⟩
 ·show Value.tuple ⟨[dw 2 (bH (aQ (bB dG)) (aQ (bB jM))).1.length,.int .i64 (bH (aQ (bB dG)) (aQ (bB jM))).2]⟩=_
  rw [Pj]; rfl
 ·show bW (bH (aQ (bB dG)) (aQ (bB jM))).1=_
  rw [Pj]; rfl
theorem XX {c:Nat} {a b:PV} (ha:a=cA (iq (4,0))) (hb:b=cA (iq (4,4))):mS.val (some (aQ (bB dG),c),some (aQ (bB kh),c))=.tuple ⟨[XV.v (a,b),.int .i64 0]⟩:=by
 show Value.tuple ⟨[(nN (aQ (bB dG)) (aQ (bB kh))).1.v,.int .i64 (nN (aQ (bB dG)) (aQ (bB kh))).2]⟩=_
 rw [aap,ha,hb]
theorem XY {c:Nat} {a b:PV} {x y:RV} (ha:a=cA (iq (-2,1))) (hb:b=cA (iq (6,1))) (hx:x=RV.of (1 / 4)) (hy:y=RV.of (3 / 4)):mG.val (some (aQ (bB dG),c),(a,b))=.tuple ⟨[x.v,y.v,.bool true,.int .i64 0]⟩:=by
 show Value.tuple ⟨[(ik (aQ (bB dG)) (a,b)).1.1.v,(ik (aQ (bB dG)) (a,b)).1.2.v,.bool (ik (aQ (bB dG)) (a,b)).2.1,.int .i64 (ik (aQ (bB dG)) (a,b)).2.2]⟩=_
 rw [ha,hb,aaq,hx,hy]
theorem eh {L:List PV} (h:gW L=false):L.length≤66∧∀ p∈L,p.sz 12:=by
 have:=U9 h;exact ⟨by omega,this.2⟩
theorem cT {L:List PV} (h:gW L=false):L.length≤1099511627776∧∀ v∈L,v.sz 2048:=by
 have:=eh h;exact ⟨by omega,Qc this.2⟩
theorem CM {p q:PV} (h:gW [p,q]=false):p.sz 12∧q.sz 12:=by
 have:=(eh h).2;exact ⟨this p (by simp),this q (by simp)⟩
open Go
theorem aar (a b:Q2):(pD a b).1.q=c8 a b:=by
 unfold pD;by_cases h:dV a b=0
 ·rw [if_pos h];obtain rfl:=n7.1 h;show (dc.q,dc.q,dc.q)=_
  rw [NV];unfold c8;rw [show a.2 - a.2=0 by grind,show a.1 - a.1=0 by grind,show (0:Rat)*a.1+0*a.2=0 by grind]
 ·rw [if_neg h]; exact OI _
theorem aas {a b:Q2} {l:R3} {e:Int} (h:pD a b=(l,e)):l.q=c8 a b:=by rw [← aar,h]
def g0:ax:={ ι:=(List Q2 × Nat) × kf,args:=fun i=>[.slice (some ⟨0,0,none⟩) i.1.1.length i.1.2,i.2.1.v,i.2.2.v],ae:=fun i=>[.flat false i.1.1.length 6 (aX i.1.1)],pre:=fun i=>(i.1.1.length≤1073741824∧∀ v∈i.1.1,Q2.sz 2048 v)∧i.2.1.sz 2048∧i.2.2.sz 2048,val:=fun i=>.slice (some ⟨1,0,none⟩) (cV (dg (c8 i.2.1.p i.2.2.p) i.1.1)).length ao,new:=fun i=>some (.flat true (cV (dg (c8 i.2.1.p i.2.2.p) i.1.1)).length 6 (aX (cV (dg (c8 i.2.1.p i.2.2.p) i.1.1)))) }
theorem aat {L:List Q2} {k l:Nat} (h:∀ v∈L,Q2.sz k v) (hl:k≤l):∀ v∈aQ L,v.sz l:=fun v hv=>by
 obtain ⟨x,hx,rfl⟩:=List.mem_map.1 hv;exact sC (h x hx) hl
theorem Nt {m:Q3} {L:List Q2}:aG (mQ m (aQ L))=dg m L:=by rw [Wm,ux]
theorem WD {m:Q3} {L:List Q2} {v:PV} (h:v∈mQ m (aQ L)):v=cA v.p:=by
 rcases Wo h with h | h
 ·obtain ⟨x,hx,rfl⟩:=List.mem_map.1 h;rw [gF]
 ·exact h
theorem XZ {m:Q3} {L:List Q2} {k l:Nat} (h:∀ v∈dg m L,Q2.sz k v) (hl:k≤l):∀ v∈mQ m (aQ L),v.sz l:=fun v hv=>by
 rw [WD hv];refine sC (h v.p ?_) hl;rw [← Nt];exact List.mem_map_of_mem hv
def cl:ax:={ ι:=PL × kf,args:=fun i=>[i.1.val,i.2.1.v,i.2.2.v],ae:=fun i=>i.1.ae,pre:=fun i=>i.1.fit∧i.2.1.sz 2048∧i.2.2.sz 2048,val:=fun i=>.tuple ⟨[.slice (some ⟨i.1.ae.length,0,none⟩) (bP i.1.list i.2.1 i.2.2).1.length ao,.int .i64 (bP i.1.list i.2.1 i.2.2).2]⟩,new:=fun i=>some (.flat true (bP i.1.list i.2.1 i.2.2).1.length 6 (aX (bP i.1.list i.2.1 i.2.2).1)) }
def cm:ax:={ ι:=kM,args:=fun i=>[i.1.val,i.2.sO i.1.ae.length],ae:=fun i=>i.1.ae++i.2.ae,pre:=fun i=>kM.fit i∧qX i.1.list i.2.list,val:=fun i=>.tuple ⟨[.slice (some ⟨(i.1.ae++i.2.ae).length,0,none⟩) (bH i.1.list i.2.list).1.length ao,.int .i64 (bH i.1.list i.2.list).2]⟩,new:=fun i=>some (.flat true (bH i.1.list i.2.list).1.length 6 (aX (bH i.1.list i.2.list).1)) }
def kU:ax:={ ι:=(List PV × Nat) × (List PV × Nat),args:=fun i=>[.slice (some ⟨0,0,none⟩) i.1.1.length i.1.2,.slice (some ⟨1,0,none⟩) i.2.1.length i.2.2],ae:=fun i=>[.flat false i.1.1.length 6 (bF i.1.1),.flat false i.2.1.length 6 (bF i.2.1)],pre:=fun i=>((i.1.1.length≤1099511627776∧∀ v∈i.1.1,v.sz 2048)∧i.2.1.length≤1099511627776∧∀ v∈i.2.1,v.sz 2048)∧(bt i.1.1=0∧bt i.2.1=0)∧qX i.1.1 i.2.1,val:=fun i=>.slice (some ⟨2,0,none⟩) (jY (aG i.1.1) (aG i.2.1)).length ao,new:=fun i=>some (.flat true (jY (aG i.1.1) (aG i.2.1)).length 6 (aX (jY (aG i.1.1) (aG i.2.1)))) }
def Qd (v:Value) (q:Nat):Nat→Value
 | 0=>v
 | _+1=>.slice (some ⟨2,0,none⟩) q ao
def aer (F:Nat→List Value) (q:Nat):Nat→aA
 | 0=>[]
 | _+1=>[some (.flat true q 6 F)]
def mH:ax:={ ι:=kM × kf,args:=fun i=>[i.1.1.val,i.1.2.sO i.1.1.ae.length,i.2.1.v,i.2.2.v],ae:=fun i=>i.1.1.ae++i.1.2.ae,pre:=fun i=>i.1.1.list.length*80≤140737488351232∧i.1.2.list.length*80≤140737488351232,val:=fun _=>.bool true,new:=fun _=>none }
theorem C9 {i:PL} {a b:PV} {R:List Q2} {e:Int} (h:(R,e)=bP i.list a b):c6.val (i,(a,b))=.tuple ⟨[dw i.ae.length R.length,.int .i64 e]⟩∧c6.new (i,(a,b))=bW R∧cl.val (i,(a,b))=.tuple ⟨[.slice (some ⟨i.ae.length,0,none⟩) R.length ao,.int .i64 e]⟩∧cl.new (i,(a,b))=some (.flat true R.length 6 (aX R)):=by
 refine ⟨?_,?_,?_,?_⟩
 ·show Value.tuple ⟨[dw i.ae.length (bP i.list a b).1.length,.int .i64 (bP i.list a b).2]⟩=_; rw [← h]
 ·show bW (bP i.list a b).1=_; rw [← h]
 ·show Value.tuple ⟨[.slice (some ⟨i.ae.length,0,none⟩) (bP i.list a b).1.length ao,.int .i64 (bP i.list a b).2]⟩=_; rw [← h]
 ·show some (ai.flat true (bP i.list a b).1.length 6 (aX (bP i.list a b).1))=_; rw [← h]
theorem xE {i k:PL} {R:List Q2} {e:Int} (h:(R,e)=bH i.list k.list):cF.val (i,k)=.tuple ⟨[dw (i.ae++k.ae).length R.length,.int .i64 e]⟩∧cF.new (i,k)=bW R∧cm.val (i,k)=.tuple ⟨[.slice (some ⟨(i.ae++k.ae).length,0,none⟩) R.length ao,.int .i64 e]⟩∧cm.new (i,k)=some (.flat true R.length 6 (aX R)):=by
 refine ⟨?_,?_,?_,?_⟩
 ·show Value.tuple ⟨[dw (i.ae++k.ae).length (bH i.list k.list).1.length,.int .i64 (bH i.list k.list).2]⟩=_; rw [← h]
 ·show bW (bH i.list k.list).1=_; rw [← h]
 ·show Value.tuple ⟨[.slice (some ⟨(i.ae++k.ae).length,0,none⟩) (bH i.list k.list).1.length ao,.int .i64 (bH i.list k.list).2]⟩=_; rw [← h]
 ·show some (ai.flat true (bH i.list k.list).1.length 6 (aX (bH i.list k.list).1))=_; rw [← h]
theorem OQ {a b:PV}:([],1)=bP [] a b:=(xj fun e=>by have:=e.1; cases this).symm
theorem Oa {B:List PV}:([],1)=bH [] B:=(qM fun e=>by have:=e.1; cases this).symm
theorem Ob {A:List PV}:([],1)=bH A []:=(qM fun e=>by have:=e.2; cases this).symm
theorem Od (R:List Q2):(mR R).1.length≤64:=by
 unfold mR
 split
 ·exact Nat.zero_le _
 ·split
  ·exact Nat.zero_le _
  ·show R.length≤64; omega
theorem xk {A:List PV} {a b:PV} {R:List Q2} {e:Int} (h:(R,e)=bP A a b):R.length≤64:=by
 rw [show R=(bP A a b).1 from by rw [← h]]
 unfold bP
 split
 ·split
  ·exact Nat.zero_le _
  ·exact Od _
 ·exact Nat.zero_le _
theorem CN {A B:List PV} {R:List Q2} {e:Int} (h:(R,e)=bH A B):R.length≤64:=by
 rw [show R=(bH A B).1 from by rw [← h]]
 unfold bH
 split
 ·exact Od _
 ·exact Nat.zero_le _
open Go Go.RowKit
section
variable {P:Program} {w:World} {r:Reach} {base:Nat} {t:TypeId} {v:Value}
theorem MI (ht:P.underlying t=some .bool) (h:Cell.okWide P w r base t v):∃ b,v=.bool b:=by
 simp only [Cell.okWide,ht] at h;cases v <;> simp_all [Cell.ok]
theorem Bl (ht:P.underlying t=some .string) (h:Cell.okWide P w r base t v):∃ s,v=.string s:=by
 simp only [Cell.okWide,ht] at h;cases v <;> simp_all [Cell.ok]
theorem T4 {fs:Array Field} (ht:P.underlying t=some (.struct fs)) {ts:List TypeId} (JH:P.cellTypes P.depth t=some ts) (h:Value.okWide P w r base t v) :
  ∃ l:List Value,v=.agg ⟨l⟩∧l.length=P.cellsOf t∧∀ i x,l[i]?=some x→∃ u,ts[i % ts.length]?=some u∧Cell.okWide P w r base u x:=by
 simp only [Value.okWide,ht] at h;obtain ⟨cs,rfl,J,ts',h3,_,h5⟩:=h;rw [JH] at h3;cases h3;exact ⟨cs.toList,rfl,J,fun i x hx=>h5 i x (by simpa using hx)⟩
theorem X0 {fs:Array Field} (ht:P.underlying t=some (.struct fs)) {b s:TypeId} (JH:P.cellTypes P.depth t=some [b,s,s,b,s,s]) (hn:P.cellsOf t=6) (hb:P.underlying b=some .bool) (hs:P.underlying s=some .string)
  (h:Value.okWide P w r base t v):∃ p:PV,v=p.v:=by
 obtain ⟨l,rfl,hl,hc⟩:=T4 ht JH h;rw [hn] at hl
 match l,hl with
 | [x,y,z,x',y',z'],_ =>
  obtain ⟨u,hu,h0⟩:=hc 0 x rfl;obtain ⟨u1,rf,h1⟩:=hc 1 y rfl;obtain ⟨u2,tB,J⟩:=hc 2 z rfl;obtain ⟨u3,hu3,h3⟩:=hc 3 x' rfl;obtain ⟨u4,hu4,h4⟩:=hc 4 y' rfl;obtain ⟨u5,hu5,h5⟩:=hc 5 z' rfl;cases hu; cases rf; cases tB; cases hu3; cases hu4; cases hu5;obtain ⟨b0,rfl⟩:=MI hb h0;obtain ⟨s1,rfl⟩:=Bl hs h1;obtain ⟨s2,rfl⟩:=Bl hs J;obtain ⟨b3,rfl⟩:=MI hb h3;obtain ⟨s4,rfl⟩:=Bl hs h4;obtain ⟨s5,rfl⟩:=Bl hs h5;exact ⟨((b0,s1,s2),(b3,s4,s5)),rfl⟩
end
open Go Go.RowKit Go.ChangeShapes Go.WideShapes Go.ChangeAt
theorem R0 {P:Program} {f:FuncId} {S:ax} (h:dj P f S) {i:S.ι} (hp:S.pre i) {JI:List Value} {ν:Nu} {w:World} (ha:bn ν (S.args i) JI) (hH:bU ν ((S.ae i).map some) w)
  (hν:∀ id,(S.ae i).length≤id→ν id=none) {b:Bool} (hv:S.val i=.bool b) :
  Calls P f ⟨JI⟩ w fun e w'=>e=.returned (.bool b)∧Below w.heap.size w w':=by
 have h1:=h.calls i hp ν JI w 0 ha hH hν;rw [callsIn_wide] at h1;refine h1.mono fun e w' ⟨v',aj,he,hq⟩=>⟨?_,hq.below⟩
 have hr:=hq.val;rw [hv] at hr;rw [he,hr.km]
section
variable {H:Type} {enc:TypeId × Value→H} {P:Program} {w:World} {base:Nat} {spare:Nat→Bool} {held:Bool}
structure Du (P:Program) (tr tp b s:TypeId):Prop where
 rat:∃ f0 f1 f2,P.underlying tr=some (.struct #[f0,f1,f2])∧(f0.type=b∧f0.offset=0)∧(f1.type=s∧f1.offset=1)∧f2.type=s∧f2.offset=2
 pt:∃ f0 f1,P.underlying tp=some (.struct #[f0,f1])∧(f0.type=tr∧f0.offset=0)∧f1.type=tr∧f1.offset=3
 bool:P.underlying b=some .bool
 str:P.underlying s=some .string
 cr:P.cellsOf tr=3
 cp:P.cellsOf tp=6
 cb:P.cellsOf b=1
 cs:P.cellsOf s=1
theorem Nv {tr tp b s:TypeId} (T:Du P tr tp b s) {n:Nat} {l:List Value} {y:DataW H × List MemPlace} (h:DataW.trod enc P w base spare held n tr l=some y):∃ i:RV,l=i.cells:=by
 obtain ⟨f0,f1,f2,hu,⟨t0,o0⟩,⟨t1,o1⟩,t2,o2⟩:=T.rat;obtain ⟨y0,y1,y2,m,_,hl,h0,h1,J⟩:=Deep.trod_struct3 hu h;rw [T.cr] at hl;rw [t0,o0,T.cb] at h0;rw [t1,o1,T.cs] at h1;rw [t2,o2,T.cs] at J
 match l,hl with
 | [x,y,z],_ =>
  obtain ⟨b,e0,_⟩:=DataW.trod_bool T.bool h0;obtain ⟨s1,e1,_⟩:=DataW.trod_string T.str h1;obtain ⟨s2,e2,_⟩:=DataW.trod_string T.str J;simp at e0 e1 e2;subst e0; subst e1; subst e2;exact ⟨(b,s1,s2),rfl⟩
theorem X1 {tr tp b s:TypeId} (T:Du P tr tp b s) {n:Nat} {l:List Value} {y:DataW H × List MemPlace} (h:DataW.trod enc P w base spare held n tp l=some y):∃ p:PV,l=p.cells:=by
 obtain ⟨f0,f1,hu,⟨t0,o0⟩,t1,o1⟩:=T.pt;obtain ⟨y0,y1,m,_,hl,h0,h1⟩:=trod_struct2 hu h;rw [T.cp] at hl;rw [t0,o0,T.cr] at h0;rw [t1,o1,T.cr] at h1;obtain ⟨i,e0⟩:=Nv T h0;obtain ⟨j,e1⟩:=Nv T h1
 match l,hl with
 | [x,y,z,x',y',z'],_ =>
  have e0:[x,y,z]=i.cells:=e0;have e1:[x',y',z']=j.cells:=e1;refine ⟨(i,j),?_⟩;show [x,y,z]++[x',y',z']=i.cells++j.cells
  rw [e0,e1]
end
open Go Go.RowKit Go.ChangeShapes Go.WideShapes Go.ChangeAt
section
variable {P:Program} {w:World} {r:Reach} {base:Nat} {t:TypeId} {v:Value}
end
structure ae1 (P:Program) (tr tn:TypeId):Prop where
 ln:∃ f0 f1 f2,P.underlying tn=some (.struct #[f0,f1,f2])∧(f0.type=tr∧f0.offset=0)∧(f1.type=tr∧f1.offset=3)∧f2.type=tr∧f2.offset=6
 cn:P.cellsOf tn=9
section
variable {H:Type} {enc:TypeId × Value→H} {P:Program} {w:World} {base:Nat} {spare:Nat→Bool} {held:Bool}
end
open Go Go.RowKit Go.ChangeShapes Go.WideShapes Go.ChangeAt
section
variable {H:Type} {enc:TypeId × Value→H} {P:Program} {w:World} {base:Nat} {spare:Nat→Bool} {held:Bool}
theorem KK {tl tr tp b s:TypeId} (T:Du P tr tp b s) (ht:P.underlying tl=some (.slice tp)) {v:Value} {d:DataW H} {ps:List MemPlace} {r:Reach} {b0:Nat} (hv:Value.okWide P w r b0 tl v)
  (h:DataW.Trod enc P w base (fun _=>true) held tl v d ps) :
  ∃ (i:PL) (ν:Nu),i.list.length≤9223372036854775807∧(∀ B m,(∀ elems spare,d=.slice elems spare→(elems.length+spare.length)*B≤m)→i.list.length*B≤m)∧au ν i.val v∧bU ν (i.ae.map some) w∧∀ id,i.ae.length≤id→ν id=none:=by
 obtain ⟨a0,pF,aes,rfl⟩:=okWide_slice ht hv;obtain ⟨fuel,hf⟩:=h;rcases Deep.open_slice ht hf with ⟨AF,_⟩ | ⟨a,len,cap,m,n,D,Pl,AF,hb,hl,hm,m5,hd,hx⟩
 ·simp [Value.cells] at AF;obtain ⟨rfl,rfl,rfl⟩:=AF;refine ⟨none,fun _=>none,Nat.zero_le _,fun B m _=>by show 0*B≤m; omega,.iR,⟨fun id b h=>by simp [PL.ae] at h,fun i j bi bj li lj h=>by simp [PL.ae] at h⟩,fun _ _=>rfl⟩
 ·simp [Value.cells] at AF;obtain ⟨rfl,rfl,rfl⟩:=AF;have m5:m=aes:=m5;subst m5;simp only [Value.okWide,ht,Cell.okWide,Cell.ok] at hv;obtain ⟨_,_,_,rE,row,cells,Ho,_⟩:=hv;have Hw:a.block < w.heap.size:=by
   unfold World.shape? at Ho
   split at Ho
   ·rename_i hh;exact (Array.getElem?_eq_some_iff.1 hh).1
   ·cases Ho
  obtain ⟨V,hV⟩:=Deep.choose_lt (α:=PV) (n:=m) (p:=fun i p=>∀ j,j < 6→w.cell? ((a.add (i*6)).add j)=p.cells[j]?) (fun i hi=>by
   obtain ⟨fe,h1,J⟩:=hx i hi;rw [T.cp] at h1;obtain ⟨p,rfl⟩:=X1 T J;obtain ⟨_,_,hc⟩:=World.cells?_some h1;exact ⟨p,hc⟩)
  have hlm:pF≤m:=hl;refine ⟨some ((List.range pF).map V,ao),fun id=>if id=0 then some ⟨a.block,a.off,6,m⟩ else none,?_,?_,?_,⟨fun id b bu=>?_,fun i j bi bj li lj h1 J h3 h4=>?_⟩,fun id bu=>?_⟩
  ·show ((List.range pF).map V).length≤_
   have fo:m≤9223372036854775807:=hm;rw [List.length_map,List.length_range];omega
  ·intro B M hB;have hd:=hB _ _ (congrArg Prod.fst hd);show ((List.range pF).map V).length*B≤M
   rw [List.length_map,List.length_range];refine Nat.le_trans (Nat.mul_le_mul_right _ ?_) hd;simp
  ·have e:a=Loc.at ⟨a.block,a.off,6,m⟩ 0 0:=by
    obtain ⟨b0,o0,s0⟩:=a;have:s0=none:=rE;subst this;simp [Loc.at]
   have:=au.slice (ν:=fun id=>if id=0 then some ⟨a.block,a.off,6,m⟩ else none) 0 0 pF ao m ⟨a.block,a.off,6,m⟩ rfl (.inr rfl) hlm (by simp)
   rw [← e] at this;show au _ (.slice (some ⟨0,0,none⟩) ((List.range pF).map V).length ao) _
   rw [List.length_map,List.length_range];exact this
  ·cases id with
   | succ id=>simp [PL.ae] at bu
   | zero =>
    simp [PL.ae] at bu;subst bu;refine ⟨_,rfl,⟨rfl,fun r hr=>rfl,fun r hr j v x5=>?_,fun _ r hr v hv=>?_,fun r hr v hv=>?_,fun h=>(by cases h),(fun r h=>by cases h),Hw⟩⟩
    ·have fy:r < pF:=hr;have hr:r < ((List.range pF).map V).length:=by rw [List.length_map,List.length_range]; exact fy
     obtain ⟨p,hp,_,bd⟩:=rR hr;have hpV:V r=p:=by
      rw [List.getElem?_map,List.getElem?_range fy] at hp
      simpa using hp
     have x5:(bF ((List.range pF).map V) r)[j]?=some v:=x5;rw [bd] at x5;have hj:j < 6:=(List.getElem?_eq_some_iff.1 x5).1;have hc:=hV r (by omega) j hj
     rw [hpV,x5] at hc;refine ⟨v,?_,?_⟩
     ·rw [← hc]
      congr 1
      obtain ⟨b0,o0,s0⟩:=a;have:s0=none:=rE;subst this;by_cases J:r*6=0
      ·have h3:r=0:=by omega
       by_cases h1:j=0 <;> simp [Loc.at,Addr.add,h1,h3]
      ·by_cases h1:j=0 <;> simp [Loc.at,Addr.add,h1,J,Nat.add_assoc]
     ·have hs:mL p.cells=true:=rfl;exact au.kj (dQ hs v (List.mem_of_getElem? x5))
    ·exact dQ (Lz _ r) v hv
    ·have:=dQ (Lz ((List.range pF).map V) r) v hv;cases v <;> first | rfl | simp [cW] at this
  ·cases i with
   | succ i=>simp [PL.ae] at h1
   | zero =>
    cases j with
    | zero=>exact absurd rfl h3
    | succ j=>simp [PL.ae] at J
  ·have:id≠0:=by
    intro e; subst e;have bu:1≤0:=bu;omega
   simp [this]
end
theorem acL {w:World} {i1 i2:PL} {eF rl:Nu} {v1 v2:Value} (h1:au eF i1.val v1) (H1:bU eF (i1.ae.map some) w) (n1:∀ id,i1.ae.length≤id→eF id=none) (J:au rl i2.val v2) (H2:bU rl (i2.ae.map some) w) (n2:∀ id,i2.ae.length≤id→rl id=none) :
  ∃ ν:Nu,bU ν ((i1.ae++i2.ae).map some) w∧(∀ id,(i1.ae++i2.ae).length≤id→ν id=none)∧au ν i1.val v1∧au ν (i2.sO i1.ae.length) v2:=by
 have own:∀ i:PL,∀ b∈i.ae,b.own=false∧b.jd=true∧b.rc=none:=fun i b hb=>by
  cases i with
  | none=>cases hb
  | some i=>rw [List.mem_singleton.1 hb]; exact ⟨rfl,rfl,rfl⟩
 have fZ:∀ {ν aj:Nu} {l:Loc} {b:ai},b.jd=true→bS ν l b w→bS aj l b w:=fun {ν aj l b} hf h =>
  ⟨h.ah,h.len,fun r hr j v hv=>by
   obtain ⟨v',hc,iV⟩:=h.cell r hr j v hv;have hs:=h.plain hf r hr v (List.mem_of_getElem? hv);rw [iV.kl hs] at hc;exact ⟨v,hc,au.kj hs⟩,h.plain,h.one,h.own,h.lr,h.live⟩
 refine ⟨fun id=>if id < i1.ae.length then eF id else rl (id - i1.ae.length),⟨fun id b bu=>?_,fun i j bi bj li lj hi hj aN ho=>?_⟩,fun id bu=>?_,?_,?_⟩
 ·rw [List.getElem?_map] at bu;obtain ⟨b',bE,e⟩:=Option.map_eq_some_iff.1 bu;obtain rfl:b'=b:=Option.some.inj e;by_cases h:id < i1.ae.length
  ·rw [List.getElem?_append_left h] at bE;obtain ⟨l,hl,hr⟩:=H1.aJ id b' (by rw [List.getElem?_map,bE]; rfl)
   exact ⟨l,by rw [if_pos h]; exact hl,fZ (own _ _ (List.mem_of_getElem? bE)).2.1 hr⟩
  ·rw [List.getElem?_append_right (by omega)] at bE
   obtain ⟨l,hl,hr⟩:=H2.aJ (id - i1.ae.length) b' (by rw [List.getElem?_map,bE]; rfl)
   exact ⟨l,by rw [if_neg h]; exact hl,fZ (own _ _ (List.mem_of_getElem? bE)).2.1 hr⟩
 ·rw [List.getElem?_map] at hi;obtain ⟨b',bE,e⟩:=Option.map_eq_some_iff.1 hi;obtain rfl:b'=bi:=Option.some.inj e;have:b'.own=false:=by
   rcases List.mem_append.1 (List.mem_of_getElem? bE) with h | h
   ·exact (own _ _ h).1
   ·exact (own _ _ h).1
  rw [this] at ho;cases ho
 ·rw [List.length_append] at bu;show (if id < i1.ae.length then eF id else rl (id - i1.ae.length))=none
  rw [if_neg (by omega)]
  exact n2 _ (by omega)
 ·cases i1 with
  | none=>cases h1; exact .iR
  | some i =>
   obtain ⟨L,c0⟩:=i;have h1:au eF (.slice (some ⟨0,0,none⟩) L.length c0) v1:=h1;show au _ (.slice (some ⟨0,0,none⟩) L.length c0) v1
   generalize L.length=k at h1 ⊢;cases h1 with
   | slice id row n c c' l h hc hn hr=>exact .slice _ _ _ _ _ l (by show (if 0 < 1 then eF 0 else _)=_; exact h) hc hn hr
   | void id row c a hc=>exact .void _ _ _ a hc
 ·cases i2 with
  | none=>cases J; exact .iR
  | some i =>
   obtain ⟨L,c0⟩:=i;have J:au rl (.slice (some ⟨0,0,none⟩) L.length c0) v2:=J;show au _ (.slice (some ⟨i1.ae.length,0,none⟩) L.length c0) v2
   generalize L.length=k at J ⊢;cases J with
   | slice id row n c c' l h hc hn hr=>exact .slice _ _ _ _ _ l (by show (if i1.ae.length < i1.ae.length then _ else rl (i1.ae.length - i1.ae.length))=_; rw [if_neg (by omega),Nat.sub_self]; exact h) hc hn hr
   | void id row c a hc=>exact .void _ _ _ a hc
end Go.Ae
