import Derived.WalkKit
import Derived.ProofKit
import Derived.OpenShut
import Derived.ShutString
import Derived.ChangeOld
import Derived.Below
import Derived.Deep.Slices
import Derived.Deep.Strs
import Derived.SizedLaws
import Derived.Test.YtlapbjdhekcipaaGreatXD
set_option linter.unusedVariables false
set_option linter.unusedSimpArgs false
namespace Go.Ae
open Go
theorem aaM (o i j k m:Q2):ak o j k*ak i j m=ak o j m*ak i j k+ak o i j*ak j k m:=by simp only [dj]; grind
theorem aaN (o i j k m:Q2):ak o j k*ak i k m=ak o k m*ak i j k+ak o i k*ak j k m:=by simp only [dj]; grind
theorem Fm {a x s:Rat} (ha:0 < a) (h:a*x=s) (hs:0 < s):0 < x:=by
 by_cases hx:0 < x
 ·exact hx
 ·have:=Rat.mul_nonneg (show 0≤a by grind) (show 0≤-x by grind)
  grind
theorem N9 {a b c d:Rat} (ha:0 < a) (hb:0 < b) (hc:0 < c) (hd:0 < d):0 < a*b+c*d:=by
 have:=Rat.mul_pos ha hb;have:=Rat.mul_pos hc hd;grind
def iS (a b:Q2):Prop:=a.1 < b.1∨a.1=b.1∧a.2 < b.2
theorem Vl {o a b c:Q2} (ha:iS o a) (hb:iS o b) (hc:iS o c) (h1:0 < ak o a b) (J:0 < ak o b c):0 < ak o a c:=by
 have e:(b.1 - o.1)*ak o a c=(a.1 - o.1)*ak o b c+(c.1 - o.1)*ak o a b:=by simp only [dj]; grind
 have Ed:0 < b.1 - o.1:=by
  rcases hb with h | ⟨h,h'⟩
  ·grind
  ·exfalso;have e2:ak o b c=-((b.2 - o.2)*(c.1 - o.1)):=by rw [dj,show b.1 - o.1=0 by grind]; grind
   have:=Rat.mul_nonneg (show 0≤b.2 - o.2 by grind) (show 0≤c.1 - o.1 by rcases hc with h | ⟨h,_⟩ <;> grind)
   grind
 have vE:0 < a.1 - o.1:=by
  rcases ha with h | ⟨h,h'⟩
  ·grind
  ·exfalso;have e2:ak o a b=-((a.2 - o.2)*(b.1 - o.1)):=by rw [dj,show a.1 - o.1=0 by grind]; grind
   have:=Rat.mul_pos (show 0 < a.2 - o.2 by grind) Ed
   grind
 refine Fm Ed e ?_;have:=Rat.mul_pos vE J;have:=Rat.mul_nonneg (show 0≤c.1 - o.1 by rcases hc with h | ⟨h,_⟩ <;> grind) (show 0≤ak o a b by grind)
 grind
theorem WH {o:Q2}:∀ l:List Q2,(∀ v∈l,iS o v)→(∀ e∈b9 l,0 < ak o e.1 e.2)→l.Pairwise (fun a b=>0 < ak o a b):=by
 intro l
 induction l with
 | nil=>exact fun _ _=>.nil
 | cons a l ih =>
  intro hv he;cases l with
  | nil=>simp
  | cons b l =>
   rw [kP] at he;have J:=ih (fun v h=>hv v (List.mem_cons_of_mem _ h)) (fun e h=>he e (List.mem_cons_of_mem _ h))
   rw [List.pairwise_cons];refine ⟨fun c hc=>?_,J⟩
   have dI:=he (a,b) (List.mem_cons_self ..);rcases List.mem_cons.1 hc with rfl | cF
   ·exact dI
   ·rw [List.pairwise_cons] at J;exact Vl (hv a (List.mem_cons_self ..)) (hv b (List.mem_cons_of_mem _ (List.mem_cons_self ..))) (hv c (List.mem_cons_of_mem _ hc)) dI (J.1 c cF)
def zJ:List Q2→Prop
 | []=>True
 | a::l=>l.Pairwise (fun b c=>0 < ak a b c)∧zJ l
theorem zJ.cT:∀ {l:List Q2},zJ l→bB l
 | [],_=>trivial
 | a::l,h=>⟨h.1.imp (fun h=>by grind),zJ.cT h.2⟩
theorem WI {o:Q2}:∀ l:List Q2,l.Pairwise (fun a b=>0 < ak o a b)→(∀ e∈b9 (b9 l),0 < ak e.1.1 e.1.2 e.2.2)→zJ l:=by
 intro l
 induction l with
 | nil=>exact fun _ _=>trivial
 | cons a l ih =>
  intro hf hc;rw [List.pairwise_cons] at hf;obtain ⟨Rr,hf⟩:=hf;cases l with
  | nil=>exact ⟨.nil,trivial⟩
  | cons b l =>
   have hS:=ih hf (fun e he=>hc e (by
    cases l with
    | nil=>cases he
    | cons c l=>rw [kP,kP,kP]; exact List.mem_cons_of_mem _ he))
   rw [List.pairwise_cons] at hf;have JJ:l.Pairwise (fun x y=>0 < ak b x y):=hS.1
   have h1:∀ z∈l,0 < ak a b z:=by
    cases l with
    | nil=>intro z hz; cases hz
    | cons c l =>
     have Qo:0 < ak a b c:=hc ((a,b),(b,c)) (by rw [kP,kP,kP]; exact List.mem_cons_self ..)
     intro z hz;rcases List.mem_cons.1 hz with rfl | oE
     ·exact Qo
     ·rw [List.pairwise_cons] at JJ;exact Fm (hf.1 c (List.mem_cons_self ..)) (aaM o a b c z) (N9 (hf.1 z hz) Qo (Rr b (List.mem_cons_self ..)) (JJ.1 z oE))
   refine ⟨?_,hS⟩;rw [List.pairwise_cons];refine ⟨h1,?_⟩;have h3:=List.Pairwise.and_mem.1 (JJ.and hf.2);refine h3.imp fun {x y} ⟨hx,hy,aeO,aeP⟩=>?_
   exact Fm (hf.1 x hx) (aaN o a b x y) (N9 aeP (h1 x hx) (Rr x (List.mem_cons_of_mem _ hx)) aeO)
theorem LK {α:Type} {l:List α} {e:α × α} (h:e∈b9 l):∃ i,l[i]?=some e.1∧l[i+1]?=some e.2:=by
 obtain ⟨i,hi,rfl⟩:=List.getElem_of_mem h;refine ⟨i,?_⟩;have:(b9 l)[i]?=some (b9 l)[i]:=List.getElem?_eq_getElem hi;unfold b9 at this;rw [List.getElem?_zip_eq_some,List.getElem?_tail] at this;exact this
theorem yV {a b:Q2}:fH a b < 0↔iS a b:=by
 have h:=uC (a:=b) (b:=a);unfold iB at h;unfold iS;constructor
 ·intro hc;have hn:¬ (b.1 < a.1∨b.1=a.1∧b.2≤a.2):=fun e=>h.1 e hc
  grind
 ·intro hc;refine Decidable.byContradiction fun hn=>?_
  have:=h.2 hn;grind
def gG (Q:List Q2):Prop:=∀ i,0 < i→i < Q.length→iS (ar Q 0) (ar Q i)
def pA (Q:List Q2) (i:Nat):Prop:=ak (ar Q i) (ar Q (aX Q.length i)) (ar Q (aX Q.length (aX Q.length i)))≤0∨(0 < i∧i+1 < Q.length∧ak (ar Q 0) (ar Q i) (ar Q (i+1))≤0)
def zh (Q:List Q2) (i:Nat):Prop:=∃ p∈Q,p≠ar Q i∧p≠ar Q (aX Q.length i)∧ak (ar Q i) (ar Q (aX Q.length i)) p≤0
theorem xx {Q:List Q2} (h:gG Q) {i:Nat} (h0:0 < i) (hi:i < Q.length):ar Q 0≠ar Q i:=fun e=>by
 have:=h i h0 hi;rw [← e] at this;rcases this with h | ⟨_,h⟩ <;> exact absurd h (Rat.not_lt.2 (Rat.le_refl))
theorem yO {Q:List Q2} (h3:3≤Q.length) (ho:gG Q):Ring Q↔∀ i,i < Q.length→¬ pA Q i:=by
 constructor
 ·intro hR i hi hb;rcases hb with hb | ⟨h0,h1,hb⟩
  ·have hn:=cL hi;have:=hR.n9 _ hn;rw [yU hi] at this;grind
  ·have mY:=hR.nodup;have hT:=hR.cT;have e0:(Q.length - 1+1)=Q.length:=by omega
   have eF:0≤ak (ar Q i) (ar Q (i+1)) (ar Q 0):=by
    have he:=kg hi;rw [show aX Q.length i=i+1 from Nat.mod_eq_of_lt h1] at he
    exact iG hT he (eJ (by omega))
   have aE:ak (ar Q 0) (ar Q i) (ar Q (i+1))≠0:=A7 (hR.ext.1 (eJ (by omega))) (hR.ext.1 (eJ hi)) (hR.ext.1 (eJ h1)) (xx ho h0 hi) (xx ho (by omega) h1) fun e=>by
    have:=xi mY hi h1 e;omega
   rw [pf] at hb aE;grind
 ·intro h;have Qp:∀ k,k < Q.length→0 < ak (ar Q (dA Q.length k)) (ar Q k) (ar Q (aX Q.length k)):=fun k hk=>by
   have:=h _ (jt hk);unfold pA at this;rw [Cp hk] at this;exact Rat.not_le.1 fun e=>this (.inl e)
  refine ⟨?_,h3,Qp⟩;cases Q with
  | nil=>exact trivial
  | cons o l =>
   have hv:∀ v∈l,iS o v:=fun v hv=>by
    obtain ⟨i,hi,rfl⟩:=sf hv;exact ho (i+1) (by omega) (by simp; omega)
   have hp:=WH l hv fun e he=>by
    obtain ⟨i,h1,J⟩:=LK he;have hi:i+1 < l.length:=(List.getElem?_eq_some_iff.1 J).1;have:=h (i+1) (by simp; omega)
    unfold pA at this;have e1:ar (o::l) (i+1)=e.1:=ss h1;have e2:ar (o::l) (i+1+1)=e.2:=ss J;have e0:ar (o::l) 0=o:=rfl;rw [e1,e2,e0] at this;exact Rat.not_le.1 fun e=>this (.inr ⟨by omega,by simp; omega,e⟩)
   refine ⟨hp.imp (fun h=>by grind),(WI l hp fun e he=>?_).cT⟩
   obtain ⟨i,h1,J⟩:=LK he;have g1:l[i]?=some e.1.1∧l[i+1]?=some e.1.2:=by
    unfold b9 at h1;rw [List.getElem?_zip_eq_some,List.getElem?_tail] at h1;exact h1
   have g2:l[i+1]?=some e.2.1∧l[i+1+1]?=some e.2.2:=by
    unfold b9 at J;rw [List.getElem?_zip_eq_some,List.getElem?_tail] at J;exact J
   have hi:i+1+1 < l.length:=(List.getElem?_eq_some_iff.1 g2.2).1;have:=Qp (i+1+1) (by simp; omega)
   have hn:aX (o::l).length (i+1+1)=i+1+1+1:=Nat.mod_eq_of_lt (by simp; omega)
   have hq:dA (o::l).length (i+1+1)=i+1:=by
    have:=yU (n:=(o::l).length) (k:=i+1) (by simp; omega)
    rwa [show aX (o::l).length (i+1)=i+1+1 from Nat.mod_eq_of_lt (by simp; omega)] at this
   rw [hn,hq] at this;have e1:ar (o::l) (i+1)=e.1.1:=ss g1.1;have e2:ar (o::l) (i+1+1)=e.1.2:=ss g1.2;have e3:ar (o::l) (i+1+1+1)=e.2.2:=ss g2.2;rw [e1,e2,e3] at this;exact this
theorem Vm {Q:List Q2} (h3:3≤Q.length) (ho:gG Q) (h:∀ i,i < Q.length→¬ zh Q i):∀ i j,i < j→j < Q.length→ar Q i≠ar Q j:=by
 have au:∀ i,i < Q.length→∀ p∈Q,p≠ar Q i→p≠ar Q (aX Q.length i)→0 < ak (ar Q i) (ar Q (aX Q.length i)) p:=fun i hi p hp h1 J =>
  Rat.not_le.1 fun e=>h i hi ⟨p,hp,h1,J,e⟩
 have aE:∀ i,i < Q.length→ar Q i≠ar Q (aX Q.length i):=fun i hi e=>by
  by_cases h0:i=0
  ·subst h0;exact xx ho (i:=aX Q.length 0) (by unfold aX; rw [Nat.mod_eq_of_lt (by omega)]; omega) (cL hi) e
  ·have bN:ar Q 0≠ar Q i:=xx ho (by omega) hi
   have:=au i hi (ar Q 0) (eJ (by omega)) bN (fun e2=>bN (e2.trans e.symm))
   rw [← e,yT] at this;grind
 have key:∀ d i j,Q.length - j=d→0 < i→i < j→j < Q.length→ar Q i≠ar Q j:=by
  intro d
  induction d with
  | zero=>intro i j hd _ _ hj; omega
  | succ d ih =>
   intro i j hd h0 ye hj e;have hi:i < Q.length:=by omega
   have eni:aX Q.length i=i+1:=Nat.mod_eq_of_lt (by omega)
   have fV:ar Q (aX Q.length i)=ar Q (aX Q.length j):=by
    refine Decidable.byContradiction fun hc=>?_
    have a:=au i hi (ar Q (aX Q.length j)) (eJ (cL hj)) (by rw [e]; exact Ne.symm (aE j hj)) (Ne.symm hc)
    have b:=au j hj (ar Q (aX Q.length i)) (eJ (cL hi)) (by rw [← e]; exact Ne.symm (aE i hi)) hc
    rw [← e,wU] at b;grind
   rw [eni] at fV;by_cases hl:j+1 < Q.length
   ·rw [show aX Q.length j=j+1 from Nat.mod_eq_of_lt hl] at fV
    exact ih (i+1) (j+1) (by omega) (by omega) (by omega) hl fV
   ·have:j+1=Q.length:=by omega
    rw [show aX Q.length j=0 from by unfold aX; rw [this,Nat.mod_self]] at fV
    exact xx ho (i:=i+1) (by omega) (by omega) fV.symm
 intro i j ye hj;by_cases h0:i=0
 ·subst h0; exact xx ho ye hj
 ·exact key _ i j rfl (by omega) ye hj
theorem Nl {Q:List Q2} (h3:3≤Q.length) (ho:gG Q):Ring Q↔∀ i,i < Q.length→¬ zh Q i:=by
 constructor
 ·rintro hR i hi ⟨p,hp,h1,J,hb⟩
  have eF:=iG hR.cT (kg hi) hp;have:=A7 (hR.ext.1 (eJ hi)) (hR.ext.1 (eJ (cL hi))) (hR.ext.1 hp) (hR.ne _ (kg hi)) (Ne.symm h1) (Ne.symm J);grind
 ·intro h;have mY:=Vm h3 ho h;have hd:∀ i j,i < Q.length→j < Q.length→i≠j→ar Q i≠ar Q j:=fun i j hi hj aE=>by
   rcases Nat.lt_or_gt_of_ne aE with h | h
   ·exact mY i j h hj
   ·exact Ne.symm (mY j i h hi)
  have au:∀ i j,i < Q.length→j < Q.length→j≠i→j≠aX Q.length i→0 < ak (ar Q i) (ar Q (aX Q.length i)) (ar Q j):=fun i j hi hj h1 J =>
   Rat.not_le.1 fun e=>h i hi ⟨ar Q j,eJ hj,hd j i hj hi h1,hd j _ hj (cL hi) J,e⟩
  refine (yO h3 ho).2 fun i hi hb=>?_
  rcases hb with hb | ⟨h0,h1,hb⟩
  ·have hn:=cL hi;have:=au i _ hi (cL hn) (fun e=>by
    unfold aX at e;rcases Nat.lt_or_ge (i+1) Q.length with h | h
    ·rw [Nat.mod_eq_of_lt h] at e;rcases Nat.lt_or_ge (i+1+1) Q.length with h' | h'
     ·rw [Nat.mod_eq_of_lt h'] at e; omega
     ·rw [show i+1+1=Q.length by omega,Nat.mod_self] at e; omega
    ·rw [show i+1=Q.length by omega,Nat.mod_self,Nat.mod_eq_of_lt (by omega)] at e; omega) (xw hn (by omega))
   grind
  ·have:=au i 0 hi (by omega) (by omega) (by rw [show aX Q.length i=i+1 from Nat.mod_eq_of_lt h1]; omega)
   rw [show aX Q.length i=i+1 from Nat.mod_eq_of_lt h1,← pf] at this
   grind
open Go
theorem cO (a b p:Q2):ai (bG a b) p=ak a b p:=by simp only [fg,dj,bG]; grind
theorem uo {a b:Q2} (h:a≠b):lF (bG a b):=fun e=>h (Prod.ext (by have:=e.2; unfold bG at this; grind) (by have:=e.1; unfold bG at this; grind))
theorem Nm {m:Q3} {x y z:Q2} (hx:ai m x=0) (hy:ai m y=0) (aE:x≠y) (h:ak x y z=0):ai m z=0:=by
 rw [fg] at *;rw [dj] at h;by_cases h0:y.1 - x.1=0
 ·have h1:y.2 - x.2≠0:=fun e=>aE (Prod.ext (by grind) (by grind))
  have:(y.2 - x.2)*(m.1*z.1+m.2.1*z.2 - m.2.2)=0:=by grind
  exact (Rat.mul_eq_zero.1 this).resolve_left h1
 ·have:(y.1 - x.1)*(m.1*z.1+m.2.1*z.2 - m.2.2)=0:=by grind
  exact (Rat.mul_eq_zero.1 this).resolve_left h0
theorem Cr {m:Q3} (hm:lF m) {a b c:Q2} (ha:ai m a=0) (hb:ai m b=0) (hc:ai m c=0):ak a b c=0 :=
 Cq (P:=[a,b,c]) ⟨m,hm,fun v hv=>by simp at hv; rcases hv with rfl | rfl | rfl <;> assumption⟩ (by simp) (by simp) (by simp)
theorem Ub {P:List Q2} {v:Q2} (h:v∈P) (hw:∃ w∈P,w≠v):∃ y,(v,y)∈aU P∧v≠y:=by
 obtain ⟨w,hw,aE⟩:=hw;obtain ⟨A,B,rfl⟩:=List.append_of_mem h;obtain ⟨y,h1,J⟩:=leave (v:=v) (B++A) ⟨w,by
  rcases List.mem_append.1 hw with h | h
  ·exact List.mem_append_right _ h
  ·rcases List.mem_cons.1 h with h | h
   ·exact absurd h aE
   ·exact List.mem_append_left _ h,aE⟩
 exact ⟨y,wH (A:=v::B) (K5 (m:=[v]) h1),J⟩
theorem LM {P:List Q2} (hT:bB P):(Flat P∧fK P=[])∨(¬ Flat P∧Ring (fK P)∧gG (fK P)∧iK (fK P) P∧∀ v∈fK P,v∈P):=by
 by_cases hF:Flat P
 ·exact .inl ⟨hF,(Vi hF).1⟩
 ·have hc:=LI hT hF;rw [(XL hT hF).1];refine .inr ⟨hF,Vk hc,fun i h0 hi=>?_,(iK.gu fun v=>um).trans (Fj hT hF).1,fun v hv=>(FM P).subset (um.1 hv)⟩
  have:=S9 hc hi h0;have hle:iB (ar (eV (fF P)) 0) (ar (eV (fF P)) i):=uC.2 (by omega)
  have aE:ar (eV (fF P)) 0≠ar (eV (fF P)) i:=fun e=>by rw [e,o7.2 rfl] at this; omega
  rcases hle with h | ⟨h,h'⟩
  ·exact .inl h
  ·exact .inr ⟨h,Rat.lt_of_le_of_ne h' fun e=>aE (Prod.ext h e)⟩
theorem XQ {S:Q3→Prop} {P C:List Q2} (hT:bB P) (hC:Ring C) (hs:iK C P) (ID:∀ v∈C,v∈P) (h:∀ e∈aU P,lG S e):∀ e∈aU C,lG S e:=by
 rintro ⟨x,y⟩ he
 have rz:x≠y:=hC.ne _ he;obtain ⟨x',h1,J⟩:=Ub (ID x (gL he).1) ⟨y,ID y (gL he).2,Ne.symm rz⟩;have a:=iG hT h1 (ID y (gL he).2);have b:=wI hC.cT he ((hs x').2 (.gu (gL h1).2));rw [wU] at b;obtain ⟨m,hm,hl,v1,v2⟩:=h _ h1;exact ⟨m,hm,hl,v1,Nm v1 v2 J (by grind)⟩
theorem XR {α:Type} [DecidableEq α]:∀ (n:Nat) (S:List α) (f:Nat→α),(∀ k,k < n→f k∈S)→(∀ i j,i < n→j < n→f i=f j→i=j)→n≤S.length:=by
 intro n
 induction n with
 | zero=>intro S f _ _; omega
 | succ n ih =>
  intro S f h1 J;have hn:=h1 n (by omega)
  have:=ih (S.erase (f n)) f (fun k hk=>(List.mem_erase_of_ne fun e=>by have:=J k n (by omega) (by omega) e; omega).2 (h1 k (by omega))) (fun i j hi hj=>J i j (by omega) (by omega))
  rw [List.length_erase_of_mem hn] at this;have:0 < S.length:=List.length_pos_of_mem hn;omega
theorem WJ {S:List Q3} {C:List Q2} (hC:Ring C) (h:∀ e∈aU C,lG (·∈S) e):C.length≤S.length:=by
 have h3:=hC.three;have hf:∀ k,∃ m:Q3,k < C.length→m∈S∧lF m∧ai m (ar C k)=0∧ai m (ar C (aX C.length k))=0:=fun k=>by
  by_cases hk:k < C.length
  ·obtain ⟨m,h⟩:=h _ (kg hk);exact ⟨m,fun _=>h⟩
  ·exact ⟨(0,0,0),fun h=>absurd h hk⟩
 obtain ⟨f,hf⟩:=Classical.axiomOfChoice hf;refine XR C.length S f (fun k hk=>(hf k hk).1) fun i j hi hj e=>Decidable.byContradiction fun aE=>?_
 obtain ⟨_,hl,i1,i2⟩:=hf i hi;obtain ⟨_,_,j1,j2⟩:=hf j hj;rw [← e] at j1 j2;have hx:∀ a b c,a < C.length→b < C.length→c < C.length→a≠b→a≠c→b≠c→ai (f i) (ar C a)=0→ai (f i) (ar C b)=0→ai (f i) (ar C c)=0→False:=fun a b c ha hb hc dI AK pQ va vb vc =>
  A7 (hC.ext.1 (eJ ha)) (hC.ext.1 (eJ hb)) (hC.ext.1 (eJ hc)) (fun e=>dI (xi hC.nodup ha hb e)) (fun e=>AK (xi hC.nodup ha hc e)) (fun e=>pQ (xi hC.nodup hb hc e)) (Cr hl va vb vc)
 by_cases h1:aX C.length i=j
 ·subst h1;refine hx i _ _ hi hj (cL hj) aE (fun e=>?_) (Ne.symm (xw hj (by omega))) i1 i2 j2
  unfold aX at e;rcases Nat.lt_or_ge (i+1) C.length with h | h
  ·rw [Nat.mod_eq_of_lt h] at e;rcases Nat.lt_or_ge (i+1+1) C.length with h' | h'
   ·rw [Nat.mod_eq_of_lt h'] at e; omega
   ·rw [show i+1+1=C.length by omega,Nat.mod_self] at e; omega
  ·rw [show i+1=C.length by omega,Nat.mod_self,Nat.mod_eq_of_lt (by omega)] at e; omega
 ·exact hx i j _ hi hj (cL hi) aE (Ne.symm (xw hi (by omega))) (Ne.symm h1) i1 j1 i2
theorem XT {k:Nat} {C:List Q2} (hC:Ring C) (h:∀ e∈aU C,lG (Q3.sz k) e):∀ v∈C,Q2.sz (8*k+2) v:=by
 intro v hv;obtain ⟨i,hi,rfl⟩:=sf hv;obtain ⟨l,sl,hl,l1,l2⟩:=h _ (o6 hi);obtain ⟨m,sm,hm,m1,m2⟩:=h _ (kg hi);have l2:ai l (ar C i)=0:=l2;have m1:ai m (ar C i)=0:=m1;have hd:qX l m≠0:=aaH hl l1 l2 (fun e=>by
  have hc:=hC.n9 i hi;rw [Cr hm (e.trans m1) m1 m2] at hc;grind)
 rw [aaG l2 m1 hd];exact Q2.mono (aaF sl sm) (by omega)
def kv (P:List Q2) (e:Q2 × Q2):List Q2:=fK (db (bG e.1 e.2) P)
def jw (P B:List Q2):List Q2:=(aU B).foldl kv P
def ju (P B:List Q2) (j:Nat):List Q2:=((aU B).take j).foldl kv P
theorem Uc {P B:List Q2} {j:Nat} {e:Q2 × Q2} (h:(aU B)[j]?=some e):ju P B (j+1)=kv (ju P B j) e:=by
 unfold ju;rw [List.take_add_one,h,List.foldl_append]; rfl
theorem MB (P B:List Q2):ju P B B.length=jw P B:=by
 unfold ju jw;rw [← ng B,List.take_length]
def ot (S:Q3→Prop) (P:List Q2):Prop:=P=[]∨(Ring P∧gG P∧∀ e∈aU P,lG S e)
theorem MC {S:Q3→Prop} {P:List Q2} {e:Q2 × Q2} (aE:e.1≠e.2) (hS:S (bG e.1 e.2)) (h:ot S P):ot S (kv P e):=by
 rcases h with rfl | ⟨hR,ho,Ee⟩
 ·exact .inl rfl
 ·have hT:=Nd (m:=bG e.1 e.2) hR.cT;rcases LM hT with ⟨_,h⟩ | ⟨_,h1,J,h3,h4⟩
  ·exact .inl h
  ·exact .inr ⟨h1,J,XQ hT h1 h3 h4 (aaI hS (uo aE) Ee)⟩
theorem LN {S:Q3→Prop} {P B:List Q2} (hB:∀ e∈aU B,e.1≠e.2∧S (bG e.1 e.2)) (h:ot S P) (j:Nat):ot S (ju P B j):=by
 unfold ju;have hl:∀ e∈(aU B).take j,e.1≠e.2∧S (bG e.1 e.2):=fun e he=>hB e (List.mem_of_mem_take he)
 revert hl;generalize (aU B).take j=l;intro hl
 induction l generalizing P with
 | nil=>exact h
 | cons e l ih=>exact ih (MC (hl e (List.mem_cons_self ..)).1 (hl e (List.mem_cons_self ..)).2 h) fun x hx=>hl x (List.mem_cons_of_mem _ hx)
theorem LO {S:List Q3} {k:Nat} {P:List Q2} (hk:∀ m∈S,Q3.sz k m) (h:ot (·∈S) P):P.length≤S.length∧∀ v∈P,Q2.sz (8*k+2) v:=by
 rcases h with rfl | ⟨hR,_,Ee⟩
 ·exact ⟨Nat.zero_le _,fun v hv=>nomatch hv⟩
 ·exact ⟨WJ hR Ee,XT hR fun e he=>(Ee e he).imp fun m hm=>⟨hk m hm.1,hm.2⟩⟩
def km (P:List Q2):List Q3:=(aU P).map fun e=>bG e.1 e.2
theorem BL (P:List Q2):(km P).length=P.length:=by unfold km; rw [List.length_map,ng]
theorem FQ {P:List Q2} {e:Q2 × Q2} (h:e∈aU P):bG e.1 e.2∈km P:=List.mem_map_of_mem (f:=fun e:Q2 × Q2=>bG e.1 e.2) h
theorem Nn {P:List Q2} (h:Ring P):∀ e∈aU P,lG (·∈km P) e:=fun e he=>⟨_,FQ he,uo (h.ne e he),by rw [cO,ke],by rw [cO,kf]⟩
theorem B7 {P:List Q2} {k:Nat} (h:∀ v∈P,Q2.sz k v):∀ m∈km P,Q3.sz (6*k+3) m:=fun m hm=>by
 obtain ⟨e,he,rfl⟩:=List.mem_map.1 hm;have:=gL he;exact Q3.mono (OQ (h _ this.1) (h _ this.2)) (by omega)
theorem lG.mono {S T:Q3→Prop} {e:Q2 × Q2} (h:lG S e) (hs:∀ m,S m→T m):lG T e:=h.imp fun m hm=>⟨hs m hm.1,hm.2⟩
theorem ot.mono {S T:Q3→Prop} {P:List Q2} (h:ot S P) (hs:∀ m,S m→T m):ot T P:=h.imp id fun h=>⟨h.1,h.2.1,fun e he=>(h.2.2 e he).mono hs⟩
def OW (P B:List Q2):Prop:=∀ j,j≤B.length→(ju P B j).length≤1073741824∧∀ v∈ju P B j,Q2.sz 2048 v
theorem XU {S:List Q3} {P B:List Q2} (hB:Ring B) (hk:∀ m∈S,Q3.sz 255 m) (hl:∀ m∈km B,Q3.sz 255 m) (hn:S.length+B.length≤1073741824) (h:ot (·∈S) P):OW P B:=fun j hj=>by
 have hm:=LN (S:=(·∈S++km B)) (B:=B) (fun e he=>⟨hB.ne e he,List.mem_append_right _ (FQ he)⟩) (h.mono fun m hm=>List.mem_append_left _ hm) j
 obtain ⟨h1,J⟩:=LO (k:=255) (fun m hm=>(List.mem_append.1 hm).elim (hk m) (hl m)) hm
 rw [List.length_append,BL] at h1;exact ⟨by omega,fun v hv=>Q2.mono (J v hv) (by decide)⟩
theorem MD {P:List Q2} (hT:bB P) (e:Q2 × Q2):(Flat (db (bG e.1 e.2) P)∧kv P e=[])∨(Ring (kv P e)∧gG (kv P e)∧∀ p,bM (kv P e) p↔bM P p∧0≤ak e.1 e.2 p):=by
 rcases LM (Nd (m:=bG e.1 e.2) hT) with h | ⟨_,h1,J,h3,_⟩
 ·exact .inl h
 ·refine .inr ⟨h1,J,fun p=>?_⟩
  rw [show bM (kv P e) p↔_ from h3 p,EM hT,cO]
open Go
def dL (l:List PV):Bool:=l.any fun p=>decide (¬ p.canon)
instance (a b:Q2):Decidable (iS a b):=inferInstanceAs (Decidable (_∨_))
def DE (Q:List Q2):Bool:=(List.range Q.length).all fun i=>decide (i=0∨iS (ar Q 0) (ar Q i))
instance (Q:List Q2) (i:Nat):Decidable (pA Q i):=inferInstanceAs (Decidable (_∨_))
def Dg (Q:List Q2):Bool:=(List.range Q.length).all fun i=>decide (¬ pA Q i)
theorem B8 {Q:List Q2}:DE Q=true↔gG Q:=by
 unfold DE gG;rw [List.all_eq_true];constructor
 ·intro h i h0 hi;exact (of_decide_eq_true (h i (List.mem_range.2 hi))).resolve_left (by omega)
 ·intro h i hi;by_cases h0:i=0
  ·exact decide_eq_true (.inl h0)
  ·exact decide_eq_true (.inr (h i (by omega) (List.mem_range.1 hi)))
theorem FR {Q:List Q2} (h3:3≤Q.length) (ho:gG Q):Dg Q=true↔Ring Q:=by
 rw [yO h3 ho];unfold Dg;rw [List.all_eq_true];exact ⟨fun h i hi=>of_decide_eq_true (h i (List.mem_range.2 hi)),fun h i hi=>decide_eq_true (h i (List.mem_range.1 hi))⟩
def bg (L:List PV):Int :=
 if L.length < 3∨64 < L.length then 4 else if dL L=true then 1 else if DE (aD L)=true then (if Dg (aD L)=true then 0 else 15) else 8
theorem j8 {L:List PV} (h:bg L=0):(3≤L.length∧L.length≤64)∧(∀ p∈L,p.canon)∧Ring (aD L)∧gG (aD L):=by
 unfold bg at h
 split at h
 ·cases h
 ·rename_i h1
  split at h
  ·cases h
  ·rename_i J
   split at h
   ·rename_i h3
    split at h
    ·rename_i h4;have ho:=B8.1 h3;exact ⟨by omega,fun p hp=>Decidable.byContradiction fun e=>J (List.any_eq_true.2 ⟨p,hp,decide_eq_true e⟩),(FR (by rw [cA]; omega) ho).1 h4,ho⟩
    ·cases h
   ·cases h
def zZ (p:Q2) (o:Int) (e:Q2 × Q2):Int:=if aW (ak e.1 e.2 p) 0 < o then aW (ak e.1 e.2 p) 0 else o
def fu (Q:List Q2) (p:Q2):Int:=(aU Q).foldl (zZ p) 1
def qY (L:List PV) (p:PV):Int × Int:=if bg L=0∧p.canon then (fu (aD L) p.p,0) else (0,1)
def qZ (R:List Q2):List Q2 × Int:=if R.length=0 then ([],11) else if 64 < R.length then ([],4) else (R,0)
def dm (A B:List PV):List Q2 × Int:=if bg A=0∧bg B=0 then qZ (jw (aD A) (aD B)) else ([],1)
def j4 (s:Bool) (o:Int):Bool:=if s then decide (o≤0) else decide (o < 0)
def fa (s:Bool) (A B:List Q2):Option (Q2 × Q2):=(aU A).find? fun e=>B.all fun x=>j4 s (aW (ak e.1 e.2 x) 0)
def eK (s:Bool) (A B:List Q2):Option (Q2 × Q2):=match fa s A B with
 | some e=>some e
 | none=>fa s B A
def gw (s:Bool) (A B:List PV):Bool × Int:=if bg A=0∧bg B=0 then ((eK s (aD A) (aD B)).isNone,0) else (false,1)
def Rs (e:Q2 × Q2):XV:=(cj e.1,cj e.2)
def jh (A B:List PV):XV × Int:=if bg A=0∧bg B=0 then (match eK true (aD A) (aD B) with | some e=>(Rs e,0) | none=>(lT,6)) else (lT,1)
def xZ (a b:Q2) (st:Option (Rat × Rat)) (e:Q2 × Q2):Option (Rat × Rat) :=
 match st with
 | none=>none
 | some (lo,hi) =>
  if ak e.1 e.2 b - ak e.1 e.2 a=0 then (if ak e.1 e.2 a≤0 then none else some (lo,hi))
  else if 0 < ak e.1 e.2 b - ak e.1 e.2 a then some (mc lo (-ak e.1 e.2 a / (ak e.1 e.2 b - ak e.1 e.2 a)),hi)
  else some (lo,me hi (-ak e.1 e.2 a / (ak e.1 e.2 b - ak e.1 e.2 a)))
def q7 (Q:List Q2) (a b:Q2):Option (Rat × Rat):=match (aU Q).foldl (xZ a b) (some (0,1)) with
 | none=>none
 | some (lo,hi)=>if hi≤lo then none else some (lo,hi)
def gZ (L:List PV) (s:XV):(RV × RV) × Bool × Int :=
 if bg L=0∧s.1.canon∧s.2.canon then (match q7 (aD L) s.1.p s.2.p with | some (lo,hi)=>((RV.of lo,RV.of hi),true,0) | none=>((dp,dp),false,0)) else ((dp,dp),false,1)
abbrev QL:=Option (List Q2 × Nat)
def QL.val:QL→Value
 | none=>.slice none 0 0
 | some i=>.slice (some ⟨0,0,none⟩) i.1.length i.2
def QL.ae:QL→List aj
 | none=>[]
 | some i=>[.flat false i.1.length 6 (bS i.1)]
def QL.list:QL→List Q2
 | none=>[]
 | some i=>i.1
def cW (R:List Q2):Option aj:=match R.length with
 | 0=>none
 | n+1=>some (.flat true (n+1) 6 (bS R))
def RV.c1 (x:RV):List Value:=[.bool x.1,.string x.2.1,.string x.2.2]
def PL.fit (i:PL):Prop:=i.list.length≤1099511627776∧∀ v∈i.list,v.sz 2048
def Dh:bE:={ ι:=PV,args:=fun i=>[i.v],pre:=fun i=>i.sz 2048,val:=fun i=>.bool (decide (¬ i.canon)) }
def eL:a9:={ ι:=PL,args:=fun i=>[i.val],ae:=PL.ae,pre:=PL.fit,val:=fun i=>.bool (!dL i.list),new:=fun _=>none }
def aV:a9:={ ι:=PL,args:=fun i=>[i.val],ae:=PL.ae,pre:=PL.fit,val:=fun i=>.int .i64 (bg i.list),new:=fun _=>none }
def nt:a9:={ ι:=PL × PV,args:=fun i=>[i.1.val,i.2.v],ae:=fun i=>i.1.ae,pre:=fun i=>i.1.fit∧i.2.sz 2048,val:=fun i=>.int .i64 (fu (aD i.1.list) i.2.p),new:=fun _=>none }
def kR:a9:={ ι:=PL × PV,args:=fun i=>[i.1.val,i.2.v],ae:=fun i=>i.1.ae,pre:=fun i=>i.1.fit∧i.2.sz 2048,val:=fun i=>ZE.v (qY i.1.list i.2),new:=fun _=>none }
def qz:bE:={ ι:=yg,args:=fun i=>[i.1.v,i.2.1.v,i.2.2.v],pre:=DC,val:=fun i=>(RV.of (ak i.1.p i.2.1.p i.2.2.p)).v }
def fp:a9:={ ι:=QL,args:=fun i=>[i.val],ae:=QL.ae,pre:=fun i=>i.list.length≤549755813888∧∀ v∈i.list,Q2.sz 262144 v,val:=fun i=>eg i.ae.length (fK i.list).length,new:=fun i=>cW (fK i.list) }
def mo.fit (i:mo):Prop:=(i.1.fit∧i.2.fit)
def z5 (A B:List PV):Prop:=bg A=0→bg B=0→OW (aD A) (aD B)
def fh:a9:={ ι:=mo,args:=fun i=>[i.1.val,i.2.u1 i.1.ae.length],ae:=fun i=>i.1.ae++i.2.ae,pre:=fun i=>mo.fit i∧z5 i.1.list i.2.list,val:=fun i=>.tuple ⟨[eg (i.1.ae++i.2.ae).length (dm i.1.list i.2.list).1.length,.int .i64 (dm i.1.list i.2.list).2]⟩,new:=fun i=>cW (dm i.1.list i.2.list).1 }
def dk (s:Bool):a9:={ ι:=mo,args:=fun i=>[i.1.val,i.2.u1 i.1.ae.length],ae:=fun i=>i.1.ae++i.2.ae,pre:=mo.fit,val:=fun i=>.tuple ⟨[.bool (gw s i.1.list i.2.list).1,.int .i64 (gw s i.1.list i.2.list).2]⟩,new:=fun _=>none }
def fO:a9:={ ι:=mo,args:=fun i=>[i.1.val,i.2.u1 i.1.ae.length],ae:=fun i=>i.1.ae++i.2.ae,pre:=mo.fit,val:=fun i=>.tuple ⟨[(jh i.1.list i.2.list).1.v,.int .i64 (jh i.1.list i.2.list).2]⟩,new:=fun _=>none }
def mL:a9:={ ι:=PL × XV,args:=fun i=>[i.1.val,i.2.v],ae:=fun i=>i.1.ae,pre:=fun i=>i.1.fit∧i.2.1.sz 2048∧i.2.2.sz 2048,val:=fun i=>.tuple ⟨[(gZ i.1.list i.2).1.1.v,(gZ i.1.list i.2).1.2.v,.bool (gZ i.1.list i.2).2.1,.int .i64 (gZ i.1.list i.2).2.2]⟩,new:=fun _=>none }
def s3 (a b p:PV):Bool:=decide (p≠a∧p≠b∧aW (ak a.p b.p p.p) 0≤0)
def sM:a9:={ ι:=yg,args:=fun i=>[i.2.2.v,.pointer (some ⟨0,0,none⟩),.pointer (some ⟨1,0,none⟩)],ae:=fun i=>[.flat false 1 6 (fun _=>i.1.cells),.flat false 1 6 (fun _=>i.2.1.cells)],pre:=fun i=>i.1.sz 2048∧i.2.1.sz 2048∧i.2.2.sz 2048,val:=fun i=>.bool (s3 i.1 i.2.1 i.2.2),new:=fun _=>none }
def u2 (L:List PV) (i:Nat):Prop:=∀ p∈L.take i,p.canon
theorem K6 (L:List PV):u2 L 0:=fun p hp=>by simp at hp
theorem LP {L:List PV} {i:Nat} {p:PV} (h:u2 L i) (hp:L[i]?=some p) (hc:p.canon):u2 L (i+1):=fun q hq=>by
 rw [List.take_add_one,hp] at hq;simp only [Option.toList_some,List.mem_append,List.mem_singleton] at hq;rcases hq with hq | rfl
 ·exact h q hq
 ·exact hc
theorem ME {L:List PV} (h:u2 L L.length):dL L=false:=by
 cases e:dL L
 ·rfl
 ·obtain ⟨p,hp,hg⟩:=List.any_eq_true.1 e;rw [u2,List.take_length] at h;exact absurd (h p hp) (of_decide_eq_true hg)
theorem tZ {L:List PV} {n j:Nat} (hn:n=L.length) (h:j < n):∃ a b:PV,cB L j=a.cells∧cB L (aX n j)=b.cells∧(a∈L∧b∈L)∧(aU (aD L))[j]?=some (a.p,b.p)∧aX n j < n∧a=iC L j∧b=iC L (aX n j):=by
 have hl:=cL h;refine ⟨iC L j,iC L (aX n j),o5 (by omega),o5 (by omega),⟨np (by omega),np (by omega)⟩,?_,hl,rfl,rfl⟩
 rw [ku (by omega),ku (by omega)]
 exact qe (ij (by rw [cA]; omega)) (by rw [cA,← hn]; exact ij (by rw [cA]; show aX n j < _; omega))
theorem MF {α β:Type} {f:β→α→β} {l:List α} {z:β} {j:Nat} {e:α} (h:l[j]?=some e):(l.take (j+1)).foldl f z=f ((l.take j).foldl f z) e:=by
 rw [List.take_add_one,h,List.foldl_append]; rfl
theorem Ud (L:List PV):(aU (aD L)).take L.length=aU (aD L):=by
 rw [← cA L,← ng (aD L),List.take_length]
def uM (Q:List Q2) (p:Q2) (j:Nat):Int:=((aU Q).take j).foldl (zZ p) 1
theorem Ta {Q:List Q2} {p a b:Q2} {j:Nat} (h:(aU Q)[j]?=some (a,b)):uM Q p (j+1)=if aW (ak a b p) 0 < uM Q p j then aW (ak a b p) 0 else uM Q p j:=by
 unfold uM;rw [MF h];simp only [zZ]
theorem Ue {L:List PV} {p:Q2}:uM (aD L) p L.length=fu (aD L) p:=by unfold uM; rw [Ud]; rfl
theorem Cs {L:List PV} (h:L.length < 3∨64 < L.length):bg L=4:=if_pos h
theorem Oa {L:List PV} (h:¬ (L.length < 3∨64 < L.length)) (J:dL L=true):bg L=1:=by unfold bg; rw [if_neg h,if_pos J]
theorem Ob {L:List PV} (h:¬ (L.length < 3∨64 < L.length)) (J:dL L=false) (h3:¬ gG (aD L)):bg L=8:=by unfold bg; rw [if_neg h,if_neg (by rw [J]; decide),if_neg (fun e=>h3 (B8.1 e))]
theorem GP {L:List PV} (h:¬ (L.length < 3∨64 < L.length)) (J:dL L=false) (h3:gG (aD L)) (h4:¬ Ring (aD L)):bg L=15:=by
 unfold bg;rw [if_neg h,if_neg (by rw [J]; decide),if_pos (B8.2 h3),if_neg (fun e=>h4 ((FR (by rw [cA]; omega) h3).1 e))]
theorem No {L:List PV} (h:¬ (L.length < 3∨64 < L.length)) (J:dL L=false) (h3:gG (aD L)) (h4:Ring (aD L)):bg L=0:=by
 unfold bg;rw [if_neg h,if_neg (by rw [J]; decide),if_pos (B8.2 h3),if_pos ((FR (by rw [cA]; omega) h3).2 h4)]
theorem BM {L:List PV} (h:dL L=false) {p:PV} (hp:p∈L):p=cj p.p:=by
 have hc:p.canon:=Decidable.byContradiction fun e=>by
  have:dL L=true:=List.any_eq_true.2 ⟨p,hp,decide_eq_true e⟩;rw [h] at this; cases this
 exact Prod.ext hc.1 hc.2
def xM (Q:List Q2) (i:Nat):Prop:=∀ k,0 < k→k≤i→iS (ar Q 0) (ar Q k)
theorem K7 (Q:List Q2):xM Q 0:=fun k h0 h=>by omega
theorem LQ {Q:List Q2} {i:Nat} (h:xM Q i) (J:iS (ar Q 0) (ar Q (i+1))):xM Q (i+1):=fun k h0 hk=>by
 rcases Nat.lt_or_eq_of_le hk with e | e
 ·exact h k h0 (by omega)
 ·rw [e]; exact J
theorem MG {Q:List Q2} {i:Nat} (h:xM Q i) (hi:i+1=Q.length):gG Q:=fun k h0 hk=>h k h0 (by omega)
theorem OX {a b:Q2}:iS a b↔0 < fH b a:=by
 rw [← yV];have h1:=LD a b;have J:=LD b a;have h3:=Ua (p:=a) (q:=b);have h4:=uC (a:=a) (b:=b);have h5:=uC (a:=b) (b:=a);have h6:fH a b < 0↔iS a b:=yV;have h7:fH b a < 0↔iS b a:=yV;have h8:¬ (iS a b∧iS b a):=fun ⟨x,y⟩=>by unfold iS at x y; grind
 constructor
 ·intro h;have:¬ fH b a < 0:=fun e=>h8 ⟨h6.1 h,h7.1 e⟩
  omega
 ·intro h;refine Decidable.byContradiction fun hc=>?_
  have h9:iB b a:=h5.2 hc;have AF:iB a b:=h4.2 (by omega)
  have:a=b:=Nj AF h9;have:=h3.2 (o7.2 this);omega
theorem aaO {L:List PV} {j:Nat} {a b:PV} (h:j < L.length) (ha:a=iC L j) (hb:b=iC L (aX L.length j)) (J:L.any (s3 a b)=false):¬ zh (aD L) j:=by
 rintro ⟨q,hq,h3,h4,h5⟩
 obtain ⟨p,hp,rfl⟩:=List.mem_map.1 hq;rw [cA] at h4 h5;rw [← ku h,← ha] at h3 h5;rw [← ku (cL h),← hb] at h4 h5;have:L.any (s3 a b)=true:=List.any_eq_true.2 ⟨p,hp,decide_eq_true ⟨fun e=>h3 (by rw [e]),fun e=>h4 (by rw [e]),Int.not_lt.1 fun e=>Rat.not_lt.2 h5 (uh.1 e)⟩⟩
 rw [J] at this; cases this
theorem XW {L:List PV} {j:Nat} {a b p:PV} (hc:dL L=false) (h:j < L.length) (ha:a=iC L j) (hb:b=iC L (aX L.length j)) (hp:p∈L) (J:s3 a b p=true):zh (aD L) j:=by
 obtain ⟨h3,h4,h5⟩:=of_decide_eq_true J;have ca:=BM hc (p:=a) (by rw [ha]; exact np h)
 have cb:=BM hc (p:=b) (by rw [hb]; exact np (cL h))
 have cp:=BM hc hp;refine ⟨p.p,List.mem_map_of_mem hp,?_,?_,?_⟩
 ·rw [← ku h,← ha]; exact fun e=>h3 (by rw [cp,ca,e])
 ·rw [cA,← ku (cL h),← hb]; exact fun e=>h4 (by rw [cp,cb,e])
 ·rw [cA,← ku h,← ha,← ku (cL h),← hb]; exact Rat.not_lt.1 fun e=>by have:=uh.2 e; omega
theorem aeQ {p:PV} (h:true=dL [p]):p.canon→False:=fun hc=>by
 unfold dL at h;simp [hc] at h
theorem ac8 {p:PV} (h:false=dL [p]):p.canon:=Decidable.byContradiction fun hc=>by
 unfold dL at h;simp [hc] at h
theorem aeR {p q:PV} (h:true=dL [p,q]):p.canon→q.canon→False:=fun h1 J=>by
 unfold dL at h;simp [h1,J] at h
theorem ac9 {p q:PV} (h:false=dL [p,q]):p.canon∧q.canon:=by
 unfold dL at h;simp at h;exact h
theorem OY {L:List PV} {p:PV} (h:¬ (bg L=0∧p.canon)):qY L p=(0,1):=if_neg h
theorem Od {L:List PV} {p:PV} (h:bg L=0∧p.canon):qY L p=(fu (aD L) p.p,0):=if_pos h
def vk:bE:={ ι:=yg,args:=fun i=>[i.1.v,i.2.1.v,i.2.2.v],pre:=DC,val:=fun i=>.bool (decide (i.2.1≠i.2.2)) }
def vl:bE:={ ι:=yg,args:=fun i=>[i.1.v,i.2.1.v,i.2.2.v],pre:=DC,val:=fun i=>.bool (decide (aW (ak i.1.p i.2.1.p i.2.2.p) 0≠0)) }
def sN (b:Bool) (Q:List Q2):List Q2:=match b with
 | false=>gB Q
 | true=>jJ Q
def ky (f g:FuncId):a9:={ ι:=QL × Bool,args:=fun i=>[i.1.val,.func (.func (match i.2 with | false=>f | true=>g)) #[] #[]],ae:=fun i=>i.1.ae,pre:=fun i=>i.1.list.length≤549755813888∧∀ v∈i.1.list,Q2.sz 262144 v,val:=fun i=>eg i.1.ae.length (sN i.2 i.1.list).length,new:=fun i=>cW (sN i.2 i.1.list) }
theorem B9 {R:List Q2} {B:aj} (h:cW R=some B):B.iY=true:=by
 unfold cW at h
 split at h
 ·cases h
 ·cases h; rfl
def qO (Q:List Q2) (j:Nat):List Q2:=((aU Q).take j).flatMap nF
def sO (Q:List Q2) (j:Nat):List Q2:=(List.range j).flatMap (oe Q)
theorem Uf {Q:List Q2} {j:Nat} {a b:PV} (h:j < Q.length) (ha:a=cj (ar Q j)) (hb:b=cj (ar Q (aX Q.length j))):qO Q (j+1)=qO Q j++if a≠b then [ar Q j] else []:=by
 unfold qO;rw [MA (qe (ij h) (ij (cL h)))]
 congr 1
 show (if fH (ar Q j) (ar Q (aX Q.length j))≠0 then [ar Q j] else [])=_
 by_cases e:ar Q j=ar Q (aX Q.length j)
 ·rw [if_neg (fun h=>h (o7.2 e)),if_neg (fun h=>h (by rw [ha,hb,e]))]
 ·rw [if_pos (fun h=>e (o7.1 h)),if_pos (fun h=>e ((XN ha hb).1 h))]
theorem Ug {Q:List Q2} {j:Nat} {a b c:Q2} (ha:a=ar Q (dA Q.length j)) (hb:b=ar Q j) (hc:c=ar Q (aX Q.length j)):sO Q (j+1)=sO Q j++if aW (ak a b c) 0≠0 then [b] else []:=by
 unfold sO;rw [List.range_succ,List.flatMap_append,List.flatMap_singleton,WG ha hb hc rfl]
theorem MH (Q:List Q2):qO Q Q.length=gB Q:=by unfold qO gB; rw [← ng Q,List.take_length]
theorem WK (Q:List Q2) (j:Nat):(qO Q j).length≤Q.length:=XO Q j
theorem WL (Q:List Q2) (j:Nat):(sO Q j).length≤j:=XP Q j
theorem Np {L:List Q2} {n j:Nat} {a b d:PV} (hn:n=L.length) (h:j < n) (ha:a.p=ar L (dA n j)) (hb:b=cj (ar L j)) (hd:d=cj (ar L (aX n j))):∃ z:Bool,vk.val (a,b,d)=.bool z∧qO L (j+1)=qO L j++if z=true then [ar L j] else []:=by
 refine ⟨decide (b≠d),rfl,?_⟩;rw [Uf (a:=b) (b:=d) (by omega) hb (by rw [← hn]; exact hd)]
 by_cases e:b=d
 ·rw [if_neg (fun h=>h e),if_neg (by rw [decide_eq_false (fun h=>h e)]; decide)]
 ·rw [if_pos e,if_pos (decide_eq_true e)]
theorem Nq {L:List Q2} {n j:Nat} {a b d:PV} (hn:n=L.length) (h:j < n) (ha:a.p=ar L (dA n j)) (hb:b=cj (ar L j)) (hd:d=cj (ar L (aX n j))):∃ z:Bool,vl.val (a,b,d)=.bool z∧sO L (j+1)=sO L j++if z=true then [ar L j] else []:=by
 have eb:b.p=ar L j:=by rw [hb,gF]
 have ed:d.p=ar L (aX n j):=by rw [hd,gF]
 refine ⟨decide (aW (ak a.p b.p d.p) 0≠0),rfl,?_⟩;rw [Ug (a:=a.p) (b:=b.p) (c:=d.p) (by rw [← hn]; exact ha) eb (by rw [← hn]; exact ed),eb]
 by_cases e:aW (ak a.p (ar L j) d.p) 0=0
 ·rw [if_neg (fun h=>h e),if_neg (by rw [decide_eq_false (fun h=>h e)]; decide)]
 ·rw [if_pos e,if_pos (decide_eq_true e)]
theorem MI (Q:List Q2):sO Q Q.length=jJ Q:=rfl
theorem Vn (Q:List Q2):fK Q=if (sN true (sN false Q)).length < 3 then [] else eV (sN true (sN false Q)):=rfl
theorem Oe {R:List Q2} {n:Nat} (h:R.length=n) (h0:0 < n):cW R=some (.flat true n 6 (bS R)):=by
 unfold cW;rw [h];cases n with
 | zero=>omega
 | succ n=>rfl
theorem Of {k n:Nat} (h0:0 < n):eg k n=.slice (some ⟨k,0,none⟩) n aM:=by
 cases n with
 | zero=>omega
 | succ n=>rfl
def IE (f:FuncId):a9:={ ι:=QL × rD,args:=fun i=>[.func (.func f) #[] #[.pointer (some ⟨i.1.ae.length,0,none⟩),.pointer (some ⟨i.1.ae.length+1,0,none⟩),.pointer (some ⟨i.1.ae.length+2,0,none⟩)]],ae:=fun i=>i.1.ae++[.aO false 1 [[i.1.val]],.aO false 6 [i.2.1.cells], .aO false 6 [i.2.2.cells]],pre:=fun i=>i.1.list.length≤1073741824∧(∀ v∈i.1.list,Q2.sz 2048 v)∧i.2.1.sz 2048∧i.2.2.sz 2048,val:=fun i=>eg (i.1.ae.length+3) (db (bG i.2.1.p i.2.2.p) i.1.list).length,new:=fun i=>cW (db (bG i.2.1.p i.2.2.p) i.1.list) }
theorem xN {a b p:Q2} {k l m:Nat} (ha:Q2.sz k a) (hb:Q2.sz l b) (hp:Q2.sz m p):QB (ak a b p) (l+k+1+(m+k+1)+(l+k+1+(m+k+1))+1):=yL (pr hb ha) (pr hp ha)
theorem MJ {m:Q3} {L:List Q2} {j:Nat} {a b w:PV} {O:List Q2} {x y:Rat} (ib:(aU L)[j]?=some (a.p,b.p)) (hO:O=((aU L).take j).flatMap (nJ m)) (hx:x=ai m a.p) (hy:y=ai m b.p) (hw:w.p=atR a.p b.p (x / (x - y))) :
  ((aU L).take (j+1)).flatMap (nJ m)=O++((if aW x 0 ≥ 0 then [a.p] else [])++if aW x 0*aW y 0 < 0 then [w.p] else []):=by
 rw [MA ib,← hO,nJ];subst hx; subst hy
 congr 1
 unfold mK gO ja;rw [hw]
theorem Nr (m:Q3) (L:List Q2):((aU L).take L.length).flatMap (nJ m)=db m L:=by rw [N7,← ng L,List.take_length]
theorem XX (m:Q3) (L:List Q2) (j:Nat):(((aU L).take j).flatMap (nJ m)).length≤2*L.length:=by
 have:=FP m ((aU L).take j);rw [List.length_take,ng] at this;omega
theorem XY {L:List PV} (h:dL L=false):bH (aD L)=L:=by
 unfold bH aD;rw [List.map_map];refine (List.map_congr_left (fun p hp=>?_)).trans (List.map_id L)
 exact (BM h hp).symm
theorem WM {L:List PV} (h:bg L=0):dL L=false:=by
 cases e:dL L
 ·rfl
 ·obtain ⟨p,hp,hc⟩:=List.any_eq_true.1 e;exact absurd ((j8 h).2.1 p hp) (of_decide_eq_true hc)
theorem uq {L:List PV} (h:bg L=0):bS (aD L)=cB L:=by unfold bS; rw [XY (WM h)]
theorem XZ {R:List Q2} (h:R.length=0):qZ R=([],11):=if_pos h
theorem X0 {R:List Q2} (h:64 < R.length):qZ R=([],4):=by unfold qZ; rw [if_neg (by omega),if_pos h]
theorem Hi {R:List Q2} (h:¬ R.length=0) (J:¬ 64 < R.length):qZ R=(R,0):=by unfold qZ; rw [if_neg h,if_neg J]
theorem X1 {k:Nat} {m:Q3} {P:List Q2} (sm:Q3.sz k m) (hP:∀ v∈P,Q2.sz 2048 v) (hk:k≤12291):∀ v∈db m P,Q2.sz 262144 v:=by
 intro v hv;rcases N6 hv with ⟨h1,_⟩ | ⟨e,he,hx⟩
 ·exact Q2.mono (hP v h1) (by decide)
 ·have hx:=tQ hx;rw [hx.2.1];have h1:=hP _ (gL he).1;have J:=hP _ (gL he).2;have s1:=OR sm h1;have s2:=OR sm J;have:=zH h1 J (s1.div (s1.sub s2) (by omega))
  exact Q2.mono this (by omega)
theorem Gl {P:List Q2} {a b:Q2} (hl:P.length≤1073741824) (hP:∀ v∈P,Q2.sz 2048 v) (ha:Q2.sz 2048 a) (hb:Q2.sz 2048 b):(db (bG a b) P).length≤549755813888∧∀ v∈db (bG a b) P,Q2.sz 262144 v :=
 ⟨by have:=WD (bG a b) P; omega,X1 (k:=12291) (Q3.mono (OQ ha hb) (by decide)) hP (Nat.le_refl _)⟩
def aeS (v:Value) (q:Nat):Nat→Value
 | 0=>v
 | _+1=>eg 5 q
def aeT (F:Nat→List Value) (q:Nat):Nat→aA
 | 0=>[]
 | _+1=>zU 6 F q
theorem HR {A B:List PV} (h:¬ (bg A=0∧bg B=0)):dm A B=([],1):=if_neg h
theorem OZ {A B:List PV} {R:List Q2} (h:bg A=0∧bg B=0) (hR:R=ju (aD A) (aD B) B.length):dm A B=qZ R:=by
 unfold dm;rw [if_pos h,hR,← cA B,MB]
theorem Fo {P Q C R:List Q2} {j:Nat} {a b:Q2} (ib:(aU Q)[j]?=some (a,b)) (hC:C=db (bG a b) (ju P Q j)) (hR:R=fK C):R=ju P Q (j+1):=by
 rw [Uc ib,hR,hC]; rfl
def q8 (s:Bool):bE:={ ι:=Int,args:=fun z=>[.int .i64 z],pre:=fun _=>True,val:=fun z=>.bool (j4 s z) }
abbrev SI:=((List Q2 × Nat) × (List Q2 × Nat)) × FuncId × Bool
def fc (o:Option (Q2 × Q2)):XV × Bool:=match o with
 | some e=>(Rs e,true)
 | none=>(lT,false)
def SI.ok (f1 f2 f3:FuncId) (i:SI):Prop:=(i.2=(f1,true)∨i.2=(f2,false)∨i.2=(f3,true))∧(i.1.1.1.length≤1073741824∧∀ v∈i.1.1.1,Q2.sz 2048 v)∧i.1.2.1.length≤1073741824∧∀ v∈i.1.2.1,Q2.sz 2048 v
def x0 (f1 f2 f3:FuncId) (V:Bool→List Q2→List Q2→Option (Q2 × Q2)):a9:={ ι:=SI,args:=fun i=>[.slice (some ⟨0,0,none⟩) i.1.1.1.length i.1.1.2,.slice (some ⟨1,0,none⟩) i.1.2.1.length i.1.2.2,.func (.func i.2.1) #[] #[]],ae:=fun i=>[.flat false i.1.1.1.length 6 (bS i.1.1.1),.flat false i.1.2.1.length 6 (bS i.1.2.1)],pre:=SI.ok f1 f2 f3,val:=fun i=>.tuple ⟨[(fc (V i.2.2 i.1.1.1 i.1.2.1)).1.v,.bool (fc (V i.2.2 i.1.1.1 i.1.2.1)).2]⟩,new:=fun _=>none }
def nK (s:Bool) (B:List Q2) (e:Q2 × Q2):Bool:=B.all fun x=>j4 s (aW (ak e.1 e.2 x) 0)
def s4 (s:Bool) (a b x:Q2):Bool:=!j4 s (aW (ak a b x) 0)
theorem X2 {s:Bool} {B:List Q2} {a b:Q2} (h:B.any (s4 s a b)=false):nK s B (a,b)=true:=by
 unfold nK;rw [List.all_eq_true];intro x hx;cases e:j4 s (aW (ak a b x) 0)
 ·have:B.any (s4 s a b)=true:=List.any_eq_true.2 ⟨x,hx,by unfold s4; rw [e]; rfl⟩
  rw [h] at this; cases this
 ·rfl
theorem GQ {s:Bool} {B:List Q2} {a b x:Q2} (hx:x∈B) (h:s4 s a b x=true):nK s B (a,b)=false:=by
 unfold nK;cases e:B.all fun x=>j4 s (aW (ak (a,b).1 (a,b).2 x) 0)
 ·rfl
 ·have:=List.all_eq_true.1 e x hx;unfold s4 at h;rw [show j4 s (aW (ak a b x) 0)=true from this] at h
  cases h
theorem WN {s:Bool} {A B:List Q2} {j:Nat} {e:Q2 × Q2} (h:oa (nK s B) (aU A) j) (he:(aU A)[j]?=some e) (J:nK s B e=true):fa s A B=some e:=by
 unfold fa;rw [show (fun e:Q2 × Q2=>B.all fun x=>j4 s (aW (ak e.1 e.2 x) 0))=nK s B from rfl]
 have hj:=(List.getElem?_eq_some_iff.1 he).1;rw [← List.take_append_drop j (aU A),List.find?_append,List.find?_eq_none.2,List.drop_eq_getElem_cons hj]
 ·rw [List.find?_cons,(List.getElem?_eq_some_iff.1 he).2,J]; rfl
 ·intro x hx hc;have:((aU A).take j).any (nK s B)=true:=List.any_eq_true.2 ⟨x,hx,hc⟩;rw [show ((aU A).take j).any (nK s B)=false from h] at this
  cases this
theorem WO {s:Bool} {A B:List Q2} {n:Nat} (hn:n=A.length) (h:oa (nK s B) (aU A) n):fa s A B=none:=by
 unfold fa;rw [List.find?_eq_none];intro x hx hc;rw [hn,← ng A] at h;have:=Fl h;have J:(aU A).any (nK s B)=true:=List.any_eq_true.2 ⟨x,hx,hc⟩;rw [this] at J;cases J
theorem X3 {s:Bool} {A B:List Q2} {x:XV} (h:fc (fa s A B)=(x,true)):fc (eK s A B)=(x,true):=by
 unfold eK;cases e:fa s A B with
 | none=>rw [e] at h; cases h
 | some y=>rw [e] at h; exact h
theorem X4 {s:Bool} {A B:List Q2} {x:XV} (h:fc (fa s A B)=(x,false)):fc (eK s A B)=fc (fa s B A):=by
 unfold eK;cases e:fa s A B with
 | none=>rfl
 | some y=>rw [e] at h; cases h
theorem sC {s:Bool} {A B:List PV} (h:¬ (bg A=0∧bg B=0)):gw s A B=(false,1):=if_neg h
theorem Og {s:Bool} {A B:List PV} {x:XV} {z:Bool} (h:bg A=0∧bg B=0) (J:fc (eK s (aD A) (aD B))=(x,z)):gw s A B=(!z,0):=by
 unfold gw;rw [if_pos h];cases e:eK s (aD A) (aD B) with
 | none=>rw [e] at J; cases J; rfl
 | some y=>rw [e] at J; cases J; rfl
theorem CU {A B:List PV} (h:¬ (bg A=0∧bg B=0)):jh A B=(lT,1):=if_neg h
theorem X5 {A B:List PV} {x:XV} {z:Bool} (h:bg A=0∧bg B=0) (J:fc (eK true (aD A) (aD B))=(x,z)):jh A B=if z=true then (x,0) else (lT,6):=by
 unfold jh;rw [if_pos h];cases e:eK true (aD A) (aD B) with
 | none=>rw [e] at J; cases J; rfl
 | some y=>rw [e] at J; cases J; rfl
def s5:bE:={ ι:=PV,args:=fun i=>[i.v],pre:=fun _=>True,val:=fun i=>.bool (decide (¬ i.sz 12)) }
def nv (L:List PV):Bool:=decide ((10 < L.length∧L.length < 63)∨66 < L.length) || uL 12 L
def kS:a9:={ ι:=PL,args:=fun i=>[i.val],ae:=PL.ae,pre:=fun i=>i.list.length≤9223372036854775807,val:=fun i=>.bool (nv i.list),new:=fun _=>none }
theorem LR {L:List PV} (h:(10 < L.length∧L.length < 63)∨66 < L.length):nv L=true:=by unfold nv; rw [decide_eq_true h]; rfl
theorem Uh {L:List PV} (h:¬ ((10 < L.length∧L.length < 63)∨66 < L.length)):nv L=uL 12 L:=by unfold nv; rw [decide_eq_false h]; rfl
theorem MK {L:List PV} (h:nv L=false):(L.length≤10∨(63≤L.length∧L.length≤66))∧∀ p∈L,p.sz 12:=by
 unfold nv at h;rw [Bool.or_eq_false_iff] at h;have h1:=of_decide_eq_false h.1;exact ⟨by omega,Sw h.2⟩
theorem Ct {n1 n2:Bool} {a1 b1 a2 b2:ByteArray} (h:12 < a1.size∨12 < b1.size∨12 < a2.size∨12 < b2.size):Value.bool true=s5.val ((n1,a1,b1),(n2,a2,b2)):=by
 have hn:¬ PV.sz 12 ((n1,a1,b1),(n2,a2,b2)):=fun e=>by
  have e:(a1.size≤12∧b1.size≤12)∧a2.size≤12∧b2.size≤12:=e;omega
 exact congrArg Value.bool (decide_eq_true hn).symm
theorem aaP {n1 n2:Bool} {a1 b1 a2 b2:ByteArray} (h:¬ (12 < a1.size∨12 < b1.size∨12 < a2.size∨12 < b2.size)):Value.bool false=s5.val ((n1,a1,b1),(n2,a2,b2)):=by
 refine (congrArg Value.bool (decide_eq_false fun e=>e ?_)).symm
 show (a1.size≤12∧b1.size≤12)∧a2.size≤12∧b2.size≤12
 omega
open Go
open Go
def z6 (a b:Q2) (st:Option (Rat × Rat)) (e:Q2 × Q2):Option (Rat × Rat) :=
 match st with
 | none=>none
 | some (lo,hi) =>
  if ak e.1 e.2 a≤0∧ak e.1 e.2 b≤0 then none
  else if 0 < ak e.1 e.2 a∧0 < ak e.1 e.2 b then some (lo,hi)
  else if 0 < ak e.1 e.2 b then some (mc lo (ak e.1 e.2 a / (ak e.1 e.2 a - ak e.1 e.2 b)),hi)
  else some (lo,me hi (ak e.1 e.2 a / (ak e.1 e.2 a - ak e.1 e.2 b)))
def s6 (st:Option (Rat × Rat)):Option (Rat × Rat):=match st with
 | none=>none
 | some (lo,hi)=>if hi≤lo then none else some (lo,hi)
theorem X6 (Q:List Q2) (a b:Q2):q7 Q a b=s6 ((aU Q).foldl (xZ a b) (some (0,1))):=rfl
theorem max_le (x y:Rat):x≤mc x y∧y≤mc x y:=by unfold mc; split <;> grind
theorem min_le (x y:Rat):me x y≤x∧me x y≤y:=by unfold me; split <;> grind
theorem max_eq {x y:Rat} (h:y≤x):mc x y=x:=by unfold mc; rw [if_neg (by grind)]
theorem min_eq {x y:Rat} (h:x≤y):me x y=x:=by unfold me; rw [if_neg (by grind)]
theorem Gm {a b:Q2}:∀ l:List (Q2 × Q2),l.foldl (xZ a b) none=none
 | []=>rfl
 | e::l=>by rw [List.foldl_cons]; exact Gm l
theorem yP {a b:Q2}:∀ l:List (Q2 × Q2),l.foldl (z6 a b) none=none
 | []=>rfl
 | e::l=>by rw [List.foldl_cons]; exact yP l
theorem ML (a b:Q2) (lo hi:Rat) (e:Q2 × Q2):xZ a b (some (lo,hi)) e=if ak e.1 e.2 b - ak e.1 e.2 a=0 then (if ak e.1 e.2 a≤0 then none else some (lo,hi))
  else if 0 < ak e.1 e.2 b - ak e.1 e.2 a then some (mc lo (-ak e.1 e.2 a / (ak e.1 e.2 b - ak e.1 e.2 a)),hi)
  else some (lo,me hi (-ak e.1 e.2 a / (ak e.1 e.2 b - ak e.1 e.2 a))):=rfl
theorem MM (a b:Q2) (lo hi:Rat) (e:Q2 × Q2):z6 a b (some (lo,hi)) e=if ak e.1 e.2 a≤0∧ak e.1 e.2 b≤0 then none
  else if 0 < ak e.1 e.2 a∧0 < ak e.1 e.2 b then some (lo,hi)
  else if 0 < ak e.1 e.2 b then some (mc lo (ak e.1 e.2 a / (ak e.1 e.2 a - ak e.1 e.2 b)),hi)
  else some (lo,me hi (ak e.1 e.2 a / (ak e.1 e.2 a - ak e.1 e.2 b))):=rfl
theorem Ns {a b:Q2}:∀ (l:List (Q2 × Q2)) (lo hi:Rat),hi≤lo→s6 (l.foldl (xZ a b) (some (lo,hi)))=none:=by
 intro l
 induction l with
 | nil=>intro lo hi h; unfold s6; simp only [List.foldl_nil]; rw [if_pos h]
 | cons e l ih =>
  intro lo hi h;rw [List.foldl_cons,ML]
  split
  ·split
   ·rw [Gm]; rfl
   ·exact ih _ _ h
  ·split
   ·refine ih _ _ ?_;have:=(max_le lo (-ak e.1 e.2 a / (ak e.1 e.2 b - ak e.1 e.2 a))).1;grind
   ·refine ih _ _ ?_;have:=(min_le hi (-ak e.1 e.2 a / (ak e.1 e.2 b - ak e.1 e.2 a))).1;grind
theorem X7 {x y:Rat} (h:y - x≠0):(-x / (y - x))*(y - x)=-x∧-x / (y - x)=x / (x - y):=by
 refine ⟨by rw [Rat.div_def]; grind,?_⟩
 have J:x - y≠0:=by grind
 have e1:(-x / (y - x))*(y - x)=-x:=by rw [Rat.div_def]; grind
 have e2:(x / (x - y))*(x - y)=x:=by rw [Rat.div_def]; grind
 have:(y - x)*(-x / (y - x) - x / (x - y))=0:=by grind
 have:=(Rat.mul_eq_zero.1 this).resolve_left h;grind
theorem BN {a b k:Rat} (hk:0 < k) (h:a*k≤b*k):a≤b:=by
 by_cases h1:a≤b
 ·exact h1
 ·have:=Rat.mul_pos (show 0 < a - b by grind) hk
  grind
theorem Oh {a b:Q2}:∀ (l:List (Q2 × Q2)) (lo hi:Rat),0≤lo→hi≤1→s6 (l.foldl (z6 a b) (some (lo,hi)))=s6 (l.foldl (xZ a b) (some (lo,hi))):=by
 intro l
 induction l with
 | nil=>intro lo hi _ _; rfl
 | cons e l ih =>
  intro lo hi h0 h1;rw [List.foldl_cons,List.foldl_cons,ML,MM];generalize ak e.1 e.2 a=x;generalize ak e.1 e.2 b=y;by_cases hs:y - x=0
  ·rw [if_pos hs];by_cases hx:x≤0
   ·rw [if_pos ⟨hx,by grind⟩,if_pos hx,yP,Gm]
   ·rw [if_neg (fun e=>hx e.1),if_pos ⟨by grind,by grind⟩,if_neg hx]
    exact ih _ _ h0 h1
  ·obtain ⟨ht,te⟩:=X7 hs;rw [if_neg hs,te];rw [te] at ht;generalize x / (x - y)=t at ht;by_cases hp:0 < y - x
   ·rw [if_pos hp];by_cases hy:y≤0
    ·rw [if_pos ⟨by grind,hy⟩,yP,Ns]
     ·rfl
     ·have J:1≤t:=BN hp (by grind)
      have:=(max_le lo t).2;grind
    ·rw [if_neg (fun e=>hy e.2)]
     by_cases hx:0 < x
     ·rw [if_pos ⟨hx,by grind⟩]
      have J:t≤0:=BN hp (by grind)
      rw [max_eq (by grind)]
      exact ih _ _ h0 h1
     ·rw [if_neg (fun e=>hx e.1),if_pos (by grind)]
      exact ih _ _ (by have:=(max_le lo t).1; grind) h1
   ·have hn:0 < x - y:=by grind
    rw [if_neg hp];by_cases hx:x≤0
    ·rw [if_pos ⟨hx,by grind⟩,yP,Ns]
     ·rfl
     ·have J:t≤0:=BN hn (by grind)
      have:=(min_le hi t).2;grind
    ·rw [if_neg (fun e=>hx e.1)]
     by_cases hy:0 < y
     ·rw [if_pos ⟨by grind,hy⟩]
      have J:1≤t:=BN hn (by grind)
      rw [min_eq (by grind)]
      exact ih _ _ h0 h1
     ·rw [if_neg (fun e=>hy e.2),if_neg hy]
      exact ih _ _ h0 (by have:=(min_le hi t).1; grind)
def u3 (Q:List Q2) (a b:Q2) (j:Nat):Option (Rat × Rat):=((aU Q).take j).foldl (z6 a b) (some (0,1))
theorem Ui {Q:List Q2} {a b p q:Q2} {j:Nat} {lo hi x y:Rat} (h:u3 Q a b j=some (lo,hi)) (he:(aU Q)[j]?=some (p,q)) (hx:x=ak p q a) (hy:y=ak p q b) :
  u3 Q a b (j+1)=if x≤0∧y≤0 then none else if 0 < x∧0 < y then some (lo,hi) else if 0 < y then some (mc lo (x / (x - y)),hi) else some (lo,me hi (x / (x - y))):=by
 unfold u3 at *;rw [MF he,h,MM];subst hx; subst hy;simp only
theorem Uj {Q:List Q2} {a b:Q2} {j:Nat} (h:u3 Q a b j=none):q7 Q a b=none:=by
 rw [X6,← Oh _ _ _ (by grind) (by grind)]
 have e:aU Q=(aU Q).take j++(aU Q).drop j:=(List.take_append_drop ..).symm;rw [e,List.foldl_append,show List.foldl (z6 a b) (some (0,1)) ((aU Q).take j)=none from h,yP]
 rfl
theorem Vo {Q:List Q2} {a b:Q2} {n:Nat} (hn:n=Q.length):s6 (u3 Q a b n)=q7 Q a b:=by
 unfold u3;rw [hn,← ng Q,List.take_length,Oh _ _ _ (by grind) (by grind)]
 rfl
theorem O0 {L:List PV} {s:XV} (h:¬ (bg L=0∧s.1.canon∧s.2.canon)):gZ L s=((dp,dp),false,1):=if_neg h
theorem Oi {L:List PV} {s:XV} (h:bg L=0∧s.1.canon∧s.2.canon) (J:q7 (aD L) s.1.p s.2.p=none):gZ L s=((dp,dp),false,0):=by unfold gZ; rw [if_pos h,J]
theorem X8 {L:List PV} {s:XV} {lo hi:Rat} (h:bg L=0∧s.1.canon∧s.2.canon) (J:q7 (aD L) s.1.p s.2.p=some (lo,hi)):gZ L s=((RV.of lo,RV.of hi),true,0):=by unfold gZ; rw [if_pos h,J]
theorem WQ {lo hi:Rat} (h:hi≤lo):s6 (some (lo,hi))=none:=if_pos h
theorem WR {lo hi:Rat} (h:¬ hi≤lo):s6 (some (lo,hi))=some (lo,hi):=if_neg h
theorem X9 {L:List PV} {p q:PV} {lo hi:RV} (h:bg L=0∧p.canon∧q.canon) (J:q7 (aD L) p.p q.p=some (lo.q,hi.q)) (c1:lo=RV.of lo.q) (c2:hi=RV.of hi.q):gZ L (p,q)=((lo,hi),true,0):=by
 have:=X8 (s:=(p,q)) h J;rw [← c1,← c2] at this;exact this
open Go
open Go
abbrev II:=List (Int × Int)
def iq (x:Int × Int):Q2:=((x.1:Rat),(x.2:Rat))
def bt (l:II):List Q2:=l.map iq
def rG (l:II) (k:Nat):Int × Int:=l.getD k (0,0)
def nG (l:II) (r:Nat):List Value:=[.int .i64 (if r % 2=0 then (rG l (r / 2)).1 else (rG l (r / 2)).2)]
def im:a9:={ ι:=II,args:=fun i=>[.slice (some ⟨0,0,none⟩) (2*i.length) (2*i.length)],ae:=fun i=>[.flat false (2*i.length) 1 (nG i)],pre:=fun i=>(0 < i.length∧i.length≤1000000)∧∀ x∈i,x.1.natAbs < 256∧x.2.natAbs < 256,val:=fun i=>.slice (some ⟨1,0,none⟩) i.length aM,new:=fun i=>some (.flat true i.length 6 (bS (bt i))) }
theorem Nt {l:II} {j:Nat} {x:Int × Int} (h:x=rG l j):nG l (2*j)=[.int .i64 x.1]:=by
 unfold nG;rw [if_pos (by omega),show 2*j / 2=j by omega,h]
theorem Nv {l:II} {j:Nat} {x:Int × Int} (h:x=rG l j):nG l (2*j+1)=[.int .i64 x.2]:=by
 unfold nG;rw [if_neg (by omega),show (2*j+1) / 2=j by omega,h]
theorem Oj {l:II} {j:Nat} (h:j < l.length):rG l j∈l∧l[j]?=some (rG l j):=by
 unfold rG;rw [List.getD_eq_getElem?_getD,List.getElem?_eq_getElem h];exact ⟨List.getElem_mem h,rfl⟩
theorem Nw {l:II} {j:Nat} {x:Int × Int} (h:l[j]?=some x):bt (l.take (j+1))=bt (l.take j)++[iq x]:=by
 unfold bt;rw [List.take_add_one,h,List.map_append]
 rfl
theorem Ca (l:II) (rows:List (List Value)) (h:rows=(List.range (2*l.length)).map (nG l)):aG (.flat false (2*l.length) 1 (nG l)) (.aO true 1 rows) :=
 B5 (by rw [h]; simp) (fun r hr=>by
  rw [h,List.getD_eq_getElem?_getD,List.getElem?_map,List.getElem?_range hr]
  rfl) (fun r hr=>rfl)
theorem FU (x:Q2):(cj x).canon:=⟨by show RV.of x.1=RV.of (RV.of x.1).q; rw [RV.iw],by show RV.of x.2=RV.of (RV.of x.2).q; rw [RV.iw]⟩
def dv:II:=[(0,0),(4,0),(4,4),(0,4)]
def jF:II:=[(3,3),(7,3),(3,7)]
def j5:II:=[(4,1),(6,1),(4,3)]
def jG:II:=[(3,3),(4,3),(4,4),(3,4)]
theorem xj (L:List Q2):aD (bH L)=L:=by
 unfold bH aD;rw [List.map_map];refine (List.map_congr_left (fun p hp=>?_)).trans (List.map_id L)
 exact gF p
theorem Vp {L:List Q2}:∀ p∈bH L,p.canon:=fun p hp=>by
 obtain ⟨x,_,rfl⟩:=List.mem_map.1 hp;exact FU x
theorem Hj {l:II} (h1:3≤l.length∧l.length≤64) (J:DE (bt l)=true) (h3:Dg (bt l)=true):bg (bH (bt l))=0:=by
 unfold bg;rw [if_neg (by rw [LJ]; unfold bt; rw [List.length_map]; omega),if_neg (fun e=>by obtain ⟨p,hp,hc⟩:=List.any_eq_true.1 e; exact of_decide_eq_true hc (Vp p hp)),xj,if_pos J,if_pos h3]
theorem GR:bg (bH (bt dv))=0:=Hj (by decide) (by decide +kernel) (by decide +kernel)
theorem Ya:bg (bH (bt jF))=0:=Hj (by decide) (by decide +kernel) (by decide +kernel)
theorem Yb:bg (bH (bt j5))=0:=Hj (by decide) (by decide +kernel) (by decide +kernel)
theorem WS:jw (bt dv) (bt jF)=bt jG:=by decide +kernel
theorem Pu:dm (bH (bt dv)) (bH (bt jF))=(bt jG,0):=by
 unfold dm;rw [if_pos ⟨GR,Ya⟩,xj,xj,WS];exact Hi (by decide) (by decide)
theorem aaQ:jh (bH (bt dv)) (bH (bt j5))=((cj (iq (4,0)),cj (iq (4,4))),0):=by
 unfold jh;rw [if_pos ⟨GR,Yb⟩,xj,xj,show eK true (bt dv) (bt j5)=some (iq (4,0),iq (4,4)) by decide +kernel]
 rfl
theorem aaR:gZ (bH (bt dv)) (cj (iq (-2,1)),cj (iq (6,1)))=((RV.of (1 / 4),RV.of (3 / 4)),true,0):=by
 unfold gZ;rw [if_pos ⟨GR,FU _,FU _⟩,xj];show (match q7 (bt dv) (cj (iq (-2,1))).p (cj (iq (6,1))).p with | some (lo,hi)=>((RV.of lo,RV.of hi),true,(0:Int)) | none=>((dp,dp),false,0))=_
 rw [gF,gF,show q7 (bt dv) (iq (-2,1)) (iq (6,1))=some (1 / 4,3 / 4) by decide +kernel]
theorem HS {A B:List PV} (hA:∀ v∈A,v.sz 12) (hB:∀ v∈B,v.sz 12):z5 A B:=fun h1 J=>by
 have a:=j8 h1;have b:=j8 J;refine XU (S:=km (aD A)) b.2.2.1 (fun m hm=>Q3.mono (B7 (k:=12) (lM hA (by decide)) m hm) (by decide)) (fun m hm=>Q3.mono (B7 (k:=12) (lM hB (by decide)) m hm) (by decide)) (by rw [BL,cA,cA]; omega) (.inr ⟨a.2.2.1,a.2.2.2,Nn a.2.2.1⟩)
theorem HT {l:II} (h:∀ x∈l,x.1.natAbs < 256∧x.2.natAbs < 256):∀ v∈bH (bt l),v.sz 12:=fun v hv=>by
 obtain ⟨x,hx,rfl⟩:=List.mem_map.1 hv;obtain ⟨y,hy,rfl⟩:=List.mem_map.1 hx;exact sj (vi y.1 y.2 (h y hy).1 (h y hy).2) (by decide)
theorem DF {L:List PV} (h:∀ v∈L,v.sz 12):∀ v∈L,v.sz 2048:=fun v hv=>PV.aY (h v hv) (by decide)
theorem Hk {l:II} {c:Nat} (h:∀ x∈l,x.1.natAbs < 256∧x.2.natAbs < 256) (hl:l.length≤1000):PL.fit (some (bH (bt l),c)):=⟨by show (bH (bt l)).length≤_; rw [LJ]; unfold bt; rw [List.length_map]; omega,DF (HT h)⟩
theorem Nx {c:Nat}:fh.val (some (bH (bt dv),c),some (bH (bt jF),c))=.tuple ⟨[.slice (some ⟨2,0,none⟩) 4 aM,.int .i64 0]⟩∧fh.new (some (bH (bt dv),c),some (bH (bt jF),c))=some (.flat true 4 6 (bS (bt jG))):=by
 refine ⟨?_,?_⟩
 ·show Value.tuple ⟨[eg 2 (dm (bH (bt dv)) (bH (bt jF))).1.length,.int .i64 (dm (bH (bt dv)) (bH (bt jF))).2]⟩=_
  rw [Pu]; rfl
 ·show cW (dm (bH (bt dv)) (bH (bt jF))).1=_
  rw [Pu]; rfl
theorem Yc {c:Nat} {a b:PV} (ha:a=cj (iq (4,0))) (hb:b=cj (iq (4,4))):fO.val (some (bH (bt dv),c),some (bH (bt j5),c))=.tuple ⟨[XV.v (a,b),.int .i64 0]⟩:=by
 show Value.tuple ⟨[(jh (bH (bt dv)) (bH (bt j5))).1.v,.int .i64 (jh (bH (bt dv)) (bH (bt j5))).2]⟩=_
 rw [aaQ,ha,hb]
theorem Yd {c:Nat} {a b:PV} {x y:RV} (ha:a=cj (iq (-2,1))) (hb:b=cj (iq (6,1))) (hx:x=RV.of (1 / 4)) (hy:y=RV.of (3 / 4)):mL.val (some (bH (bt dv),c),(a,b))=.tuple ⟨[x.v,y.v,.bool true,.int .i64 0]⟩:=by
 show Value.tuple ⟨[(gZ (bH (bt dv)) (a,b)).1.1.v,(gZ (bH (bt dv)) (a,b)).1.2.v,.bool (gZ (bH (bt dv)) (a,b)).2.1,.int .i64 (gZ (bH (bt dv)) (a,b)).2.2]⟩=_
 rw [ha,hb,aaR,hx,hy]
open Go
def Ok:a9:={ ι:=mo,args:=fun i=>[i.1.val,i.2.u1 i.1.ae.length],ae:=fun i=>i.1.ae++i.2.ae,pre:=fun i=>mo.fit i∧z5 i.1.list i.2.list,val:=fun i=>.tuple ⟨[.slice (some ⟨(i.1.ae++i.2.ae).length,0,none⟩) (dm i.1.list i.2.list).1.length aM,.int .i64 (dm i.1.list i.2.list).2]⟩,new:=fun i=>some (.flat true (dm i.1.list i.2.list).1.length 6 (bS (dm i.1.list i.2.list).1)) }
theorem Pv {i k:PL} {R:List Q2} {e:Int} (h:(R,e)=dm i.list k.list):fh.val (i,k)=.tuple ⟨[eg (i.ae++k.ae).length R.length,.int .i64 e]⟩∧fh.new (i,k)=cW R∧Ok.val (i,k)=.tuple ⟨[.slice (some ⟨(i.ae++k.ae).length,0,none⟩) R.length aM,.int .i64 e]⟩∧Ok.new (i,k)=some (.flat true R.length 6 (bS R)):=by
 refine ⟨?_,?_,?_,?_⟩
 ·show Value.tuple ⟨[eg (i.ae++k.ae).length (dm i.list k.list).1.length,.int .i64 (dm i.list k.list).2]⟩=_; rw [← h]
 ·show cW (dm i.list k.list).1=_; rw [← h]
 ·show Value.tuple ⟨[.slice (some ⟨(i.ae++k.ae).length,0,none⟩) (dm i.list k.list).1.length aM,.int .i64 (dm i.list k.list).2]⟩=_; rw [← h]
 ·show some (aj.flat true (dm i.list k.list).1.length 6 (bS (dm i.list k.list).1))=_; rw [← h]
open Go
theorem LS {α:Type} (f:α→Int) (k:Int):∀ (l:List α) (o:Int),k≤l.foldl (fun o e=>min o (f e)) o↔k≤o∧∀ e∈l,k≤f e
 | [],o=>by simp
 | e::l,o=>by
  rw [List.foldl_cons,LS f k l];simp only [List.mem_cons,forall_eq_or_imp];rw [Int.le_min,and_assoc]
theorem Cu {Q:List Q2} {p:Q2} {k:Int}:k≤fu Q p↔k≤1∧∀ e∈aU Q,k≤aW (ak e.1 e.2 p) 0:=by
 have:=LS (fun e:Q2 × Q2=>aW (ak e.1 e.2 p) 0) k (aU Q) 1
 rw [← this];have e:zZ p=fun (o:Int) (e:Q2 × Q2)=>min o (aW (ak e.1 e.2 p) 0):=by
  funext o e
  simp only [zZ];rw [Int.min_def]
  split <;> split <;> omega
 rw [← e]; rfl
theorem Uk (Q:List Q2) (p:Q2):fu Q p=-1∨fu Q p=0∨fu Q p=1:=by
 have h1:-1≤fu Q p:=Cu.2 ⟨by decide,fun e _=>by have:=p8 (ak e.1 e.2 p) 0; omega⟩
 have J:=(Cu (Q:=Q) (p:=p) (k:=fu Q p)).1 (Int.le_refl _);omega
theorem Ny {x:Rat}:1≤aW x 0↔0 < x:=by
 have:=p8 x 0;rw [← uh]; omega
theorem ur {Q:List Q2} {p:Q2}:fu Q p=1↔∀ e∈aU Q,0 < ak e.1 e.2 p:=by
 have h:=Cu (Q:=Q) (p:=p) (k:=1);have:=Uk Q p;constructor
 ·intro e x hx;exact Ny.1 ((h.1 (by omega)).2 x hx)
 ·intro e;have:=h.2 ⟨Int.le_refl _,fun x hx=>Ny.2 (e x hx)⟩
  omega
theorem wi {Q:List Q2} {p:Q2}:0≤fu Q p↔∀ e∈aU Q,0≤ak e.1 e.2 p:=by
 rw [Cu];exact ⟨fun h e he=>mF.1 (h.2 e he),fun h=>⟨by decide,fun e he=>mF.2 (h e he)⟩⟩
theorem ni {Q:List Q2} {p:Q2} (h:Ring Q):0≤fu Q p↔bM Q p:=by
 rw [wi];constructor
 ·intro J;exact S6 h fun k hk=>J (ar Q k,ar Q (aX Q.length k)) (kg hk)
 ·intro J e he;exact wI h.cT he J
def DP (Q:List Q2) (p:Q2):Prop:=∀ e∈aU Q,0 < ak e.1 e.2 p
def IF (Q:List Q2):Q2:=Q.foldl (fun s v=>xW s v) (0,0)
theorem aaS (a b:Q2):∀ (Q:List Q2) (s:Q2) (m:Rat),(∀ v∈Q,0≤ak a b v)→∀ k:Rat,(b.1 - a.1)*(s.2 - k*a.2) - (b.2 - a.2)*(s.1 - k*a.1)=m →
  ∃ d:Rat,(b.1 - a.1)*((Q.foldl (fun s v=>xW s v) s).2 - (k+Q.length)*a.2) - (b.2 - a.2)*((Q.foldl (fun s v=>xW s v) s).1 - (k+Q.length)*a.1)=m+d∧0≤d∧((∃ v∈Q,0 < ak a b v)→0 < d):=by
 intro Q
 induction Q with
 | nil =>
  intro s m _ k h;refine ⟨0,?_,by grind,fun ⟨v,hv,_⟩=>nomatch hv⟩
  simp only [List.foldl_nil,List.length_nil];grind
 | cons v Q ih =>
  intro s m hQ k h;have hv:=hQ v (List.mem_cons_self ..);obtain ⟨d,h1,J,h3⟩:=ih (xW s v) (m+ak a b v) (fun u hu=>hQ u (List.mem_cons_of_mem _ hu)) (k+1) (by rw [dj]; unfold xW; grind)
  refine ⟨ak a b v+d,?_,by grind,?_⟩
  ·rw [List.foldl_cons,List.length_cons];have:(k+1+((Q.length:Nat):Rat))=k+((Q.length+1:Nat):Rat):=by rw [Rat.natCast_add]; grind
   rw [this] at h1;rw [h1]; grind
  ·rintro ⟨u,hu,hp⟩
   rcases List.mem_cons.1 hu with rfl | hu
   ·grind
   ·have:=h3 ⟨u,hu,hp⟩;grind
theorem K8 {Q:List Q2} (h:Ring Q):fu Q (JF (1 / (Q.length:Rat)) (IF Q))=1:=by
 refine ur.2 fun e he=>?_
 obtain ⟨j,hj,rfl⟩:=wW he;have h3:=h.three;obtain ⟨d,h1,J,h4⟩:=aaS (ar Q j) (ar Q (aX Q.length j)) Q (0,0) 0 (fun v hv=>iG h.cT (kg hj) hv) 0 (by grind)
 have hd:0 < d:=h4 ⟨_,eJ (cL (cL hj)),S8 h hj⟩;have hn:(0:Rat) < (Q.length:Rat):=by
  have:((0:Nat):Rat) < (Q.length:Rat):=Rat.natCast_lt_natCast.2 (by omega)
  exact this
 have hi:(1 / (Q.length:Rat))*(Q.length:Rat)=1:=by rw [Rat.div_def]; grind
 have fY:0 < 1 / (Q.length:Rat):=by
  by_cases h1:0 < 1 / (Q.length:Rat)
  ·exact h1
  ·have:=Rat.mul_nonneg (show 0≤-(1 / (Q.length:Rat)) by grind) (show 0≤(Q.length:Rat) by grind)
   grind
 have:=Rat.mul_pos fY hd;have e:ak (ar Q j) (ar Q (aX Q.length j)) (JF (1 / (Q.length:Rat)) (IF Q))=(1 / (Q.length:Rat))*d:=by
  rw [dj];unfold JF IF;generalize List.foldl (fun s v=>xW s v) (0,0) Q=S at h1 ⊢
  generalize (1 / (Q.length:Rat))=i at hi ⊢;simp only;have h1:(ar Q (aX Q.length j)).1*S.2 - (ar Q j).1*S.2 - ((ar Q (aX Q.length j)).2*S.1 - (ar Q j).2*S.1) - (Q.length:Rat)*((ar Q (aX Q.length j)).1*(ar Q j).2 - (ar Q (aX Q.length j)).2*(ar Q j).1)=d:=by grind
  grind
 rw [e];exact this
open Go
def kz (L:List PV):Bool:=nv L || decide (10 < L.length) || decide (bg L≠0)
def fi:a9:={ ι:=PL,args:=fun i=>[i.val],ae:=PL.ae,pre:=fun i=>i.list.length≤9223372036854775807,val:=fun i=>.bool (kz i.list),new:=fun _=>none }
theorem Ol {L:List PV} (h:kz L=false):L.length≤10∧(∀ p∈L,p.sz 12)∧bg L=0:=by
 unfold kz at h;rw [Bool.or_eq_false_iff,Bool.or_eq_false_iff] at h;have J:=of_decide_eq_false h.1.2;have h3:=of_decide_eq_false h.2;exact ⟨by omega,(MK h.1.1).2,by simpa using h3⟩
theorem Ye {L:List PV} (h:nv L=true):kz L=true:=by unfold kz; rw [h]; rfl
theorem WT {L:List PV} (h:10 < L.length):kz L=true:=by unfold kz; rw [decide_eq_true h,Bool.or_true,Bool.true_or]
theorem WU {L:List PV} (h:bg L≠0):kz L=true:=by unfold kz; rw [decide_eq_true h,Bool.or_true]
theorem Yf {L:List PV} (h:nv L=false) (J:¬ 10 < L.length) (h3:bg L=0):kz L=false:=by unfold kz; rw [h,decide_eq_false J,h3]; rfl
def mf (L:List PV) (p:PV):Int:=if (qY L p).2≠0 then 5 else (qY L p).1
theorem Om {L:List PV} {p:PV} (h:bg L=0) (hp:p.canon):mf L p=fu (aD L) p.p:=by
 unfold mf;rw [Od ⟨h,hp⟩]
 rfl
def kX:a9:={ ι:=PL × PV,args:=fun i=>[i.1.val,i.2.v],ae:=fun i=>i.1.ae,pre:=fun i=>i.1.fit∧i.2.sz 2048,val:=fun i=>.int .i64 (mf i.1.list i.2),new:=fun _=>none }
open Go
theorem yi (x:Rat):0≤x*x:=by
 by_cases h:0≤x
 ·exact Rat.mul_nonneg h h
 ·have:=Rat.mul_nonneg (show 0≤-x by grind) (show 0≤-x by grind)
  grind
def mv (p d:Q2) (s:Rat):Q2:=(p.1+s*d.1,p.2+s*d.2)
theorem Yg (p:Q2) (s:Rat):mv p (0,0) s=p:=Prod.ext (by show p.1+s*0=p.1; grind) (by show p.2+s*0=p.2; grind)
theorem Pw (a b p d:Q2) (s:Rat):ak a b (mv p d s)=ak a b p+s*((b.1 - a.1)*d.2 - (b.2 - a.2)*d.1):=by
 rw [dj,dj]; unfold mv; grind
theorem O1 (f:Q3) (p d:Q2) (s:Rat):ai f (mv p d s)=ai f p+s*(f.1*d.1+f.2.1*d.2):=by
 rw [fg,fg]; unfold mv; grind
theorem Hl {x k:Rat} (h:0 < x):∃ s:Rat,0 < s∧∀ t,0≤t→t≤s→0 < x+t*k:=by
 by_cases hk:0≤k
 ·exact ⟨1,by decide,fun t h0 _=>by have:=Rat.mul_nonneg h0 hk; grind⟩
 ·have hk:0 < -k:=by grind
  have e:(x / (2*-k))*(2*-k)=x:=by rw [Rat.div_def]; grind
  generalize hs:x / (2*-k)=s at e;have hs0:0 < s:=by
   by_cases h1:0 < s
   ·exact h1
   ·have:=Rat.mul_nonneg (show 0≤-s by grind) (show 0≤2*-k by grind)
    grind
  refine ⟨s,hs0,fun t h0 h1=>?_⟩
  have:=Rat.mul_nonneg (show 0≤s - t by grind) (show 0≤-k by grind)
  grind
theorem Yh {p d:Q2}:∀ (l:List (Q2 × Q2)),(∀ e∈l,0 < ak e.1 e.2 p)→∃ s:Rat,0 < s∧∀ t,0≤t→t≤s→∀ e∈l,0 < ak e.1 e.2 (mv p d t):=by
 intro l
 induction l with
 | nil=>intro _; exact ⟨1,by decide,fun t _ _ e he=>nomatch he⟩
 | cons e l ih =>
  intro h;obtain ⟨s,hs,h1⟩:=ih fun x hx=>h x (List.mem_cons_of_mem _ hx)
  obtain ⟨u,hu,J⟩:=Hl (k:=(e.2.1 - e.1.1)*d.2 - (e.2.2 - e.1.2)*d.1) (h e (List.mem_cons_self ..));refine ⟨if s≤u then s else u,by split <;> assumption,fun t h0 ht x hx=>?_⟩
  have vL:t≤s∧t≤u:=by
   by_cases tB:s≤u
   ·rw [if_pos tB] at ht; exact ⟨ht,by grind⟩
   ·rw [if_neg tB] at ht; exact ⟨by grind,ht⟩
  rcases List.mem_cons.1 hx with rfl | hx
  ·rw [Pw]; exact J t h0 vL.2
  ·exact h1 t h0 vL.1 x hx
def oJ (P:List Q2) (p:Q2):Prop:=∀ d:Q2,∃ s:Rat,0 < s∧∀ t,0≤t→t≤s→bM P (mv p d t)
theorem oJ.Qq {P:List Q2} {p:Q2} (h:oJ P p):bM P p:=by
 obtain ⟨s,hs,h1⟩:=h (0,0);have:=h1 0 (by decide) (by grind)
 rwa [Yg] at this
theorem yW {Q:List Q2} {p:Q2} (h:Ring Q):fu Q p=1↔oJ Q p:=by
 constructor
 ·intro h1 d;obtain ⟨s,hs,J⟩:=Yh (p:=p) (d:=d) (aU Q) (ur.1 h1);exact ⟨s,hs,fun t h0 ht=>(ni h).1 (wi.2 fun e he=>by have:=J t h0 ht e he; grind)⟩
 ·intro h1;refine ur.2 fun e he=>?_
  have hp:=wi.1 ((ni h).2 h1.Qq) e he;have aE:=h.ne e he;refine Decidable.byContradiction fun hn=>?_
  have h0:ak e.1 e.2 p=0:=by grind
  obtain ⟨s,hs,J⟩:=h1 (e.2.2 - e.1.2,-(e.2.1 - e.1.1));have h3:=wi.1 ((ni h).2 (J s (by grind) (by grind))) e he
  rw [Pw,h0] at h3;have a:=yi (e.2.1 - e.1.1);have b:=yi (e.2.2 - e.1.2);have pos:0 < (e.2.1 - e.1.1)*(e.2.1 - e.1.1)+(e.2.2 - e.1.2)*(e.2.2 - e.1.2):=by
   refine Decidable.byContradiction fun hz=>aE ?_
   have z1:(e.2.1 - e.1.1)*(e.2.1 - e.1.1)=0:=by grind
   have z2:(e.2.2 - e.1.2)*(e.2.2 - e.1.2)=0:=by grind
   have z1:=(Rat.mul_eq_zero.1 z1).elim id id;have z2:=(Rat.mul_eq_zero.1 z2).elim id id;exact Prod.ext (by grind) (by grind)
  have:=Rat.mul_pos hs pos;grind
theorem Yi {R P B:List Q2} {p:Q2} (h:∀ q,bM R q↔bM P q∧bM B q):oJ R p↔oJ P p∧oJ B p:=by
 constructor
 ·intro hi;exact ⟨fun d=>(hi d).imp fun s hs=>⟨hs.1,fun t h0 ht=>((h _).1 (hs.2 t h0 ht)).1⟩,fun d=>(hi d).imp fun s hs=>⟨hs.1,fun t h0 ht=>((h _).1 (hs.2 t h0 ht)).2⟩⟩
 ·intro ⟨ha,hb⟩ d;obtain ⟨s,hs,h1⟩:=ha d;obtain ⟨u,hu,J⟩:=hb d;refine ⟨if s≤u then s else u,by split <;> assumption,fun t h0 ht=>?_⟩
  by_cases tB:s≤u
  ·rw [if_pos tB] at ht; exact (h _).2 ⟨h1 t h0 ht,J t h0 (by grind)⟩
  ·rw [if_neg tB] at ht; exact (h _).2 ⟨h1 t h0 (by grind),J t h0 ht⟩
theorem GS {P C:List Q2} {m:Q3} {p:Q2} (h:∀ q,bM C q↔bM P q∧0≤ai m q) (hp:oJ P p) (hm:0 < ai m p):oJ C p:=fun d=>by
 obtain ⟨s,hs,h1⟩:=hp d;obtain ⟨u,hu,J⟩:=Hl (k:=m.1*d.1+m.2.1*d.2) hm;refine ⟨if s≤u then s else u,by split <;> assumption,fun t h0 ht=>?_⟩
 have vL:t≤s∧t≤u:=by
  by_cases tB:s≤u
  ·rw [if_pos tB] at ht; exact ⟨ht,by grind⟩
  ·rw [if_neg tB] at ht; exact ⟨by grind,ht⟩
 exact (h _).2 ⟨h1 t h0 vL.1,by rw [O1]; have:=J t h0 vL.2; grind⟩
theorem Nz {C:List Q2} {p:Q2} (hF:Flat C):¬ oJ C p:=fun h=>by
 obtain ⟨f,hf,hv⟩:=hF;have z:∀ q,bM C q→ai f q=0:=fun q hq=>by
  have a:=hq f (fun v jl=>by rw [hv v jl]; exact Rat.le_refl)
  have b:=hq (-f.1,-f.2.1,-f.2.2) (fun v jl=>by have:=hv v jl; rw [fg] at this ⊢; grind)
  rw [fg] at a b ⊢;grind
 obtain ⟨s,hs,h1⟩:=h (f.1,f.2.1);have a:=z _ h.Qq;have b:=z _ (h1 s (by grind) (by grind))
 rw [O1,a] at b;have x:=yi f.1;have y:=yi f.2.1;have pos:0 < f.1*f.1+f.2.1*f.2.1:=by
  refine Decidable.byContradiction fun hz=>hf ⟨?_,?_⟩
  ·exact (Rat.mul_eq_zero.1 (show f.1*f.1=0 by grind)).elim id id
  ·exact (Rat.mul_eq_zero.1 (show f.2.1*f.2.1=0 by grind)).elim id id
 have:=Rat.mul_pos hs pos;grind
theorem Ul:∀ (l:List (Q2 × Q2)) (P:List Q2),Ring P→gG P→(l.foldl kv P=[]∧∀ p,oJ P p→¬ ∀ e∈l,0 < ak e.1 e.2 p) ∨
  (Ring (l.foldl kv P)∧gG (l.foldl kv P)∧∀ p,bM (l.foldl kv P) p↔bM P p∧∀ e∈l,0≤ak e.1 e.2 p):=by
 intro l
 induction l with
 | nil=>intro P h1 J; exact .inr ⟨h1,J,fun p=>⟨fun h=>⟨h,fun e he=>nomatch he⟩,fun h=>h.1⟩⟩
 | cons e l ih =>
  intro P h1 J;rw [List.foldl_cons];rcases MD h1.cT e with ⟨hF,h0⟩ | ⟨h3,h4,h5⟩
  ·left
   rw [h0];have nl:∀ l:List (Q2 × Q2),l.foldl kv []=[]:=fun l=>by
    induction l with
    | nil=>rfl
    | cons e l ih=>exact ih
   exact ⟨nl l,fun p hp ha=>Nz hF (GS (fun q=>EM h1.cT) hp (by rw [cO]; exact ha e (List.mem_cons_self ..)))⟩
  ·rcases ih _ h3 h4 with ⟨h6,h7⟩ | ⟨h6,h7,h8⟩
   ·left
    refine ⟨h6,fun p hp ha=>h7 p (GS (m:=bG e.1 e.2) (fun q=>by rw [cO]; exact h5 q) hp (by rw [cO]; exact ha e (List.mem_cons_self ..))) fun x hx=>ha x (List.mem_cons_of_mem _ hx)⟩
   ·right
    refine ⟨h6,h7,fun p=>?_⟩
    rw [h8 p,h5 p];exact ⟨fun h=>⟨h.1.1,fun x hx=>by rcases List.mem_cons.1 hx with rfl | hx; exact h.1.2; exact h.2 x hx⟩,fun h=>⟨⟨h.1,h.2 e (List.mem_cons_self ..)⟩,fun x hx=>h.2 x (List.mem_cons_of_mem _ hx)⟩⟩
theorem Vq {P B:List Q2} (hP:Ring P) (oP:gG P) (hB:Ring B):(jw P B=[]∧∀ p,¬ (fu P p=1∧fu B p=1)) ∨
  (Ring (jw P B)∧gG (jw P B)∧(∀ p,0≤fu (jw P B) p↔0≤fu P p∧0≤fu B p)∧∀ p,fu (jw P B) p=1↔fu P p=1∧fu B p=1):=by
 unfold jw;rcases Ul (aU B) P hP oP with ⟨h1,J⟩ | ⟨h1,J,h3⟩
 ·exact .inl ⟨h1,fun p hp=>J p ((yW hP).1 hp.1) (ur.1 hp.2)⟩
 ·have hh:∀ q,bM ((aU B).foldl kv P) q↔bM P q∧bM B q:=fun q=>by rw [h3 q,← ni hB,wi]
  refine .inr ⟨h1,J,fun p=>?_,fun p=>?_⟩
  ·rw [ni h1,ni hP,ni hB]; exact hh p
  ·rw [yW h1,yW hP,yW hB]; exact Yi hh
theorem Vr {P B:List Q2} (hP:Ring P) (oP:gG P) (hB:Ring B) (sP:∀ v∈P,Q2.sz 12 v) (sB:∀ v∈B,Q2.sz 12 v) :
  ot (·∈km P++km B) (jw P B)∧(∀ m∈km P++km B,Q3.sz 75 m)∧(jw P B).length≤P.length+B.length∧∀ v∈jw P B,Q2.sz 602 v:=by
 have hm:=LN (S:=(·∈km P++km B)) (P:=P) (B:=B) (fun e he=>⟨hB.ne e he,List.mem_append_right _ (FQ he)⟩) (.inr ⟨hP,oP,fun e he=>(Nn hP e he).mono fun m hm=>List.mem_append_left _ hm⟩) B.length
 rw [MB] at hm;have hl:∀ m∈km P++km B,Q3.sz 75 m:=fun m h=>(List.mem_append.1 h).elim (B7 sP m) (B7 sB m)
 obtain ⟨h1,J⟩:=LO (k:=75) hl hm;rw [List.length_append,BL,BL] at h1;exact ⟨hm,hl,h1,J⟩
open Go
theorem aaT {A B:List PV} (hA:bg A=0) (hB:bg B=0):dm A B=qZ (jw (aD A) (aD B)):=if_pos ⟨hA,hB⟩
open Go
def mw (f:Q3) (k:Rat) (m:Q3):Q3:=(f.1+k*m.1,f.2.1+k*m.2.1,f.2.2+k*m.2.2)
theorem n4 (f:Q3) (k:Rat) (m:Q3) (z:Q2):ai (mw f k m) z=ai f z+k*ai m z:=by simp only [fg,mw]; grind
def vM (c:Rat):Q3:=(0,0,-c)
theorem Cv (c:Rat) (z:Q2):ai (vM c) z=c:=by simp only [fg,vM]; grind
theorem NA {f:Q3} {a b c:Q2} (h:ak a b c≠0) (ha:ai f a=0) (hb:ai f b=0) (hc:ai f c=0) (z:Q2):ai f z=0:=by
 obtain ⟨f1,f2,f3⟩:=f;rw [fg] at ha hb hc ⊢
 dsimp only at ha hb hc ⊢
 have k1:f1*ak a b c=0:=by rw [dj]; grind
 have k2:f2*ak a b c=0:=by rw [dj]; grind
 have k1:=(Rat.mul_eq_zero.1 k1).resolve_right h;have k2:=(Rat.mul_eq_zero.1 k2).resolve_right h;rw [k1,k2] at ha ⊢;grind
theorem o8 {x y:Rat} (h:y≠0):x / y*y=x:=by rw [Rat.div_def]; grind
theorem Bq {x y:Rat} (hx:0≤x) (hy:0 < y):0≤x / y:=by
 refine Decidable.byContradiction fun h=>?_
 have h1:0 < -(x / y):=by grind
 have:=Rat.mul_pos h1 hy;have e:=o8 (x:=x) (show y≠0 by grind)
 grind
theorem Yj {f m n:Q3} {u v w:Q2} (ho:ak u v w≠0) (m1:ai m u=0) (m2:ai m v=0) (m3:0 < ai m w) (n1:ai n v=0) (n2:ai n w=0) (n3:0 < ai n u)
  (hu:ai f u≤ai f v) (hw:ai f w≤ai f v):∃ α β:Rat,0≤α∧0≤β∧∀ z,ai f z=ai f v - α*ai m z - β*ai n z:=by
 obtain ⟨α,vN⟩:∃ α,α=(ai f v - ai f w) / ai m w:=⟨_,rfl⟩;obtain ⟨β,rF⟩:∃ β,β=(ai f v - ai f u) / ai n u:=⟨_,rfl⟩;have eα:α*ai m w=ai f v - ai f w:=by rw [vN]; exact o8 (by grind)
 have eβ:β*ai n u=ai f v - ai f u:=by rw [rF]; exact o8 (by grind)
 refine ⟨α,β,by rw [vN]; exact Bq (by grind) m3,by rw [rF]; exact Bq (by grind) n3,fun z=>?_⟩
 have key:∀ z,ai (mw (mw (mw f (-1) (vM (ai f v))) α m) β n) z=ai f z - ai f v+α*ai m z+β*ai n z:=fun z=>by
  rw [n4,n4,n4,Cv]; grind
 have:=NA (f:=mw (mw (mw f (-1) (vM (ai f v))) α m) β n) ho (by rw [key,m1]; grind) (by rw [key,m2,n1]; grind) (by rw [key,n2]; grind) z
 rw [key] at this;grind
theorem Qr (f:Q3):∀ P:List Q2,P≠[]→∃ v∈P,∀ w∈P,ai f w≤ai f v
 | [],h=>absurd rfl h
 | [a],_=>⟨a,List.mem_cons_self ..,fun w hw=>by rw [List.mem_singleton.1 hw]; exact Rat.le_refl⟩
 | a::b::P,_=>by
  obtain ⟨v,hv,h⟩:=Qr f (b::P) (by simp)
  by_cases c:ai f a≤ai f v
  ·exact ⟨v,List.mem_cons_of_mem _ hv,fun w hw=>(List.mem_cons.1 hw).elim (fun e=>by rw [e]; exact c) (h w)⟩
  ·refine ⟨a,List.mem_cons_self ..,fun w hw=>(List.mem_cons.1 hw).elim (fun e=>by rw [e]; exact Rat.le_refl) fun hw=>?_⟩
   have:=h w hw;grind
theorem Yk {f:Q3} {P:List Q2} {z:Q2} (h:∀ v∈P,ai f v < 0) (hz:bM P z):ai f z < 0:=by
 obtain ⟨e,he,h1⟩:=Mz (xY f) P (fun v hv=>by rw [uk]; have:=h v hv; grind)
 have:=hz (mw (xY f) (-1) (vM e)) (fun v hv=>by rw [n4,Cv]; have:=h1 v hv; grind)
 rw [n4,Cv,uk] at this;grind
theorem Ring.at {P:List Q2} (h:Ring P) {v:Q2} (hv:v∈P):∃ u w,(u,v)∈aU P∧(v,w)∈aU P∧0 < ak u v w:=by
 obtain ⟨k,hk,rfl⟩:=sf hv;exact ⟨_,_,o6 hk,kg hk,h.n9 k hk⟩
theorem ada {R:List Q2} {f:Q3} {v:Q2} (h:Ring R) (hv:bM R v) (hf:0 < ai f v):∃ p,oJ R p∧0 < ai f p:=by
 obtain ⟨c,hc⟩:∃ c,fu R c=1:=⟨_,K8 h⟩;obtain ⟨s,hs,h1⟩:=Hl (k:=ai f c - ai f v) hf;obtain ⟨t,ht,QT,vL⟩:∃ t:Rat,0 < t∧t≤1∧t≤s:=by
  by_cases J:s≤1
  ·exact ⟨s,hs,J,Rat.le_refl⟩
  ·exact ⟨1,by decide,Rat.le_refl,by grind⟩
 refine ⟨atR v c t,(yW h).1 (ur.2 fun e he=>?_),?_⟩
 ·have a:=wi.1 ((ni h).2 hv) e he;have b:=ur.1 hc e he;rw [uj];have:=Rat.mul_nonneg (show 0≤1 - t by grind) a
  have:=Rat.mul_pos ht b;grind
 ·have:=h1 t (by grind) vL
  rw [wV];grind
def ko (P B:List Q2):Prop:=∃ e∈aU P,∀ q∈B,ak e.1 e.2 q≤0
theorem Yl {f:Q3} {P:List Q2} {z:Q2} (h:∀ v∈P,ai f v≤0) (hz:bM P z):ai f z≤0:=by
 have:=hz (xY f) (fun v hv=>by rw [uk]; have:=h v hv; grind)
 rw [uk] at this;grind
theorem Tb {P B R:List Q2} {done:List (Q2 × Q2)} {e:Q2 × Q2} (hP:Ring P) (hB:Ring B) (hd:∀ x∈done,x∈aU B) (he:e∈aU B) (hR:Ring R)
  (hh:∀ p,bM R p→bM P p∧∀ x∈done,0≤ak x.1 x.2 p) (hS:∀ x∈aU R,lG (fun m=>∃ y,(y∈aU P∨y∈done)∧m=bG y.1 y.2) x) (hF:Flat (db (bG e.1 e.2) R)):ko P B∨ko B P:=by
 have hle:∀ v∈R,ai (bG e.1 e.2) v≤0:=fun v hv=>by
  refine Decidable.byContradiction fun hn=>?_
  obtain ⟨p,hp,oI⟩:=ada hR (.gu hv) (show 0 < ai (bG e.1 e.2) v by grind)
  exact Nz hF (GS (fun q=>EM hR.cT) hp oI)
 obtain ⟨v,hv,Qs⟩:=Qr (bG e.1 e.2) R (fun h=>by have:=hR.three; rw [h] at this; simp at this)
 obtain ⟨u,w,AJ,bO,ho⟩:=hR.at hv;have hu:=(gL AJ).1;have hw:=(gL bO).2;obtain ⟨m,⟨y1,g9,rfl⟩,l1,m1,m2⟩:=hS _ AJ;obtain ⟨n,⟨y2,gy,rfl⟩,l2,n1,n2⟩:=hS _ bO;have nn:∀ y:Q2 × Q2,(y∈aU P∨y∈done)→∀ z,bM R z→0≤ai (bG y.1 y.2) z:=fun y hy z hz=>by
  rw [cO];rcases hy with hy | hy
  ·exact wI hP.cT hy (hh z hz).1
  ·exact (hh z hz).2 y hy
 have m3:0 < ai (bG y1.1 y1.2) w:=by
  have a:=nn y1 g9 w (.gu hw);have b:ai (bG y1.1 y1.2) w≠0:=fun hz=>by rw [Cr l1 m1 m2 hz] at ho; grind
  grind
 have n3:0 < ai (bG y2.1 y2.2) u:=by
  have a:=nn y2 gy u (.gu hu);have b:ai (bG y2.1 y2.2) u≠0:=fun hz=>by rw [Cr l2 hz n1 n2] at ho; grind
  grind
 obtain ⟨α,β,vN,rF,hc⟩:=Yj (f:=bG e.1 e.2) (by grind) m1 m2 m3 n1 n2 n3 (Qs u hu) (Qs w hw)
 have Rt:=hle v hv;have eB:∀ q∈B,0≤ai (bG e.1 e.2) q:=fun q hq=>by rw [cO]; exact iG hB.cT he hq
 have ep:∀ y∈aU P,∀ q∈P,0≤ai (bG y.1 y.2) q:=fun y hy q hq=>by rw [cO]; exact iG hP.cT hy hq
 have eb:∀ y∈done,∀ q∈B,0≤ai (bG y.1 y.2) q:=fun y hy q hq=>by rw [cO]; exact iG hB.cT (hd y hy) hq
 have both:(∀ q∈B,α*ai (bG y1.1 y1.2) q≤0→0≤β*ai (bG y2.1 y2.2) q→True):=fun _ _ _ _=>True.intro
 have HU:(∀ q∈B,ai (bG e.1 e.2) q≤0)→False:=fun h=>by
  refine hB.HP ⟨bG e.1 e.2,uo (hB.ne e he),fun q hq=>?_⟩
  have a:=h q hq;have b:=eB q hq;grind
 rcases g9 with g9 | g9
 ·rcases gy with gy | gy
  ·right
   refine ⟨e,he,fun p hp=>?_⟩
   have a:=Rat.mul_nonneg vN (ep y1 g9 p hp);have b:=Rat.mul_nonneg rF (ep y2 gy p hp);have:=hc p;rw [cO e.1 e.2 p] at this;grind
  ·by_cases h0:0 < α
   ·left
    refine ⟨y1,g9,fun q hq=>?_⟩
    have a:=eB q hq;have b:=Rat.mul_nonneg rF (eb y2 gy q hq);have c:=hc q;have d:α*ai (bG y1.1 y1.2) q≤0:=by grind
    rw [← cO];refine Decidable.byContradiction fun hn=>?_
    have:=Rat.mul_pos h0 (show 0 < ai (bG y1.1 y1.2) q by grind)
    grind
   ·refine (HU fun q hq=>?_).elim
    have b:=Rat.mul_nonneg rF (eb y2 gy q hq);have z:α=0:=by grind
    have c:=hc q;rw [z] at c;grind
 ·rcases gy with gy | gy
  ·by_cases h0:0 < β
   ·left
    refine ⟨y2,gy,fun q hq=>?_⟩
    have a:=eB q hq;have b:=Rat.mul_nonneg vN (eb y1 g9 q hq);have c:=hc q;have d:β*ai (bG y2.1 y2.2) q≤0:=by grind
    rw [← cO];refine Decidable.byContradiction fun hn=>?_
    have:=Rat.mul_pos h0 (show 0 < ai (bG y2.1 y2.2) q by grind)
    grind
   ·refine (HU fun q hq=>?_).elim
    have b:=Rat.mul_nonneg vN (eb y1 g9 q hq);have z:β=0:=by grind
    have c:=hc q;rw [z] at c;grind
  ·refine (HU fun q hq=>?_).elim
   have a:=Rat.mul_nonneg vN (eb y1 g9 q hq);have b:=Rat.mul_nonneg rF (eb y2 gy q hq);have c:=hc q;grind
theorem Sz {P B:List Q2} (hP:Ring P) (hB:Ring B):∀ (l done:List (Q2 × Q2)) (R:List Q2),(∀ x∈done,x∈aU B)→(∀ x∈l,x∈aU B)→Ring R→gG R →
  (∀ p,bM R p→bM P p∧∀ x∈done,0≤ak x.1 x.2 p)→(∀ x∈aU R,lG (fun m=>∃ y,(y∈aU P∨y∈done)∧m=bG y.1 y.2) x)→l.foldl kv R=[]→ko P B∨ko B P:=by
 intro l
 induction l with
 | nil=>intro done R _ _ hR _ _ _ h; have:=hR.three; rw [show R=[] from h] at this; simp at this
 | cons e l ih =>
  intro done R hd hl hR oR hh hS h;rw [List.foldl_cons] at h;have he:=hl e (List.mem_cons_self ..);rcases MD hR.cT e with ⟨hF,_⟩ | ⟨h3,h4,h5⟩
  ·exact Tb hP hB hd he hR hh hS hF
  ·refine ih (e::done) _ (fun x hx=>(List.mem_cons.1 hx).elim (fun e2=>e2 ▸ he) (hd x)) (fun x hx=>hl x (List.mem_cons_of_mem _ hx)) h3 h4 (fun p hp=>?_) ?_ h
   ·obtain ⟨a,b⟩:=(h5 p).1 hp;exact ⟨(hh p a).1,fun x hx=>(List.mem_cons.1 hx).elim (fun e2=>e2 ▸ b) ((hh p a).2 x)⟩
   ·have hm:ot (fun m=>∃ y,(y∈aU P∨y∈e::done)∧m=bG y.1 y.2) R:=.inr ⟨hR,oR,fun x hx=>(hS x hx).mono fun m hm=>hm.imp fun y hy=>⟨hy.1.imp id (List.mem_cons_of_mem _),hy.2⟩⟩
    rcases MC (hB.ne e he) ⟨e,.inr (List.mem_cons_self ..),rfl⟩ hm with h6 | ⟨_,_,h6⟩
    ·have:=h3.three; rw [h6] at this; simp at this
    ·exact h6
theorem Tc {P B:List Q2} (hP:Ring P) (oP:gG P) (hB:Ring B) (h:jw P B=[]):ko P B∨ko B P :=
 Sz hP hB (aU B) [] P (fun x hx=>nomatch hx) (fun x hx=>hx) hP oP (fun p hp=>⟨hp,fun x hx=>nomatch hx⟩)
  (fun x hx=>⟨_,⟨x,.inl hx,rfl⟩,uo (hP.ne x hx),by rw [cO,ke],by rw [cO,kf]⟩) h
theorem MN {P B:List Q2} {z:Q2} (h1:fu P z=1) (hz:bM B z):¬ ko P B:=fun ⟨e,he,h⟩=>by
 have a:=ur.1 h1 e he;have b:=Yl (f:=bG e.1 e.2) (fun v hv=>by rw [cO]; exact h v hv) hz
 rw [cO] at b;grind
theorem Um {P B:List Q2} (hP:Ring P) (oP:gG P) (hB:Ring B):jw P B=[]↔ko P B∨ko B P:=by
 refine ⟨Tc hP oP hB,fun h=>?_⟩
 rcases Vq hP oP hB with ⟨h1,_⟩ | ⟨h1,_,_,h4⟩
 ·exact h1
 ·obtain ⟨a,b⟩:=(h4 _).1 (K8 h1);rcases h with h | h
  ·exact (MN a ((ni hB).1 (by rw [b]; decide)) h).elim
  ·exact (MN b ((ni hP).1 (by rw [a]; decide)) h).elim
def vO (P B:List Q2):Prop:=∃ e∈aU P,∀ q∈B,ak e.1 e.2 q < 0
theorem CV {P B:List Q2} {z:Q2} (hP:Ring P) (h1:bM P z) (hz:bM B z):¬ vO P B:=fun ⟨e,he,h⟩=>by
 have a:=wI hP.cT he h1;have b:=Yk (f:=bG e.1 e.2) (fun v hv=>by rw [cO]; exact h v hv) hz
 rw [cO] at b;grind
theorem SA {gm F:Q3} {b q z:Q2} (h1:ai gm b=0) (J:ai gm q=0) (aE:b≠q) (f1:ai F b=0) (f2:ai F q=0) (hl:lF gm):∃ κ:Rat,∀ z,ai F z=κ*ai gm z:=by
 have hz:∃ z,ai gm z≠0:=by
  refine ⟨(b.1+gm.1,b.2+gm.2.1),fun h=>hl ?_⟩
  rw [fg] at h h1
  dsimp only at h
  have x:=yi gm.1;have y:=yi gm.2.1;exact ⟨(Rat.mul_eq_zero.1 (show gm.1*gm.1=0 by grind)).elim id id,(Rat.mul_eq_zero.1 (show gm.2.1*gm.2.1=0 by grind)).elim id id⟩
 obtain ⟨y,hy⟩:=hz;have e:=o8 (x:=ai F y) hy;refine ⟨ai F y / ai gm y,fun z=>?_⟩
 generalize ai F y / ai gm y=κ at e;have ho:ak b q y≠0:=fun h=>hy (Nm h1 J aE h)
 have:=NA (f:=mw F (-κ) gm) ho (by rw [n4,f1,h1]; grind) (by rw [n4,f2,J]; grind) (by rw [n4]; grind) z
 rw [n4] at this;grind
theorem Px {P B:List Q2} {gm m n:Q3} {b q:Q2} (hl:lF gm) (l1:ai gm b=0) (l2:ai gm q=0) (aE:b≠q) (m1:ai m b=0) (m2:ai m q < 0) (n1:ai n q=0) (n2:ai n b < 0)
  (hP:∀ z∈P,0≤ai gm z∧0≤ai m z) (hB:∀ z∈B,ai gm z≤0∧0≤ai n z):(∀ z∈B,ai m z < 0)∨(∀ z∈P,ai n z < 0):=by
 obtain ⟨a,ha⟩:∃ a,a=1 / (-ai m q):=⟨_,rfl⟩;obtain ⟨c,hc⟩:∃ c,c=1 / (-ai n b):=⟨_,rfl⟩;have ea:a*(-ai m q)=1:=by rw [ha]; exact o8 (by grind)
 have ec:c*(-ai n b)=1:=by rw [hc]; exact o8 (by grind)
 have a0:0 < a:=by
  refine Decidable.byContradiction fun h=>?_
  have:=Rat.mul_nonneg (show 0≤-a by grind) (show 0≤-ai m q by grind)
  grind
 have c0:0 < c:=by
  refine Decidable.byContradiction fun h=>?_
  have:=Rat.mul_nonneg (show 0≤-c by grind) (show 0≤-ai n b by grind)
  grind
 have key:∀ z,ai (mw (mw (vM 1) a m) c n) z=1+a*ai m z+c*ai n z:=fun z=>by rw [n4,n4,Cv]
 obtain ⟨κ,Ru⟩:=SA (z:=b) (F:=mw (mw (vM 1) a m) c n) l1 l2 aE (by rw [key,m1]; grind) (by rw [key,n1]; grind) hl
 by_cases h:0≤κ
 ·left
  intro z hz;obtain ⟨h1,J⟩:=hB z hz;have e:=Ru z;rw [key] at e;have x:=Rat.mul_nonneg h (show 0≤-ai gm z by grind)
  have y:=Rat.mul_nonneg (Rat.le_of_lt c0) J;refine Decidable.byContradiction fun hn=>?_
  have:=Rat.mul_nonneg (Rat.le_of_lt a0) (show 0≤ai m z by grind)
  grind
 ·right
  intro z hz;obtain ⟨h1,J⟩:=hP z hz;have e:=Ru z;rw [key] at e;have x:=Rat.mul_nonneg (show 0≤-κ by grind) h1
  have y:=Rat.mul_nonneg (Rat.le_of_lt a0) J;refine Decidable.byContradiction fun hn=>?_
  have:=Rat.mul_nonneg (Rat.le_of_lt c0) (show 0≤ai n z by grind)
  grind
theorem Py {α:Type} (p:α→Prop):∀ (l:List α) (a:α),p a→(∃ w∈l,¬ p w)→∃ x y,(x,y)∈b9 (a::l)∧p x∧¬ p y
 | [],a,_,h=>nomatch h
 | b::l,a,ha,⟨w,hw,hn⟩=>by
  rw [kP];by_cases hb:p b
  ·obtain ⟨x,y,h1,J⟩:=Py p l b hb ⟨w,(List.mem_cons.1 hw).resolve_left (fun e=>hn (e ▸ hb)),hn⟩
   exact ⟨x,y,List.mem_cons_of_mem _ h1,J⟩
  ·exact ⟨a,b,List.mem_cons_self ..,ha,hb⟩
theorem Pz {α:Type} (p:α→Prop) {B:List α} (h1:∃ q∈B,p q) (J:∃ w∈B,¬ p w):∃ x y,(x,y)∈aU B∧p x∧¬ p y:=by
 obtain ⟨q,hq,hp⟩:=h1;obtain ⟨w,hw,hn⟩:=J;obtain ⟨X,Y,rfl⟩:=List.append_of_mem hq;obtain ⟨x,y,h3,h4⟩:=Py p (Y++X++[q]) q hp ⟨w,by
  rw [List.mem_append,List.mem_cons] at hw;rcases hw with hw | rfl | hw
  ·simp [hw]
  ·exact absurd hp hn
  ·simp [hw],hn⟩
 exact ⟨x,y,wH (A:=q::Y) (B:=X) (by rw [List.cons_append,tV]; exact h3),h4⟩
theorem Ring.next {P:List Q2} (h:Ring P) {a b:Q2} (he:(a,b)∈aU P):∃ c,(b,c)∈aU P∧0 < ak a b c:=by
 obtain ⟨k,hk,e⟩:=wW he;cases e;have:=h.n9 _ (cL hk);rw [yU hk] at this;exact ⟨_,kg (cL hk),this⟩
theorem Ring.prev {P:List Q2} (h:Ring P) {a b:Q2} (he:(a,b)∈aU P):∃ z,(z,a)∈aU P∧0 < ak z a b:=by
 obtain ⟨k,hk,e⟩:=wW he;cases e;exact ⟨_,o6 hk,h.n9 _ hk⟩
theorem aaU {a b q:Q2} (aE:a≠b) (h:ak a b q=0):∃ t:Rat,q=atR a b t:=by
 rw [dj] at h;by_cases h1:b.1 - a.1=0
 ·have J:b.2 - a.2≠0:=fun J=>aE (Prod.ext (by grind) (by grind))
  have e:=o8 (x:=q.2 - a.2) J;refine ⟨(q.2 - a.2) / (b.2 - a.2),?_⟩;generalize (q.2 - a.2) / (b.2 - a.2)=t at e ⊢;have h3:(b.2 - a.2)*(q.1 - a.1)=0:=by grind
  have h3:=(Rat.mul_eq_zero.1 h3).resolve_left J;exact Prod.ext (by show q.1=a.1+(b.1 - a.1)*t; rw [h1]; grind) (by show q.2=a.2+(b.2 - a.2)*t; grind)
 ·have e:=o8 (x:=q.1 - a.1) h1;refine ⟨(q.1 - a.1) / (b.1 - a.1),?_⟩;generalize (q.1 - a.1) / (b.1 - a.1)=t at e ⊢;have h3:(b.1 - a.1)*(q.2 - a.2 - t*(b.2 - a.2))=0:=by grind
  have h3:=(Rat.mul_eq_zero.1 h3).resolve_left h1;exact Prod.ext (by show q.1=a.1+(b.1 - a.1)*t; grind) (by show q.2=a.2+(b.2 - a.2)*t; grind)
theorem Bx {x y:Rat} (hx:x < 0) (hy:0 < y):x*y < 0:=by
 have:=Rat.mul_pos (show 0 < -x by grind) hy
 grind
theorem KL {P B:List Q2} (hP:Ring P) (hB:Ring B) (hA:ko P B) (f1:¬ vO P B) (f2:¬ vO B P):(∃ v∈P,bM B v)∨(∃ v∈B,bM P v):=by
 refine Classical.byContradiction fun nR=>?_
 obtain ⟨⟨a,b⟩,he,hle⟩:=hA
 dsimp only at hle
 have aE:a≠b:=hP.ne _ he;have ha:=(gL he).1;have hb:=(gL he).2;have aeU:∃ q∈B,¬ ak a b q < 0:=Classical.byContradiction fun h=>f1 ⟨_,he,fun q hq=>Decidable.byContradiction fun J=>h ⟨q,hq,J⟩⟩
 have off:∃ r∈B,ak a b r < 0:=Classical.byContradiction fun h=>hB.HP ⟨bG a b,uo aE,fun q hq=>by
  rw [cO];have:=hle q hq;have:¬ ak a b q < 0:=fun J=>h ⟨q,hq,J⟩
  grind⟩
 have par:∀ q∈B,¬ ak a b q < 0→∃ t:Rat,q=atR a b t∧(t < 0∨1 < t):=fun q hq h=>by
  have:=hle q hq;obtain ⟨t,rfl⟩:=aaU aE (show ak a b q=0 by grind)
  refine ⟨t,rfl,Classical.byContradiction fun ht=>nR (.inr ⟨_,hq,bM.at (.gu ha) (.gu hb) (by grind) (by grind)⟩)⟩
 have same:∀ s t:Rat,atR a b s∈B→atR a b t∈B→s < 0→1 < t→False:=fun s t hs ht h1 J=>by
  refine nR (.inl ⟨a,ha,?_⟩);have d:t - s≠0:=by grind
  have e:=o8 (x:=-s) d;have k0:=Bq (x:=-s) (y:=t - s) (by grind) (by grind)
  have k1:=Bq (x:=t) (y:=t - s) (by grind) (by grind)
  have e1:=o8 (x:=t) d;generalize -s / (t - s)=k at e k0;generalize t / (t - s)=l at e1 k1;have kl:(t - s)*(k+l - 1)=0:=by grind
  have kl:=(Rat.mul_eq_zero.1 kl).resolve_left d;have:a=atR (atR a b s) (atR a b t) k:=by
   refine Prod.ext ?_ ?_
   ·show a.1=(a.1+(b.1 - a.1)*s)+((a.1+(b.1 - a.1)*t) - (a.1+(b.1 - a.1)*s))*k
    have:(s+k*(t - s))=0:=by grind
    have:(s+k*(t - s))*(b.1 - a.1)=0:=by rw [this]; grind
    grind
   ·show a.2=(a.2+(b.2 - a.2)*s)+((a.2+(b.2 - a.2)*t) - (a.2+(b.2 - a.2)*s))*k
    have:(s+k*(t - s))=0:=by grind
    have:(s+k*(t - s))*(b.2 - a.2)=0:=by rw [this]; grind
    grind
  rw [this];exact bM.at (.gu hs) (.gu ht) k0 (by grind)
 have hl:∀ z∈P,0≤ai (bG a b) z:=fun z hz=>by rw [cO]; exact iG hP.cT he hz
 have g8:∀ z∈B,ai (bG a b) z≤0:=fun z hz=>by rw [cO]; exact hle z hz
 obtain ⟨q0,m5,z0⟩:=aeU;obtain ⟨t0,rfl,h0⟩:=par q0 m5 z0;rcases h0 with h0 | h0
 ·-- before a
  obtain ⟨r,q,JK,hr,hq⟩:=Pz (fun x=>ak a b x < 0) off ⟨_,m5,z0⟩
  have my:=(gL JK).2;obtain ⟨t,rfl,ht⟩:=par q my hq;have ht:t < 0:=ht.resolve_right fun h=>same t0 t m5 my h0 h
  obtain ⟨z,hz,ho⟩:=hP.prev he;have e1:ak z a (atR a b t) < 0:=by rw [uj,kf]; have:=Bx ht ho; grind
  have e2:ak r (atR a b t) a < 0:=by
   rw [pf,B6,yT,wU b r a,pf b r a,pf r a b];have:=Bx ht (show 0 < -ak a b r by grind)
   grind
  rcases Px (P:=P) (B:=B) (gm:=bG a b) (m:=bG z a) (n:=bG r (atR a b t)) (b:=a) (q:=atR a b t) (uo aE) (by rw [cO,ke]) (by rw [cO]; have:=hle _ my; grind) (fun e=>by rw [← e,kf] at e1; grind)
   (by rw [cO,kf]) (by rw [cO]; exact e1) (by rw [cO,kf]) (by rw [cO]; exact e2) (fun y hy=>⟨hl y hy,by rw [cO]; exact iG hP.cT hz hy⟩) (fun y hy=>⟨g8 y hy,by rw [cO]; exact iG hB.cT JK hy⟩) with h | h
  ·exact f1 ⟨_,hz,fun y hy=>by rw [← cO]; exact h y hy⟩
  ·exact f2 ⟨_,JK,fun y hy=>by rw [← cO]; exact h y hy⟩
 ·-- beyond b
  obtain ⟨q,r,vJ,hq,hr⟩:=Pz (fun x=>¬ ak a b x < 0) ⟨_,m5,z0⟩ (off.imp fun r hr=>⟨hr.1,fun h=>h hr.2⟩)
  have hr:ak a b r < 0:=Decidable.not_not.1 hr;have my:=(gL vJ).1;obtain ⟨t,rfl,ht⟩:=par q my hq;have ht:1 < t:=ht.resolve_left fun h=>same t t0 my m5 h h0
  obtain ⟨c,hc,ho⟩:=hP.next he;have e1:ak b c (atR a b t) < 0:=by
   rw [uj,ke,← pf a b c];have:=Bx (show 1 - t < 0 by grind) ho
   grind
  have e2:ak (atR a b t) r b < 0:=by
   rw [B6,ke,show ak a r b=-ak a b r by rw [dj,dj]; grind]
   have:=Bx (show 1 - t < 0 by grind) (show 0 < -ak a b r by grind)
   grind
  rcases Px (P:=P) (B:=B) (gm:=bG a b) (m:=bG b c) (n:=bG (atR a b t) r) (b:=b) (q:=atR a b t) (uo aE) (by rw [cO,kf]) (by rw [cO]; have:=hle _ my; grind) (fun e=>by rw [← e,ke] at e1; grind)
   (by rw [cO,ke]) (by rw [cO]; exact e1) (by rw [cO,ke]) (by rw [cO]; exact e2) (fun y hy=>⟨hl y hy,by rw [cO]; exact iG hP.cT hc hy⟩) (fun y hy=>⟨g8 y hy,by rw [cO]; exact iG hB.cT vJ hy⟩) with h | h
  ·exact f1 ⟨_,hc,fun y hy=>by rw [← cO]; exact h y hy⟩
  ·exact f2 ⟨_,vJ,fun y hy=>by rw [← cO]; exact h y hy⟩
theorem Vs {P B:List Q2} (hP:Ring P) (hB:Ring B) (hA:ko P B∨ko B P):¬ (vO P B∨vO B P)↔(∃ v∈P,bM B v)∨(∃ v∈B,bM P v):=by
 constructor
 ·intro h;rcases hA with hA | hA
  ·exact KL hP hB hA (fun e=>h (.inl e)) (fun e=>h (.inr e))
  ·exact (KL hB hP hA (fun e=>h (.inr e)) (fun e=>h (.inl e))).symm
 ·rintro (⟨v,h1,J⟩ | ⟨v,h1,J⟩) (h | h)
  ·exact CV hP (.gu h1) J h
  ·exact CV hB J (.gu h1) h
  ·exact CV hP J (.gu h1) h
  ·exact CV hB (.gu h1) J h
open Go
def oK (f:PV→Int) (o:Int) (L:List PV):Int:=L.foldl (fun o v=>if f v < o then f v else o) o
def oL (f:PV→Int) (o:Int) (L:List PV):Int:=L.foldl (fun o v=>if f v > o then f v else o) o
theorem Hm (f:PV→Int) (k:Int):∀ (L:List PV) (o:Int),k≤oK f o L↔k≤o∧∀ v∈L,k≤f v
 | [],o=>by simp [oK]
 | v::L,o=>by
  show k≤oK f (if f v < o then f v else o) L↔_
  rw [Hm f k L];simp only [List.mem_cons,forall_eq_or_imp]
  split <;> exact ⟨fun ⟨a,b⟩=>⟨by omega,by omega,b⟩,fun ⟨a,b,c⟩=>⟨by omega,c⟩⟩
theorem Hn (f:PV→Int) (k:Int):∀ (L:List PV) (o:Int),oL f o L≤k↔o≤k∧∀ v∈L,f v≤k
 | [],o=>by simp [oL]
 | v::L,o=>by
  show oL f (if f v > o then f v else o) L≤k↔_
  rw [Hn f k L];simp only [List.mem_cons,forall_eq_or_imp]
  split <;> exact ⟨fun ⟨a,b⟩=>⟨by omega,by omega,b⟩,fun ⟨a,b,c⟩=>⟨by omega,c⟩⟩
def mW (s:XV) (v:PV):Int:=aW (ak s.1.p s.2.p v.p) 0
theorem Ym {f:PV→Int} {o:Int} {L:List PV} {j:Nat} {v:PV} (h:L[j]?=some v):oK f o (L.take (j+1))=if f v < oK f o (L.take j) then f v else oK f o (L.take j):=by
 unfold oK; rw [List.take_add_one,h,List.foldl_append]; rfl
theorem Yn {f:PV→Int} {o:Int} {L:List PV} {j:Nat} {v:PV} (h:L[j]?=some v):oL f o (L.take (j+1))=if f v > oL f o (L.take j) then f v else oL f o (L.take j):=by
 unfold oL; rw [List.take_add_one,h,List.foldl_append]; rfl
def lh:a9:={ ι:=(List PV × Nat) × XV,args:=fun i=>[.slice (some ⟨0,0,none⟩) i.1.1.length i.1.2,.pointer (some ⟨1,0,none⟩)],ae:=fun i=>[.flat false i.1.1.length 6 (cB i.1.1),.flat false 1 12 (fun _=>i.2.v.cells.toList)],pre:=fun i=>(i.1.1.length≤64∧∀ v∈i.1.1,v.sz 12)∧i.2.1.sz 12∧i.2.2.sz 12,val:=fun i=>.tuple ⟨[.int .i64 (oK (mW i.2) 1 i.1.1),.int .i64 (oL (mW i.2) (-1) i.1.1)]⟩,new:=fun _=>none }
theorem On (s:XV):aG (.flat false 1 12 (fun _=>s.v.cells.toList)) (.aO true 12 [s.v.cells.toList]) :=
 B5 rfl (fun r hr=>by
  obtain rfl:r=0:=by omega
  rfl) (fun r hr=>rfl)
def iO:a9:={ ι:=(List PV × Nat) × PV,args:=fun i=>[i.2.v,.pointer (some ⟨1,0,none⟩)],ae:=fun i=>[.flat false i.1.1.length 6 (cB i.1.1),.aO false 1 [[.slice (some ⟨0,0,none⟩) i.1.1.length i.1.2]]],pre:=fun i=>PL.fit (some i.1)∧i.2.sz 2048,val:=fun i=>.bool (decide (mf i.1.1 i.2 ≥ 0)),new:=fun _=>none }
def sQ (X Y:List PV):Bool:=X.any fun v=>decide (mf Y v ≥ 0)
def ou (f:FuncId):a9:={ ι:=(List PV × Nat) × (List PV × Nat),args:=fun i=>[.slice (some ⟨0,0,none⟩) i.1.1.length i.1.2,.func (.func f) #[] #[.pointer (some ⟨2,0,none⟩)]],ae:=fun i=>[.flat false i.1.1.length 6 (cB i.1.1),.flat false i.2.1.length 6 (cB i.2.1),.aO false 1 [[.slice (some ⟨1,0,none⟩) i.2.1.length i.2.2]]],pre:=fun i=>PL.fit (some i.1)∧PL.fit (some i.2),val:=fun i=>.bool (sQ i.1.1 i.2.1),new:=fun _=>none }
def pM (f g:FuncId):a9:={ ι:=Bool × ((List PV × Nat) × (List PV × Nat)),args:=fun i=>(ou (cond i.1 f g)).args i.2,ae:=fun i=>(ou (cond i.1 f g)).ae i.2,pre:=fun i=>(ou (cond i.1 f g)).pre i.2,val:=fun i=>(ou (cond i.1 f g)).val i.2,new:=fun _=>none }
def q9:a9:={ ι:=mo,args:=fun i=>[i.1.val,i.2.u1 i.1.ae.length],ae:=fun i=>i.1.ae++i.2.ae,pre:=fun i=>i.1.list.length*80≤140737488351232∧i.2.list.length*80≤140737488351232,val:=fun _=>.bool true,new:=fun _=>none }
theorem nk {s:Bool} {P B:List Q2} {e:Q2 × Q2} (h:fa s P B=some e):e∈aU P∧∀ q∈B,j4 s (aW (ak e.1 e.2 q) 0)=true :=
 ⟨List.mem_of_find?_eq_some h,fun q hq=>by
  have:(B.all fun x=>j4 s (aW (ak e.1 e.2 x) 0))=true:=List.find?_some (p:=fun e:Q2 × Q2=>B.all fun x=>j4 s (aW (ak e.1 e.2 x) 0)) h
  exact List.all_eq_true.1 this q hq⟩
theorem CW {s:Bool} {P B:List Q2} (h:fa s P B=none):¬ ∃ e∈aU P,∀ q∈B,j4 s (aW (ak e.1 e.2 q) 0)=true:=fun ⟨e,he,J⟩ =>
 List.find?_eq_none.1 h e he (List.all_eq_true.2 J)
theorem xk {x:Rat}:j4 true (aW x 0)=true↔x≤0:=by unfold j4; rw [if_pos rfl,decide_eq_true_eq,xh]
theorem Cb {x:Rat}:j4 false (aW x 0)=true↔x < 0:=by unfold j4; rw [if_neg (by decide),decide_eq_true_eq,B0]
theorem NB {P B:List Q2}:eK true P B=none↔¬ (ko P B∨ko B P):=by
 unfold eK;constructor
 ·intro h;cases h1:fa true P B with
  | some e=>rw [h1] at h; cases h
  | none =>
   rw [h1] at h
   rintro (⟨e,he,J⟩ | ⟨e,he,J⟩)
   ·exact CW h1 ⟨e,he,fun q hq=>xk.2 (J q hq)⟩
   ·exact CW h ⟨e,he,fun q hq=>xk.2 (J q hq)⟩
 ·intro h;cases h1:fa true P B with
  | some e=>exact absurd (.inl ⟨e,(nk h1).1,fun q hq=>xk.1 ((nk h1).2 q hq)⟩) h
  | none =>
   cases J:fa true B P with
   | some e=>exact absurd (.inr ⟨e,(nk J).1,fun q hq=>xk.1 ((nk J).2 q hq)⟩) h
   | none=>rfl
theorem MO {P B:List Q2}:eK false P B=none↔¬ (vO P B∨vO B P):=by
 unfold eK;constructor
 ·intro h;cases h1:fa false P B with
  | some e=>rw [h1] at h; cases h
  | none =>
   rw [h1] at h
   rintro (⟨e,he,J⟩ | ⟨e,he,J⟩)
   ·exact CW h1 ⟨e,he,fun q hq=>Cb.2 (J q hq)⟩
   ·exact CW h ⟨e,he,fun q hq=>Cb.2 (J q hq)⟩
 ·intro h;cases h1:fa false P B with
  | some e=>exact absurd (.inl ⟨e,(nk h1).1,fun q hq=>Cb.1 ((nk h1).2 q hq)⟩) h
  | none =>
   cases J:fa false B P with
   | some e=>exact absurd (.inr ⟨e,(nk J).1,fun q hq=>Cb.1 ((nk J).2 q hq)⟩) h
   | none=>rfl
theorem O2 {X Y:List PV} (hX:bg X=0) (hY:bg Y=0):sQ X Y=true↔∃ v∈aD X,bM (aD Y) v:=by
 have zX:=j8 hX;have zY:=j8 hY;unfold sQ;rw [List.any_eq_true];constructor
 ·rintro ⟨v,hv,h⟩
  refine ⟨v.p,List.mem_map_of_mem hv,?_⟩;have:=of_decide_eq_true h;rw [Om hY (zX.2.1 v hv)] at this;exact (ni zY.2.2.1).1 this
 ·rintro ⟨x,hx,h⟩
  obtain ⟨v,hv,rfl⟩:=List.mem_map.1 hx;refine ⟨v,hv,decide_eq_true ?_⟩;rw [Om hY (zX.2.1 v hv)];exact (ni zY.2.2.1).2 h
theorem Yo {A B:List PV} {R:List Q2} (hA:bg A=0) (hB:bg B=0) (lA:A.length≤10) (lB:B.length≤10) (sA:∀ v∈A,v.sz 12) (sB:∀ v∈B,v.sz 12) (hR:R=jw (aD A) (aD B)) :
  dm A B=qZ R∧R.length≤20 ∧
  ((R≠[]∧gw true A B=(true,0)∧gw false A B=(true,0)∧jh A B=(lT,6)) ∨
    (R=[]∧gw true A B=(false,0)∧∃ (t:Bool) (a b:Q2),gw false A B=(t,0)∧jh A B=((cj a,cj b),0)∧a≠b∧(Q2.sz 12 a∧Q2.sz 12 b) ∧
    (((∀ v∈aD A,0≤ak a b v)∧∀ v∈aD B,ak a b v≤0)∨((∀ v∈aD A,ak a b v≤0)∧∀ v∈aD B,0≤ak a b v))∧t=(sQ A B || sQ B A))):=by
 have zA:=j8 hA;have zB:=j8 hB;obtain ⟨_,_,h1,_⟩:=Vr zA.2.2.1 zA.2.2.2 zB.2.2.1 (lM sA (by decide)) (lM sB (by decide))
 rw [← hR,cA,cA] at h1;refine ⟨by rw [aaT hA hB,hR],by omega,?_⟩
 have key:=Um zA.2.2.1 zA.2.2.2 zB.2.2.1;rw [← hR] at key;unfold gw jh;rw [if_pos ⟨hA,hB⟩,if_pos ⟨hA,hB⟩,if_pos ⟨hA,hB⟩];by_cases h:R=[]
 ·right
  have hp:=key.1 h;refine ⟨h,?_⟩;cases hs:eK true (aD A) (aD B) with
  | none=>exact absurd hp (NB.1 hs)
  | some e =>
   obtain ⟨a,b⟩:=e;have side:(((a,b)∈aU (aD A)∧∀ q∈aD B,ak a b q≤0)∨((a,b)∈aU (aD B)∧∀ q∈aD A,ak a b q≤0)):=by
    unfold eK at hs;cases h1:fa true (aD A) (aD B) with
    | some e=>rw [h1] at hs; cases hs; exact .inl ⟨(nk h1).1,fun q hq=>xk.1 ((nk h1).2 q hq)⟩
    | none=>rw [h1] at hs; exact .inr ⟨(nk hs).1,fun q hq=>xk.1 ((nk hs).2 q hq)⟩
   refine ⟨rfl,(eK false (aD A) (aD B)).isNone,a,b,rfl,rfl,?_,?_,?_,?_⟩
   ·rcases side with ⟨he,_⟩ | ⟨he,_⟩
    ·exact zA.2.2.1.ne _ he
    ·exact zB.2.2.1.ne _ he
   ·rcases side with ⟨he,_⟩ | ⟨he,_⟩
    ·exact ⟨lM sA (by decide) _ (gL he).1,lM sA (by decide) _ (gL he).2⟩
    ·exact ⟨lM sB (by decide) _ (gL he).1,lM sB (by decide) _ (gL he).2⟩
   ·rcases side with ⟨he,J⟩ | ⟨he,J⟩
    ·exact .inl ⟨fun v hv=>iG zA.2.2.1.cT he hv,J⟩
    ·exact .inr ⟨J,fun v hv=>iG zB.2.2.1.cT he hv⟩
   ·have t:=Vs zA.2.2.1 zB.2.2.1 hp;rw [Bool.eq_iff_iff,Option.isNone_iff_eq_none,MO,t,Bool.or_eq_true,O2 hA hB,O2 hB hA]
 ·left
  have hp:¬ (ko (aD A) (aD B)∨ko (aD B) (aD A)):=fun e=>h (key.2 e)
  have J:=NB.2 hp;have h3:eK false (aD A) (aD B)=none:=MO.2 fun e=>hp (e.imp (fun ⟨x,hx,k⟩=>⟨x,hx,fun q hq=>by have:=k q hq; grind⟩) (fun ⟨x,hx,k⟩=>⟨x,hx,fun q hq=>by have:=k q hq; grind⟩))
  rw [J,h3];exact ⟨h,rfl,rfl,rfl⟩
open Go Go.RowKit
section
variable {P:Program} {w:World} {r:Reach} {base:Nat} {t:TypeId} {v:Value}
end
open Go Go.RowKit Go.ChangeShapes Go.WideShapes Go.ChangeAt
theorem Sg {P:Program} {f:FuncId} {S:a9} (h:cU P f S) {i:S.ι} (hp:S.pre i) {JL:List Value} {ν:Nu} {w:World} (ha:bf ν (S.args i) JL) (hH:bT ν ((S.ae i).map some) w)
  (hν:∀ id,(S.ae i).length≤id→ν id=none) {b:Bool} (hv:S.val i=.bool b) :
  Calls P f ⟨JL⟩ w fun e w'=>e=.returned (.bool b)∧Below w.heap.size w w':=by
 have h1:=h.calls i hp ν JL w 0 ha hH hν;rw [callsIn_wide] at h1;refine h1.mono fun e w' ⟨v',al,he,hq⟩=>⟨?_,hq.below⟩
 have hr:=hq.val;rw [hv] at hr;rw [he,hr.kc]
section
variable {H:Type} {enc:TypeId × Value→H} {P:Program} {w:World} {base:Nat} {spare:Nat→Bool} {held:Bool}
structure DG (P:Program) (tr tp b s:TypeId):Prop where
 rat:∃ f0 f1 f2,P.underlying tr=some (.struct #[f0,f1,f2])∧(f0.type=b∧f0.offset=0)∧(f1.type=s∧f1.offset=1)∧f2.type=s∧f2.offset=2
 pt:∃ f0 f1,P.underlying tp=some (.struct #[f0,f1])∧(f0.type=tr∧f0.offset=0)∧f1.type=tr∧f1.offset=3
 bool:P.underlying b=some .bool
 str:P.underlying s=some .string
 cr:P.cellsOf tr=3
 cp:P.cellsOf tp=6
 cb:P.cellsOf b=1
 cs:P.cellsOf s=1
theorem NC {tr tp b s:TypeId} (T:DG P tr tp b s) {n:Nat} {l:List Value} {y:DataW H × List MemPlace} (h:DataW.trod enc P w base spare held n tr l=some y):∃ i:RV,l=i.cells:=by
 obtain ⟨f0,f1,f2,hu,⟨t0,o0⟩,⟨t1,o1⟩,t2,o2⟩:=T.rat;obtain ⟨y0,y1,y2,m,_,hl,h0,h1,J⟩:=Deep.trod_struct3 hu h;rw [T.cr] at hl;rw [t0,o0,T.cb] at h0;rw [t1,o1,T.cs] at h1;rw [t2,o2,T.cs] at J
 match l,hl with
 | [x,y,z],_ =>
  obtain ⟨b,e0,_⟩:=DataW.trod_bool T.bool h0;obtain ⟨s1,e1,_⟩:=DataW.trod_string T.str h1;obtain ⟨s2,e2,_⟩:=DataW.trod_string T.str J;simp at e0 e1 e2;subst e0; subst e1; subst e2;exact ⟨(b,s1,s2),rfl⟩
theorem Yp {tr tp b s:TypeId} (T:DG P tr tp b s) {n:Nat} {l:List Value} {y:DataW H × List MemPlace} (h:DataW.trod enc P w base spare held n tp l=some y):∃ p:PV,l=p.cells:=by
 obtain ⟨f0,f1,hu,⟨t0,o0⟩,t1,o1⟩:=T.pt;obtain ⟨y0,y1,m,_,hl,h0,h1⟩:=trod_struct2 hu h;rw [T.cp] at hl;rw [t0,o0,T.cr] at h0;rw [t1,o1,T.cr] at h1;obtain ⟨i,e0⟩:=NC T h0;obtain ⟨j,e1⟩:=NC T h1
 match l,hl with
 | [x,y,z,x',y',z'],_ =>
  have e0:[x,y,z]=i.cells:=e0;have e1:[x',y',z']=j.cells:=e1;refine ⟨(i,j),?_⟩;show [x,y,z]++[x',y',z']=i.cells++j.cells
  rw [e0,e1]
end
open Go Go.RowKit Go.ChangeShapes Go.WideShapes Go.ChangeAt
section
variable {P:Program} {w:World} {r:Reach} {base:Nat} {t:TypeId} {v:Value}
end
structure afn (P:Program) (tr tn:TypeId):Prop where
 ln:∃ f0 f1 f2,P.underlying tn=some (.struct #[f0,f1,f2])∧(f0.type=tr∧f0.offset=0)∧(f1.type=tr∧f1.offset=3)∧f2.type=tr∧f2.offset=6
 cn:P.cellsOf tn=9
section
variable {H:Type} {enc:TypeId × Value→H} {P:Program} {w:World} {base:Nat} {spare:Nat→Bool} {held:Bool}
end
open Go Go.RowKit Go.ChangeShapes Go.WideShapes Go.ChangeAt
section
variable {H:Type} {enc:TypeId × Value→H} {P:Program} {w:World} {base:Nat} {spare:Nat→Bool} {held:Bool}
theorem KM {tl tr tp b s:TypeId} (T:DG P tr tp b s) (ht:P.underlying tl=some (.slice tp)) {v:Value} {d:DataW H} {ps:List MemPlace} {r:Reach} {b0:Nat} (hv:Value.okWide P w r b0 tl v)
  (h:DataW.Trod enc P w base (fun _=>true) held tl v d ps) :
  ∃ (i:PL) (ν:Nu),i.list.length≤9223372036854775807∧(∀ B m,(∀ elems spare,d=.slice elems spare→(elems.length+spare.length)*B≤m)→i.list.length*B≤m)∧aq ν i.val v∧bT ν (i.ae.map some) w∧∀ id,i.ae.length≤id→ν id=none:=by
 obtain ⟨a0,pN,aeV,rfl⟩:=okWide_slice ht hv;obtain ⟨fuel,hf⟩:=h;rcases Deep.open_slice ht hf with ⟨AM,_⟩ | ⟨a,len,cap,m,n,D,Pl,AM,hb,hl,hm,m7,hd,hx⟩
 ·simp [Value.cells] at AM;obtain ⟨rfl,rfl,rfl⟩:=AM;refine ⟨none,fun _=>none,Nat.zero_le _,fun B m _=>by show 0*B≤m; omega,.iL,⟨fun id b h=>by simp [PL.ae] at h,fun i j bi bj li lj h=>by simp [PL.ae] at h⟩,fun _ _=>rfl⟩
 ·simp [Value.cells] at AM;obtain ⟨rfl,rfl,rfl⟩:=AM;have m7:m=aeV:=m7;subst m7;simp only [Value.okWide,ht,Cell.okWide,Cell.ok] at hv;obtain ⟨_,_,_,rH,row,cells,Ho,_⟩:=hv;have Hw:a.block < w.heap.size:=by
   unfold World.shape? at Ho
   split at Ho
   ·rename_i hh;exact (Array.getElem?_eq_some_iff.1 hh).1
   ·cases Ho
  obtain ⟨V,hV⟩:=Deep.choose_lt (α:=PV) (n:=m) (p:=fun i p=>∀ j,j < 6→w.cell? ((a.add (i*6)).add j)=p.cells[j]?) (fun i hi=>by
   obtain ⟨eM,h1,J⟩:=hx i hi;rw [T.cp] at h1;obtain ⟨p,rfl⟩:=Yp T J;obtain ⟨_,_,hc⟩:=World.cells?_some h1;exact ⟨p,hc⟩)
  have hlm:pN≤m:=hl;refine ⟨some ((List.range pN).map V,aM),fun id=>if id=0 then some ⟨a.block,a.off,6,m⟩ else none,?_,?_,?_,⟨fun id b bm=>?_,fun i j bi bj li lj h1 J h3 h4=>?_⟩,fun id bm=>?_⟩
  ·show ((List.range pN).map V).length≤_
   have eH:m≤9223372036854775807:=hm;rw [List.length_map,List.length_range];omega
  ·intro B M hB;have hd:=hB _ _ (congrArg Prod.fst hd);show ((List.range pN).map V).length*B≤M
   rw [List.length_map,List.length_range];refine Nat.le_trans (Nat.mul_le_mul_right _ ?_) hd;simp
  ·have e:a=Loc.at ⟨a.block,a.off,6,m⟩ 0 0:=by
    obtain ⟨b0,o0,s0⟩:=a;have:s0=none:=rH;subst this;simp [Loc.at]
   have:=aq.slice (ν:=fun id=>if id=0 then some ⟨a.block,a.off,6,m⟩ else none) 0 0 pN aM m ⟨a.block,a.off,6,m⟩ rfl (.inr rfl) hlm (by simp)
   rw [← e] at this;show aq _ (.slice (some ⟨0,0,none⟩) ((List.range pN).map V).length aM) _
   rw [List.length_map,List.length_range];exact this
  ·cases id with
   | succ id=>simp [PL.ae] at bm
   | zero =>
    simp [PL.ae] at bm;subst bm;refine ⟨_,rfl,⟨rfl,fun r hr=>rfl,fun r hr j v yj=>?_,fun _ r hr v hv=>?_,fun r hr v hv=>?_,fun h=>(by cases h),(fun r h=>by cases h),Hw⟩⟩
    ·have ff:r < pN:=hr;have hr:r < ((List.range pN).map V).length:=by rw [List.length_map,List.length_range]; exact ff
     obtain ⟨p,hp,_,aZ⟩:=rT hr;have hpV:V r=p:=by
      rw [List.getElem?_map,List.getElem?_range ff] at hp
      simpa using hp
     have yj:(cB ((List.range pN).map V) r)[j]?=some v:=yj;rw [aZ] at yj;have hj:j < 6:=(List.getElem?_eq_some_iff.1 yj).1;have hc:=hV r (by omega) j hj
     rw [hpV,yj] at hc;refine ⟨v,?_,?_⟩
     ·rw [← hc]
      congr 1
      obtain ⟨b0,o0,s0⟩:=a;have:s0=none:=rH;subst this;by_cases J:r*6=0
      ·have h3:r=0:=by omega
       by_cases h1:j=0 <;> simp [Loc.at,Addr.add,h1,h3]
      ·by_cases h1:j=0 <;> simp [Loc.at,Addr.add,h1,J,Nat.add_assoc]
     ·have hs:mP p.cells=true:=rfl;exact aq.j7 (dD hs v (List.mem_of_getElem? yj))
    ·exact dD (LC _ r) v hv
    ·have:=dD (LC ((List.range pN).map V) r) v hv;cases v <;> first | rfl | simp [cJ] at this
  ·cases i with
   | succ i=>simp [PL.ae] at h1
   | zero =>
    cases j with
    | zero=>exact absurd rfl h3
    | succ j=>simp [PL.ae] at J
  ·have:id≠0:=by
    intro e; subst e;have bm:1≤0:=bm;omega
   simp [this]
end
theorem adb {w:World} {i1 i2:PL} {dP rn:Nu} {v1 v2:Value} (h1:aq dP i1.val v1) (H1:bT dP (i1.ae.map some) w) (n1:∀ id,i1.ae.length≤id→dP id=none) (J:aq rn i2.val v2) (H2:bT rn (i2.ae.map some) w) (n2:∀ id,i2.ae.length≤id→rn id=none) :
  ∃ ν:Nu,bT ν ((i1.ae++i2.ae).map some) w∧(∀ id,(i1.ae++i2.ae).length≤id→ν id=none)∧aq ν i1.val v1∧aq ν (i2.u1 i1.ae.length) v2:=by
 have own:∀ i:PL,∀ b∈i.ae,b.own=false∧b.iY=true∧b.rc=none:=fun i b hb=>by
  cases i with
  | none=>cases hb
  | some i=>rw [List.mem_singleton.1 hb]; exact ⟨rfl,rfl,rfl⟩
 have cT:∀ {ν al:Nu} {l:Loc} {b:aj},b.iY=true→bQ ν l b w→bQ al l b w:=fun {ν al l b} hf h =>
  ⟨h.ah,h.len,fun r hr j v hv=>by
   obtain ⟨v',hc,iP⟩:=h.cell r hr j v hv;have hs:=h.plain hf r hr v (List.mem_of_getElem? hv);rw [iP.j9 hs] at hc;exact ⟨v,hc,aq.j7 hs⟩,h.plain,h.one,h.own,h.lr,h.live⟩
 refine ⟨fun id=>if id < i1.ae.length then dP id else rn (id - i1.ae.length),⟨fun id b bm=>?_,fun i j bi bj li lj hi hj aE ho=>?_⟩,fun id bm=>?_,?_,?_⟩
 ·rw [List.getElem?_map] at bm;obtain ⟨b',bz,e⟩:=Option.map_eq_some_iff.1 bm;obtain rfl:b'=b:=Option.some.inj e;by_cases h:id < i1.ae.length
  ·rw [List.getElem?_append_left h] at bz;obtain ⟨l,hl,hr⟩:=H1.aJ id b' (by rw [List.getElem?_map,bz]; rfl)
   exact ⟨l,by rw [if_pos h]; exact hl,cT (own _ _ (List.mem_of_getElem? bz)).2.1 hr⟩
  ·rw [List.getElem?_append_right (by omega)] at bz
   obtain ⟨l,hl,hr⟩:=H2.aJ (id - i1.ae.length) b' (by rw [List.getElem?_map,bz]; rfl)
   exact ⟨l,by rw [if_neg h]; exact hl,cT (own _ _ (List.mem_of_getElem? bz)).2.1 hr⟩
 ·rw [List.getElem?_map] at hi;obtain ⟨b',bz,e⟩:=Option.map_eq_some_iff.1 hi;obtain rfl:b'=bi:=Option.some.inj e;have:b'.own=false:=by
   rcases List.mem_append.1 (List.mem_of_getElem? bz) with h | h
   ·exact (own _ _ h).1
   ·exact (own _ _ h).1
  rw [this] at ho;cases ho
 ·rw [List.length_append] at bm;show (if id < i1.ae.length then dP id else rn (id - i1.ae.length))=none
  rw [if_neg (by omega)]
  exact n2 _ (by omega)
 ·cases i1 with
  | none=>cases h1; exact .iL
  | some i =>
   obtain ⟨L,c0⟩:=i;have h1:aq dP (.slice (some ⟨0,0,none⟩) L.length c0) v1:=h1;show aq _ (.slice (some ⟨0,0,none⟩) L.length c0) v1
   generalize L.length=k at h1 ⊢;cases h1 with
   | slice id row n c c' l h hc hn hr=>exact .slice _ _ _ _ _ l (by show (if 0 < 1 then dP 0 else _)=_; exact h) hc hn hr
   | void id row c a hc=>exact .void _ _ _ a hc
 ·cases i2 with
  | none=>cases J; exact .iL
  | some i =>
   obtain ⟨L,c0⟩:=i;have J:aq rn (.slice (some ⟨0,0,none⟩) L.length c0) v2:=J;show aq _ (.slice (some ⟨i1.ae.length,0,none⟩) L.length c0) v2
   generalize L.length=k at J ⊢;cases J with
   | slice id row n c c' l h hc hn hr=>exact .slice _ _ _ _ _ l (by show (if i1.ae.length < i1.ae.length then _ else rn (i1.ae.length - i1.ae.length))=_; rw [if_neg (by omega),Nat.sub_self]; exact h) hc hn hr
   | void id row c a hc=>exact .void _ _ _ a hc
end Go.Ae
