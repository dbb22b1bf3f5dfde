import Derived.WalkKit
import Derived.ProofKit
import Derived.OpenShut
import Derived.ShutString
import Derived.ChangeOld
import Derived.Below
import Derived.Deep.Slices
import Derived.Deep.Strs
import Derived.SizedLaws
import Derived.Test.YtlapbjdhekcipaaGreatWD
set_option linter.unusedVariables false
set_option linter.unusedSimpArgs false
namespace Go.Ae
open Go
theorem aat (o i j k m:Q2):ao o j k*ao i j m=ao o j m*ao i j k+ao o i j*ao j k m:=by simp only [dG]; grind
theorem aau (o i j k m:Q2):ao o j k*ao i k m=ao o k m*ao i j k+ao o i k*ao j k m:=by simp only [dG]; grind
theorem Fh {a x s:Rat} (ha:0 < a) (h:a*x=s) (hs:0 < s):0 < x:=by
 by_cases hx:0 < x
 ·exact hx
 ·have:=Rat.mul_nonneg (show 0≤a by grind) (show 0≤-x by grind)
  grind
theorem N5 {a b c d:Rat} (ha:0 < a) (hb:0 < b) (hc:0 < c) (hd:0 < d):0 < a*b+c*d:=by
 have:=Rat.mul_pos ha hb;have:=Rat.mul_pos hc hd;grind
def fK (a b:Q2):Prop:=a.1 < b.1∨a.1=b.1∧a.2 < b.2
theorem U7 {o a b c:Q2} (ha:fK o a) (hb:fK o b) (hc:fK o c) (h1:0 < ao o a b) (J:0 < ao o b c):0 < ao o a c:=by
 have e:(b.1 - o.1)*ao o a c=(a.1 - o.1)*ao o b c+(c.1 - o.1)*ao o a b:=by simp only [dG]; grind
 have D5:0 < b.1 - o.1:=by
  rcases hb with h | ⟨h,h'⟩
  ·grind
  ·exfalso;have e2:ao o b c=-((b.2 - o.2)*(c.1 - o.1)):=by rw [dG,show b.1 - o.1=0 by grind]; grind
   have:=Rat.mul_nonneg (show 0≤b.2 - o.2 by grind) (show 0≤c.1 - o.1 by rcases hc with h | ⟨h,_⟩ <;> grind)
   grind
 have vH:0 < a.1 - o.1:=by
  rcases ha with h | ⟨h,h'⟩
  ·grind
  ·exfalso;have e2:ao o a b=-((a.2 - o.2)*(b.1 - o.1)):=by rw [dG,show a.1 - o.1=0 by grind]; grind
   have:=Rat.mul_pos (show 0 < a.2 - o.2 by grind) D5
   grind
 refine Fh D5 e ?_;have:=Rat.mul_pos vH J;have:=Rat.mul_nonneg (show 0≤c.1 - o.1 by rcases hc with h | ⟨h,_⟩ <;> grind) (show 0≤ao o a b by grind)
 grind
theorem Wr {o:Q2}:∀ l:List Q2,(∀ v∈l,fK o v)→(∀ e∈cc l,0 < ao o e.1 e.2)→l.Pairwise (fun a b=>0 < ao o a b):=by
 intro l
 induction l with
 | nil=>exact fun _ _=>.nil
 | cons a l ih =>
  intro hv he;cases l with
  | nil=>simp
  | cons b l =>
   rw [lu] at he;have J:=ih (fun v h=>hv v (List.mem_cons_of_mem _ h)) (fun e h=>he e (List.mem_cons_of_mem _ h))
   rw [List.pairwise_cons];refine ⟨fun c hc=>?_,J⟩
   have dJ:=he (a,b) (List.mem_cons_self ..);rcases List.mem_cons.1 hc with rfl | cF
   ·exact dJ
   ·rw [List.pairwise_cons] at J;exact U7 (hv a (List.mem_cons_self ..)) (hv b (List.mem_cons_of_mem _ (List.mem_cons_self ..))) (hv c (List.mem_cons_of_mem _ hc)) dJ (J.1 c cF)
def zJ:List Q2→Prop
 | []=>True
 | a::l=>l.Pairwise (fun b c=>0 < ao a b c)∧zJ l
theorem zJ.eh:∀ {l:List Q2},zJ l→bD l
 | [],_=>trivial
 | a::l,h=>⟨h.1.imp (fun h=>by grind),zJ.eh h.2⟩
theorem Ws {o:Q2}:∀ l:List Q2,l.Pairwise (fun a b=>0 < ao o a b)→(∀ e∈cc (cc l),0 < ao e.1.1 e.1.2 e.2.2)→zJ l:=by
 intro l
 induction l with
 | nil=>exact fun _ _=>trivial
 | cons a l ih =>
  intro hf hc;rw [List.pairwise_cons] at hf;obtain ⟨Rm,hf⟩:=hf;cases l with
  | nil=>exact ⟨.nil,trivial⟩
  | cons b l =>
   have hS:=ih hf (fun e he=>hc e (by
    cases l with
    | nil=>cases he
    | cons c l=>rw [lu,lu,lu]; exact List.mem_cons_of_mem _ he))
   rw [List.pairwise_cons] at hf;have JF:l.Pairwise (fun x y=>0 < ao b x y):=hS.1
   have h1:∀ z∈l,0 < ao a b z:=by
    cases l with
    | nil=>intro z hz; cases hz
    | cons c l =>
     have Ql:0 < ao a b c:=hc ((a,b),(b,c)) (by rw [lu,lu,lu]; exact List.mem_cons_self ..)
     intro z hz;rcases List.mem_cons.1 hz with rfl | ou
     ·exact Ql
     ·rw [List.pairwise_cons] at JF;exact Fh (hf.1 c (List.mem_cons_self ..)) (aat o a b c z) (N5 (hf.1 z hz) Ql (Rm b (List.mem_cons_self ..)) (JF.1 z ou))
   refine ⟨?_,hS⟩;rw [List.pairwise_cons];refine ⟨h1,?_⟩;have h3:=List.Pairwise.and_mem.1 (JF.and hf.2);refine h3.imp fun {x y} ⟨hx,hy,aeo,aep⟩=>?_
   exact Fh (hf.1 x hx) (aau o a b x y) (N5 aep (h1 x hx) (Rm x (List.mem_cons_of_mem _ hx)) aeo)
theorem LI {α:Type} {l:List α} {e:α × α} (h:e∈cc l):∃ i,l[i]?=some e.1∧l[i+1]?=some e.2:=by
 obtain ⟨i,hi,rfl⟩:=List.getElem_of_mem h;refine ⟨i,?_⟩;have:(cc l)[i]?=some (cc l)[i]:=List.getElem?_eq_getElem hi;unfold cc at this;rw [List.getElem?_zip_eq_some,List.getElem?_tail] at this;exact this
theorem yV {a b:Q2}:fR a b < 0↔fK a b:=by
 have h:=uC (a:=b) (b:=a);unfold iI at h;unfold fK;constructor
 ·intro hc;have hn:¬ (b.1 < a.1∨b.1=a.1∧b.2≤a.2):=fun e=>h.1 e hc
  grind
 ·intro hc;refine Decidable.byContradiction fun hn=>?_
  have:=h.2 hn;grind
def fy (Q:List Q2):Prop:=∀ i,0 < i→i < Q.length→fK (au Q 0) (au Q i)
def mz (Q:List Q2) (i:Nat):Prop:=ao (au Q i) (au Q (aZ Q.length i)) (au Q (aZ Q.length (aZ Q.length i)))≤0∨(0 < i∧i+1 < Q.length∧ao (au Q 0) (au Q i) (au Q (i+1))≤0)
def zh (Q:List Q2) (i:Nat):Prop:=∃ p∈Q,p≠au Q i∧p≠au Q (aZ Q.length i)∧ao (au Q i) (au Q (aZ Q.length i)) p≤0
theorem xo {Q:List Q2} (h:fy Q) {i:Nat} (h0:0 < i) (hi:i < Q.length):au Q 0≠au Q i:=fun e=>by
 have:=h i h0 hi;rw [← e] at this;rcases this with h | ⟨_,h⟩ <;> exact absurd h (Rat.not_lt.2 (Rat.le_refl))
theorem uo {Q:List Q2} (h3:3≤Q.length) (ho:fy Q):Ring Q↔∀ i,i < Q.length→¬ mz Q i:=by
 constructor
 ·intro hR i hi hb;rcases hb with hb | ⟨h0,h1,hb⟩
  ·have hn:=cJ hi;have:=hR.sh _ hn;rw [Cj hi] at this;grind
  ·have fh:=hR.nodup;have hT:=hR.eh;have e0:(Q.length - 1+1)=Q.length:=by omega
   have eH:0≤ao (au Q i) (au Q (i+1)) (au Q 0):=by
    have he:=lC hi;rw [show aZ Q.length i=i+1 from Nat.mod_eq_of_lt h1] at he
    exact oO hT he (eL (by omega))
   have aJ:ao (au Q 0) (au Q i) (au Q (i+1))≠0:=A1 (hR.ext.1 (eL (by omega))) (hR.ext.1 (eL hi)) (hR.ext.1 (eL h1)) (xo ho h0 hi) (xo ho (by omega) h1) fun e=>by
    have:=w8 fh hi h1 e;omega
   rw [w6] at hb aJ;grind
 ·intro h;have Qm:∀ k,k < Q.length→0 < ao (au Q (dB Q.length k)) (au Q k) (au Q (aZ Q.length k)):=fun k hk=>by
   have:=h _ (ju hk);unfold mz at this;rw [Ci hk] at this;exact Rat.not_le.1 fun e=>this (.inl e)
  refine ⟨?_,h3,Qm⟩;cases Q with
  | nil=>exact trivial
  | cons o l =>
   have hv:∀ v∈l,fK o v:=fun v hv=>by
    obtain ⟨i,hi,rfl⟩:=qi hv;exact ho (i+1) (by omega) (by simp; omega)
   have hp:=Wr l hv fun e he=>by
    obtain ⟨i,h1,J⟩:=LI he;have hi:i+1 < l.length:=(List.getElem?_eq_some_iff.1 J).1;have:=h (i+1) (by simp; omega)
    unfold mz at this;have e1:au (o::l) (i+1)=e.1:=sf h1;have e2:au (o::l) (i+1+1)=e.2:=sf J;have e0:au (o::l) 0=o:=rfl;rw [e1,e2,e0] at this;exact Rat.not_le.1 fun e=>this (.inr ⟨by omega,by simp; omega,e⟩)
   refine ⟨hp.imp (fun h=>by grind),(Ws l hp fun e he=>?_).eh⟩
   obtain ⟨i,h1,J⟩:=LI he;have g1:l[i]?=some e.1.1∧l[i+1]?=some e.1.2:=by
    unfold cc at h1;rw [List.getElem?_zip_eq_some,List.getElem?_tail] at h1;exact h1
   have g2:l[i+1]?=some e.2.1∧l[i+1+1]?=some e.2.2:=by
    unfold cc at J;rw [List.getElem?_zip_eq_some,List.getElem?_tail] at J;exact J
   have hi:i+1+1 < l.length:=(List.getElem?_eq_some_iff.1 g2.2).1;have:=Qm (i+1+1) (by simp; omega)
   have hn:aZ (o::l).length (i+1+1)=i+1+1+1:=Nat.mod_eq_of_lt (by simp; omega)
   have hq:dB (o::l).length (i+1+1)=i+1:=by
    have:=Cj (n:=(o::l).length) (k:=i+1) (by simp; omega)
    rwa [show aZ (o::l).length (i+1)=i+1+1 from Nat.mod_eq_of_lt (by simp; omega)] at this
   rw [hn,hq] at this;have e1:au (o::l) (i+1)=e.1.1:=sf g1.1;have e2:au (o::l) (i+1+1)=e.1.2:=sf g1.2;have e3:au (o::l) (i+1+1+1)=e.2.2:=sf g2.2;rw [e1,e2,e3] at this;exact this
theorem U8 {Q:List Q2} (h3:3≤Q.length) (ho:fy Q) (h:∀ i,i < Q.length→¬ zh Q i):∀ i j,i < j→j < Q.length→au Q i≠au Q j:=by
 have aw:∀ i,i < Q.length→∀ p∈Q,p≠au Q i→p≠au Q (aZ Q.length i)→0 < ao (au Q i) (au Q (aZ Q.length i)) p:=fun i hi p hp h1 J =>
  Rat.not_le.1 fun e=>h i hi ⟨p,hp,h1,J,e⟩
 have aJ:∀ i,i < Q.length→au Q i≠au Q (aZ Q.length i):=fun i hi e=>by
  by_cases h0:i=0
  ·subst h0;exact xo ho (i:=aZ Q.length 0) (by unfold aZ; rw [Nat.mod_eq_of_lt (by omega)]; omega) (cJ hi) e
  ·have bO:au Q 0≠au Q i:=xo ho (by omega) hi
   have:=aw i hi (au Q 0) (eL (by omega)) bO (fun e2=>bO (e2.trans e.symm))
   rw [← e,Ch] at this;grind
 have key:∀ d i j,Q.length - j=d→0 < i→i < j→j < Q.length→au Q i≠au Q j:=by
  intro d
  induction d with
  | zero=>intro i j hd _ _ hj; omega
  | succ d ih =>
   intro i j hd h0 x5 hj e;have hi:i < Q.length:=by omega
   have eni:aZ Q.length i=i+1:=Nat.mod_eq_of_lt (by omega)
   have gj:au Q (aZ Q.length i)=au Q (aZ Q.length j):=by
    refine Decidable.byContradiction fun hc=>?_
    have a:=aw i hi (au Q (aZ Q.length j)) (eL (cJ hj)) (by rw [e]; exact Ne.symm (aJ j hj)) (Ne.symm hc)
    have b:=aw j hj (au Q (aZ Q.length i)) (eL (cJ hi)) (by rw [← e]; exact Ne.symm (aJ i hi)) hc
    rw [← e,yL] at b;grind
   rw [eni] at gj;by_cases hl:j+1 < Q.length
   ·rw [show aZ Q.length j=j+1 from Nat.mod_eq_of_lt hl] at gj
    exact ih (i+1) (j+1) (by omega) (by omega) (by omega) hl gj
   ·have:j+1=Q.length:=by omega
    rw [show aZ Q.length j=0 from by unfold aZ; rw [this,Nat.mod_self]] at gj
    exact xo ho (i:=i+1) (by omega) (by omega) gj.symm
 intro i j x5 hj;by_cases h0:i=0
 ·subst h0; exact xo ho x5 hj
 ·exact key _ i j rfl (by omega) x5 hj
theorem Nk {Q:List Q2} (h3:3≤Q.length) (ho:fy Q):Ring Q↔∀ i,i < Q.length→¬ zh Q i:=by
 constructor
 ·rintro hR i hi ⟨p,hp,h1,J,hb⟩
  have eH:=oO hR.eh (lC hi) hp;have:=A1 (hR.ext.1 (eL hi)) (hR.ext.1 (eL (cJ hi))) (hR.ext.1 hp) (hR.ne _ (lC hi)) (Ne.symm h1) (Ne.symm J);grind
 ·intro h;have fh:=U8 h3 ho h;have hd:∀ i j,i < Q.length→j < Q.length→i≠j→au Q i≠au Q j:=fun i j hi hj aJ=>by
   rcases Nat.lt_or_gt_of_ne aJ with h | h
   ·exact fh i j h hj
   ·exact Ne.symm (fh j i h hi)
  have aw:∀ i j,i < Q.length→j < Q.length→j≠i→j≠aZ Q.length i→0 < ao (au Q i) (au Q (aZ Q.length i)) (au Q j):=fun i j hi hj h1 J =>
   Rat.not_le.1 fun e=>h i hi ⟨au Q j,eL hj,hd j i hj hi h1,hd j _ hj (cJ hi) J,e⟩
  refine (uo h3 ho).2 fun i hi hb=>?_
  rcases hb with hb | ⟨h0,h1,hb⟩
  ·have hn:=cJ hi;have:=aw i _ hi (cJ hn) (fun e=>by
    unfold aZ at e;rcases Nat.lt_or_ge (i+1) Q.length with h | h
    ·rw [Nat.mod_eq_of_lt h] at e;rcases Nat.lt_or_ge (i+1+1) Q.length with h' | h'
     ·rw [Nat.mod_eq_of_lt h'] at e; omega
     ·rw [show i+1+1=Q.length by omega,Nat.mod_self] at e; omega
    ·rw [show i+1=Q.length by omega,Nat.mod_self,Nat.mod_eq_of_lt (by omega)] at e; omega) (xn hn (by omega))
   grind
  ·have:=aw i 0 hi (by omega) (by omega) (by rw [show aZ Q.length i=i+1 from Nat.mod_eq_of_lt h1]; omega)
   rw [show aZ Q.length i=i+1 from Nat.mod_eq_of_lt h1,← w6] at this
   grind
open Go
theorem o4 (a b p:Q2):aq (dP a b) p=ao a b p:=by simp only [gq,dG,dP]; grind
theorem Nl {a b:Q2} (h:a≠b):mR (dP a b):=fun e=>h (Prod.ext (by have:=e.2; unfold dP at this; grind) (by have:=e.1; unfold dP at this; grind))
theorem Wt {m:Q3} {x y z:Q2} (hx:aq m x=0) (hy:aq m y=0) (aJ:x≠y) (h:ao x y z=0):aq m z=0:=by
 rw [gq] at *;rw [dG] at h;by_cases h0:y.1 - x.1=0
 ·have h1:y.2 - x.2≠0:=fun e=>aJ (Prod.ext (by grind) (by grind))
  have:(y.2 - x.2)*(m.1*z.1+m.2.1*z.2 - m.2.2)=0:=by grind
  exact (Rat.mul_eq_zero.1 this).resolve_left h1
 ·have:(y.1 - x.1)*(m.1*z.1+m.2.1*z.2 - m.2.2)=0:=by grind
  exact (Rat.mul_eq_zero.1 this).resolve_left h0
theorem N6 {m:Q3} (hm:mR m) {a b c:Q2} (ha:aq m a=0) (hb:aq m b=0) (hc:aq m c=0):ao a b c=0 :=
 Ck (P:=[a,b,c]) ⟨m,hm,fun v hv=>by simp at hv; rcases hv with rfl | rfl | rfl <;> assumption⟩ (by simp) (by simp) (by simp)
theorem TW {P:List Q2} {v:Q2} (h:v∈P) (hw:∃ w∈P,w≠v):∃ y,(v,y)∈bc P∧v≠y:=by
 obtain ⟨w,hw,aJ⟩:=hw;obtain ⟨A,B,rfl⟩:=List.append_of_mem h;obtain ⟨y,h1,J⟩:=leave (v:=v) (B++A) ⟨w,by
  rcases List.mem_append.1 hw with h | h
  ·exact List.mem_append_right _ h
  ·rcases List.mem_cons.1 h with h | h
   ·exact absurd h aJ
   ·exact List.mem_append_left _ h,aJ⟩
 exact ⟨y,yB (A:=v::B) (K4 (m:=[v]) h1),J⟩
theorem LJ {P:List Q2} (hT:bD P):(Flat P∧gf P=[])∨(¬ Flat P∧Ring (gf P)∧fy (gf P)∧g7 (gf P) P∧∀ v∈gf P,v∈P):=by
 by_cases hF:Flat P
 ·exact .inl ⟨hF,(U4 hF).1⟩
 ·have hc:=LH hT hF;rw [(Xz hT hF).1];refine .inr ⟨hF,U6 hc,fun i h0 hi=>?_,(g7.my fun v=>uk).trans (Fe hT hF).1,fun v hv=>(FH P).subset (uk.1 hv)⟩
  have:=SW hc hi h0;have hle:iI (au (eV (fM P)) 0) (au (eV (fM P)) i):=uC.2 (by omega)
  have aJ:au (eV (fM P)) 0≠au (eV (fM P)) i:=fun e=>by rw [e,oR.2 rfl] at this; omega
  rcases hle with h | ⟨h,h'⟩
  ·exact .inl h
  ·exact .inr ⟨h,Rat.lt_of_le_of_ne h' fun e=>aJ (Prod.ext h e)⟩
theorem XE {S:Q3→Prop} {P C:List Q2} (hT:bD P) (hC:Ring C) (hs:g7 C P) (Iz:∀ v∈C,v∈P) (h:∀ e∈bc P,mT S e):∀ e∈bc C,mT S e:=by
 rintro ⟨x,y⟩ he
 have rl:x≠y:=hC.ne _ he;obtain ⟨x',h1,J⟩:=TW (Iz x (mq he).1) ⟨y,Iz y (mq he).2,Ne.symm rl⟩;have a:=oO hT h1 (Iz y (mq he).2);have b:=BF hC.eh he ((hs x').2 (.my (mq h1).2));rw [yL] at b;obtain ⟨m,hm,hl,v1,v2⟩:=h _ h1;exact ⟨m,hm,hl,v1,Wt v1 v2 J (by grind)⟩
theorem XF {α:Type} [DecidableEq α]:∀ (n:Nat) (S:List α) (f:Nat→α),(∀ k,k < n→f k∈S)→(∀ i j,i < n→j < n→f i=f j→i=j)→n≤S.length:=by
 intro n
 induction n with
 | zero=>intro S f _ _; omega
 | succ n ih =>
  intro S f h1 J;have hn:=h1 n (by omega)
  have:=ih (S.erase (f n)) f (fun k hk=>(List.mem_erase_of_ne fun e=>by have:=J k n (by omega) (by omega) e; omega).2 (h1 k (by omega))) (fun i j hi hj=>J i j (by omega) (by omega))
  rw [List.length_erase_of_mem hn] at this;have:0 < S.length:=List.length_pos_of_mem hn;omega
theorem Wu {S:List Q3} {C:List Q2} (hC:Ring C) (h:∀ e∈bc C,mT (·∈S) e):C.length≤S.length:=by
 have h3:=hC.three;have hf:∀ k,∃ m:Q3,k < C.length→m∈S∧mR m∧aq m (au C k)=0∧aq m (au C (aZ C.length k))=0:=fun k=>by
  by_cases hk:k < C.length
  ·obtain ⟨m,h⟩:=h _ (lC hk);exact ⟨m,fun _=>h⟩
  ·exact ⟨(0,0,0),fun h=>absurd h hk⟩
 obtain ⟨f,hf⟩:=Classical.axiomOfChoice hf;refine XF C.length S f (fun k hk=>(hf k hk).1) fun i j hi hj e=>Decidable.byContradiction fun aJ=>?_
 obtain ⟨_,hl,i1,i2⟩:=hf i hi;obtain ⟨_,_,j1,j2⟩:=hf j hj;rw [← e] at j1 j2;have hx:∀ a b c,a < C.length→b < C.length→c < C.length→a≠b→a≠c→b≠c→aq (f i) (au C a)=0→aq (f i) (au C b)=0→aq (f i) (au C c)=0→False:=fun a b c ha hb hc dJ AE pE va vb vc =>
  A1 (hC.ext.1 (eL ha)) (hC.ext.1 (eL hb)) (hC.ext.1 (eL hc)) (fun e=>dJ (w8 hC.nodup ha hb e)) (fun e=>AE (w8 hC.nodup ha hc e)) (fun e=>pE (w8 hC.nodup hb hc e)) (N6 hl va vb vc)
 by_cases h1:aZ C.length i=j
 ·subst h1;refine hx i _ _ hi hj (cJ hj) aJ (fun e=>?_) (Ne.symm (xn hj (by omega))) i1 i2 j2
  unfold aZ at e;rcases Nat.lt_or_ge (i+1) C.length with h | h
  ·rw [Nat.mod_eq_of_lt h] at e;rcases Nat.lt_or_ge (i+1+1) C.length with h' | h'
   ·rw [Nat.mod_eq_of_lt h'] at e; omega
   ·rw [show i+1+1=C.length by omega,Nat.mod_self] at e; omega
  ·rw [show i+1=C.length by omega,Nat.mod_self,Nat.mod_eq_of_lt (by omega)] at e; omega
 ·exact hx i j _ hi hj (cJ hi) aJ (Ne.symm (xn hi (by omega))) (Ne.symm h1) i1 j1 i2
theorem XG {k:Nat} {C:List Q2} (hC:Ring C) (h:∀ e∈bc C,mT (Q3.sz k) e):∀ v∈C,Q2.sz (8*k+2) v:=by
 intro v hv;obtain ⟨i,hi,rfl⟩:=qi hv;obtain ⟨l,sl,hl,l1,l2⟩:=h _ (rV hi);obtain ⟨m,sm,hm,m1,m2⟩:=h _ (lC hi);have l2:aq l (au C i)=0:=l2;have m1:aq m (au C i)=0:=m1;have hd:qT l m≠0:=aao hl l1 l2 (fun e=>by
  have hc:=hC.sh i hi;rw [N6 hm (e.trans m1) m1 m2] at hc;grind)
 rw [aan l2 m1 hd];exact Q2.mono (aam sl sm) (by omega)
def kT (P:List Q2) (e:Q2 × Q2):List Q2:=gf (dk (dP e.1 e.2) P)
def jW (P B:List Q2):List Q2:=(bc B).foldl kT P
def jv (P B:List Q2) (j:Nat):List Q2:=((bc B).take j).foldl kT P
theorem TX {P B:List Q2} {j:Nat} {e:Q2 × Q2} (h:(bc B)[j]?=some e):jv P B (j+1)=kT (jv P B j) e:=by
 unfold jv;rw [List.take_add_one,h,List.foldl_append]; rfl
theorem Mz (P B:List Q2):jv P B B.length=jW P B:=by
 unfold jv jW;rw [← nM B,List.take_length]
def pA (S:Q3→Prop) (P:List Q2):Prop:=P=[]∨(Ring P∧fy P∧∀ e∈bc P,mT S e)
theorem U9 {S:Q3→Prop} {P:List Q2} {e:Q2 × Q2} (aJ:e.1≠e.2) (hS:S (dP e.1 e.2)) (h:pA S P):pA S (kT P e):=by
 rcases h with rfl | ⟨hR,ho,D6⟩
 ·exact .inl rfl
 ·have hT:=Nc (m:=dP e.1 e.2) hR.eh;rcases LJ hT with ⟨_,h⟩ | ⟨_,h1,J,h3,h4⟩
  ·exact .inl h
  ·exact .inr ⟨h1,J,XE hT h1 h3 h4 (aap hS (Nl aJ) D6)⟩
theorem LK {S:Q3→Prop} {P B:List Q2} (hB:∀ e∈bc B,e.1≠e.2∧S (dP e.1 e.2)) (h:pA S P) (j:Nat):pA S (jv P B j):=by
 unfold jv;have hl:∀ e∈(bc B).take j,e.1≠e.2∧S (dP e.1 e.2):=fun e he=>hB e (List.mem_of_mem_take he)
 revert hl;generalize (bc B).take j=l;intro hl
 induction l generalizing P with
 | nil=>exact h
 | cons e l ih=>exact ih (U9 (hl e (List.mem_cons_self ..)).1 (hl e (List.mem_cons_self ..)).2 h) fun x hx=>hl x (List.mem_cons_of_mem _ hx)
theorem LM {S:List Q3} {k:Nat} {P:List Q2} (hk:∀ m∈S,Q3.sz k m) (h:pA (·∈S) P):P.length≤S.length∧∀ v∈P,Q2.sz (8*k+2) v:=by
 rcases h with rfl | ⟨hR,_,D6⟩
 ·exact ⟨Nat.zero_le _,fun v hv=>nomatch hv⟩
 ·exact ⟨Wu hR D6,XG hR fun e he=>(D6 e he).imp fun m hm=>⟨hk m hm.1,hm.2⟩⟩
def jP (P:List Q2):List Q3:=(bc P).map fun e=>dP e.1 e.2
theorem yC (P:List Q2):(jP P).length=P.length:=by unfold jP; rw [List.length_map,nM]
theorem FL {P:List Q2} {e:Q2 × Q2} (h:e∈bc P):dP e.1 e.2∈jP P:=List.mem_map_of_mem (f:=fun e:Q2 × Q2=>dP e.1 e.2) h
theorem Gi {P:List Q2} (h:Ring P):∀ e∈bc P,mT (·∈jP P) e:=fun e he=>⟨_,FL he,Nl (h.ne e he),by rw [o4,qh],by rw [o4,oT]⟩
theorem wQ {P:List Q2} {k:Nat} (h:∀ v∈P,Q2.sz k v):∀ m∈jP P,Q3.sz (6*k+3) m:=fun m hm=>by
 obtain ⟨e,he,rfl⟩:=List.mem_map.1 hm;have:=mq he;exact Q3.mono (OO (h _ this.1) (h _ this.2)) (by omega)
theorem mT.mono {S T:Q3→Prop} {e:Q2 × Q2} (h:mT S e) (hs:∀ m,S m→T m):mT T e:=h.imp fun m hm=>⟨hs m hm.1,hm.2⟩
theorem pA.mono {S T:Q3→Prop} {P:List Q2} (h:pA S P) (hs:∀ m,S m→T m):pA T P:=h.imp id fun h=>⟨h.1,h.2.1,fun e he=>(h.2.2 e he).mono hs⟩
def OU (P B:List Q2):Prop:=∀ j,j≤B.length→(jv P B j).length≤1073741824∧∀ v∈jv P B j,Q2.sz 2048 v
theorem N7 {S:List Q3} {P B:List Q2} (hB:Ring B) (hk:∀ m∈S,Q3.sz 255 m) (hl:∀ m∈jP B,Q3.sz 255 m) (hn:S.length+B.length≤1073741824) (h:pA (·∈S) P):OU P B:=fun j hj=>by
 have hm:=LK (S:=(·∈S++jP B)) (B:=B) (fun e he=>⟨hB.ne e he,List.mem_append_right _ (FL he)⟩) (h.mono fun m hm=>List.mem_append_left _ hm) j
 obtain ⟨h1,J⟩:=LM (k:=255) (fun m hm=>(List.mem_append.1 hm).elim (hk m) (hl m)) hm
 rw [List.length_append,yC] at h1;exact ⟨by omega,fun v hv=>Q2.mono (J v hv) (by decide)⟩
theorem Va {P:List Q2} (hT:bD P) (e:Q2 × Q2):(Flat (dk (dP e.1 e.2) P)∧kT P e=[])∨(Ring (kT P e)∧fy (kT P e)∧∀ p,cN (kT P e) p↔cN P p∧0≤ao e.1 e.2 p):=by
 rcases LJ (Nc (m:=dP e.1 e.2) hT) with h | ⟨_,h1,J,h3,_⟩
 ·exact .inl h
 ·refine .inr ⟨h1,J,fun p=>?_⟩
  rw [show cN (kT P e) p↔_ from h3 p,KF hT,o4]
open Go
def fw (l:List PV):Bool:=l.any fun p=>decide (¬ p.canon)
instance (a b:Q2):Decidable (fK a b):=inferInstanceAs (Decidable (_∨_))
def Dw (Q:List Q2):Bool:=(List.range Q.length).all fun i=>decide (i=0∨fK (au Q 0) (au Q i))
instance (Q:List Q2) (i:Nat):Decidable (mz Q i):=inferInstanceAs (Decidable (_∨_))
def C8 (Q:List Q2):Bool:=(List.range Q.length).all fun i=>decide (¬ mz Q i)
theorem yN {Q:List Q2}:Dw Q=true↔fy Q:=by
 unfold Dw fy;rw [List.all_eq_true];constructor
 ·intro h i h0 hi;exact (of_decide_eq_true (h i (List.mem_range.2 hi))).resolve_left (by omega)
 ·intro h i hi;by_cases h0:i=0
  ·exact decide_eq_true (.inl h0)
  ·exact decide_eq_true (.inr (h i (by omega) (List.mem_range.1 hi)))
theorem BG {Q:List Q2} (h3:3≤Q.length) (ho:fy Q):C8 Q=true↔Ring Q:=by
 rw [uo h3 ho];unfold C8;rw [List.all_eq_true];exact ⟨fun h i hi=>of_decide_eq_true (h i (List.mem_range.2 hi)),fun h i hi=>decide_eq_true (h i (List.mem_range.1 hi))⟩
def bh (L:List PV):Int :=
 if L.length < 3∨64 < L.length then 4 else if fw L=true then 1 else if Dw (aL L)=true then (if C8 (aL L)=true then 0 else 15) else 8
theorem iY {L:List PV} (h:bh L=0):(3≤L.length∧L.length≤64)∧(∀ p∈L,p.canon)∧Ring (aL L)∧fy (aL L):=by
 unfold bh at h
 split at h
 ·cases h
 ·rename_i h1
  split at h
  ·cases h
  ·rename_i J
   split at h
   ·rename_i h3
    split at h
    ·rename_i h4;have ho:=yN.1 h3;exact ⟨by omega,fun p hp=>Decidable.byContradiction fun e=>J (List.any_eq_true.2 ⟨p,hp,decide_eq_true e⟩),(BG (by rw [cm]; omega) ho).1 h4,ho⟩
    ·cases h
   ·cases h
theorem XH {L:List PV} (h1:3≤L.length∧L.length≤64) (J:∀ p∈L,p.canon) (h3:Ring (aL L)) (h4:fy (aL L)):bh L=0:=by
 unfold bh;rw [if_neg (by omega),if_neg (fun e=>by obtain ⟨p,hp,hc⟩:=List.any_eq_true.1 e; exact of_decide_eq_true hc (J p hp)),if_pos (yN.2 h4),if_pos ((BG (by rw [cm]; omega) h4).2 h3)]
def Dx (p:Q2) (o:Int) (e:Q2 × Q2):Int:=if ba (ao e.1 e.2 p) 0 < o then ba (ao e.1 e.2 p) 0 else o
def gG (Q:List Q2) (p:Q2):Int:=(bc Q).foldl (Dx p) 1
def mO (R:List Q2):List Q2 × Int:=if R.length=0 then ([],11) else if 64 < R.length then ([],4) else (R,0)
def c8 (A B:List PV):List Q2 × Int:=if bh A=0∧bh B=0 then mO (jW (aL A) (aL B)) else ([],1)
def rC (s:Bool) (o:Int):Bool:=if s then decide (o≤0) else decide (o < 0)
def fE (s:Bool) (A B:List Q2):Option (Q2 × Q2):=(bc A).find? fun e=>B.all fun x=>rC s (ba (ao e.1 e.2 x) 0)
def eW (s:Bool) (A B:List Q2):Option (Q2 × Q2):=match fE s A B with
 | some e=>some e
 | none=>fE s B A
def gH (s:Bool) (A B:List PV):Bool × Int:=if bh A=0∧bh B=0 then ((eW s (aL A) (aL B)).isNone,0) else (false,1)
def Rn (e:Q2 × Q2):XV:=(bP e.1,bP e.2)
def eG (A B:List PV):XV × Int:=if bh A=0∧bh B=0 then (match eW true (aL A) (aL B) with | some e=>(Rn e,0) | none=>(ko,6)) else (ko,1)
def xR (a b:Q2) (st:Option (Rat × Rat)) (e:Q2 × Q2):Option (Rat × Rat) :=
 match st with
 | none=>none
 | some (lo,hi) =>
  if ao e.1 e.2 b - ao e.1 e.2 a=0 then (if ao e.1 e.2 a≤0 then none else some (lo,hi))
  else if 0 < ao e.1 e.2 b - ao e.1 e.2 a then some (lV lo (-ao e.1 e.2 a / (ao e.1 e.2 b - ao e.1 e.2 a)),hi)
  else some (lo,lW hi (-ao e.1 e.2 a / (ao e.1 e.2 b - ao e.1 e.2 a)))
def qU (Q:List Q2) (a b:Q2):Option (Rat × Rat):=match (bc Q).foldl (xR a b) (some (0,1)) with
 | none=>none
 | some (lo,hi)=>if hi≤lo then none else some (lo,hi)
def ic (L:List PV) (s:XV):(RV × RV) × Bool × Int :=
 if bh L=0∧s.1.canon∧s.2.canon then (match qU (aL L) s.1.p s.2.p with | some (lo,hi)=>((RV.of lo,RV.of hi),true,0) | none=>((dp,dp),false,0)) else ((dp,dp),false,1)
abbrev QL:=Option (List Q2 × Nat)
def QL.val:QL→Value
 | none=>.slice none 0 0
 | some i=>.slice (some ⟨0,0,none⟩) i.1.length i.2
def QL.ah:QL→List ai
 | none=>[]
 | some i=>[.flat false i.1.length 6 (bI i.1)]
def QL.list:QL→List Q2
 | none=>[]
 | some i=>i.1
def cl (R:List Q2):Option ai:=match R.length with
 | 0=>none
 | n+1=>some (.flat true (n+1) 6 (bI R))
def RV.c1 (x:RV):List Value:=[.bool x.1,.string x.2.1,.string x.2.2]
def PL.fit (i:PL):Prop:=i.list.length≤1099511627776∧∀ v∈i.list,v.sz 2048
def C9:bF:={ ι:=PV,args:=fun i=>[i.v],pre:=fun i=>i.sz 2048,val:=fun i=>.bool (decide (¬ i.canon)) }
def fF:aY:={ ι:=PL,args:=fun i=>[i.val],ah:=PL.ah,pre:=PL.fit,val:=fun i=>.bool (!fw i.list),new:=fun _=>none }
def aV:aY:={ ι:=PL,args:=fun i=>[i.val],ah:=PL.ah,pre:=PL.fit,val:=fun i=>.int .i64 (bh i.list),new:=fun _=>none }
def qj:bF:={ ι:=x7,args:=fun i=>[i.1.v,i.2.1.v,i.2.2.v],pre:=Dt,val:=fun i=>(RV.of (ao i.1.p i.2.1.p i.2.2.p)).v }
def fx:aY:={ ι:=QL,args:=fun i=>[i.val],ah:=QL.ah,pre:=fun i=>i.list.length≤549755813888∧∀ v∈i.list,Q2.sz 262144 v,val:=fun i=>cW i.ah.length (gf i.list).length,new:=fun i=>cl (gf i.list) }
def me.fit (i:me):Prop:=(i.1.fit∧i.2.fit)
def xS (A B:List PV):Prop:=bh A=0→bh B=0→OU (aL A) (aL B)
def dn:aY:={ ι:=me,args:=fun i=>[i.1.val,i.2.u6 i.1.ah.length],ah:=fun i=>i.1.ah++i.2.ah,pre:=fun i=>me.fit i∧xS i.1.list i.2.list,val:=fun i=>.tuple ⟨[cW (i.1.ah++i.2.ah).length (c8 i.1.list i.2.list).1.length,.int .i64 (c8 i.1.list i.2.list).2]⟩,new:=fun i=>cl (c8 i.1.list i.2.list).1 }
def dj (s:Bool):aY:={ ι:=me,args:=fun i=>[i.1.val,i.2.u6 i.1.ah.length],ah:=fun i=>i.1.ah++i.2.ah,pre:=me.fit,val:=fun i=>.tuple ⟨[.bool (gH s i.1.list i.2.list).1,.int .i64 (gH s i.1.list i.2.list).2]⟩,new:=fun _=>none }
def cB:aY:={ ι:=me,args:=fun i=>[i.1.val,i.2.u6 i.1.ah.length],ah:=fun i=>i.1.ah++i.2.ah,pre:=me.fit,val:=fun i=>.tuple ⟨[(eG i.1.list i.2.list).1.v,.int .i64 (eG i.1.list i.2.list).2]⟩,new:=fun _=>none }
def mD:aY:={ ι:=PL × XV,args:=fun i=>[i.1.val,i.2.v],ah:=fun i=>i.1.ah,pre:=fun i=>i.1.fit∧i.2.1.sz 2048∧i.2.2.sz 2048,val:=fun i=>.tuple ⟨[(ic i.1.list i.2).1.1.v,(ic i.1.list i.2).1.2.v,.bool (ic i.1.list i.2).2.1,.int .i64 (ic i.1.list i.2).2.2]⟩,new:=fun _=>none }
def sX (a b p:PV):Bool:=decide (p≠a∧p≠b∧ba (ao a.p b.p p.p) 0≤0)
def sJ:aY:={ ι:=x7,args:=fun i=>[i.2.2.v,.pointer (some ⟨0,0,none⟩),.pointer (some ⟨1,0,none⟩)],ah:=fun i=>[.flat false 1 6 (fun _=>i.1.cells),.flat false 1 6 (fun _=>i.2.1.cells)],pre:=fun i=>i.1.sz 2048∧i.2.1.sz 2048∧i.2.2.sz 2048,val:=fun i=>.bool (sX i.1 i.2.1 i.2.2),new:=fun _=>none }
def u7 (L:List PV) (i:Nat):Prop:=∀ p∈L.take i,p.canon
theorem K5 (L:List PV):u7 L 0:=fun p hp=>by simp at hp
theorem LN {L:List PV} {i:Nat} {p:PV} (h:u7 L i) (hp:L[i]?=some p) (hc:p.canon):u7 L (i+1):=fun q hq=>by
 rw [List.take_add_one,hp] at hq;simp only [Option.toList_some,List.mem_append,List.mem_singleton] at hq;rcases hq with hq | rfl
 ·exact h q hq
 ·exact hc
theorem MA {L:List PV} (h:u7 L L.length):fw L=false:=by
 cases e:fw L
 ·rfl
 ·obtain ⟨p,hp,hg⟩:=List.any_eq_true.1 e;rw [u7,List.take_length] at h;exact absurd (h p hp) (of_decide_eq_true hg)
theorem wF {L:List PV} {n j:Nat} (hn:n=L.length) (h:j < n):∃ a b:PV,di L j=a.cells∧di L (aZ n j)=b.cells∧(a∈L∧b∈L)∧(bc (aL L))[j]?=some (a.p,b.p)∧aZ n j < n∧a=il L j∧b=il L (aZ n j):=by
 have hl:=cJ h;refine ⟨il L j,il L (aZ n j),oQ (by omega),oQ (by omega),⟨m6 (by omega),m6 (by omega)⟩,?_,hl,rfl,rfl⟩
 rw [kq (by omega),kq (by omega)]
 exact pX (gO (by rw [cm]; omega)) (by rw [cm,← hn]; exact gO (by rw [cm]; show aZ n j < _; omega))
theorem Vb {α β:Type} {f:β→α→β} {l:List α} {z:β} {j:Nat} {e:α} (h:l[j]?=some e):(l.take (j+1)).foldl f z=f ((l.take j).foldl f z) e:=by
 rw [List.take_add_one,h,List.foldl_append]; rfl
theorem Cl {L:List PV} (h:L.length < 3∨64 < L.length):bh L=4:=if_pos h
theorem N8 {L:List PV} (h:¬ (L.length < 3∨64 < L.length)) (J:fw L=true):bh L=1:=by unfold bh; rw [if_neg h,if_pos J]
theorem N9 {L:List PV} (h:¬ (L.length < 3∨64 < L.length)) (J:fw L=false) (h3:¬ fy (aL L)):bh L=8:=by unfold bh; rw [if_neg h,if_neg (by rw [J]; decide),if_neg (fun e=>h3 (yN.1 e))]
theorem GP {L:List PV} (h:¬ (L.length < 3∨64 < L.length)) (J:fw L=false) (h3:fy (aL L)) (h4:¬ Ring (aL L)):bh L=15:=by
 unfold bh;rw [if_neg h,if_neg (by rw [J]; decide),if_pos (yN.2 h3),if_neg (fun e=>h4 ((BG (by rw [cm]; omega) h3).1 e))]
theorem Nm {L:List PV} (h:¬ (L.length < 3∨64 < L.length)) (J:fw L=false) (h3:fy (aL L)) (h4:Ring (aL L)):bh L=0:=by
 unfold bh;rw [if_neg h,if_neg (by rw [J]; decide),if_pos (yN.2 h3),if_pos ((BG (by rw [cm]; omega) h3).2 h4)]
theorem BH {L:List PV} (h:fw L=false) {p:PV} (hp:p∈L):p=bP p.p:=by
 have hc:p.canon:=Decidable.byContradiction fun e=>by
  have:fw L=true:=List.any_eq_true.2 ⟨p,hp,decide_eq_true e⟩;rw [h] at this; cases this
 exact Prod.ext hc.1 hc.2
def xF (Q:List Q2) (i:Nat):Prop:=∀ k,0 < k→k≤i→fK (au Q 0) (au Q k)
theorem K6 (Q:List Q2):xF Q 0:=fun k h0 h=>by omega
theorem LO {Q:List Q2} {i:Nat} (h:xF Q i) (J:fK (au Q 0) (au Q (i+1))):xF Q (i+1):=fun k h0 hk=>by
 rcases Nat.lt_or_eq_of_le hk with e | e
 ·exact h k h0 (by omega)
 ·rw [e]; exact J
theorem MB {Q:List Q2} {i:Nat} (h:xF Q i) (hi:i+1=Q.length):fy Q:=fun k h0 hk=>h k h0 (by omega)
theorem OV {a b:Q2}:fK a b↔0 < fR b a:=by
 rw [← yV];have h1:=LC a b;have J:=LC b a;have h3:=TU (p:=a) (q:=b);have h4:=uC (a:=a) (b:=b);have h5:=uC (a:=b) (b:=a);have h6:fR a b < 0↔fK a b:=yV;have h7:fR b a < 0↔fK b a:=yV;have h8:¬ (fK a b∧fK b a):=fun ⟨x,y⟩=>by unfold fK at x y; grind
 constructor
 ·intro h;have:¬ fR b a < 0:=fun e=>h8 ⟨h6.1 h,h7.1 e⟩
  omega
 ·intro h;refine Decidable.byContradiction fun hc=>?_
  have h9:iI b a:=h5.2 hc;have Ay:iI a b:=h4.2 (by omega)
  have:a=b:=Ni Ay h9;have:=h3.2 (oR.2 this);omega
theorem aav {L:List PV} {j:Nat} {a b:PV} (h:j < L.length) (ha:a=il L j) (hb:b=il L (aZ L.length j)) (J:L.any (sX a b)=false):¬ zh (aL L) j:=by
 rintro ⟨q,hq,h3,h4,h5⟩
 obtain ⟨p,hp,rfl⟩:=List.mem_map.1 hq;rw [cm] at h4 h5;rw [← kq h,← ha] at h3 h5;rw [← kq (cJ h),← hb] at h4 h5;have:L.any (sX a b)=true:=List.any_eq_true.2 ⟨p,hp,decide_eq_true ⟨fun e=>h3 (by rw [e]),fun e=>h4 (by rw [e]),Int.not_lt.1 fun e=>Rat.not_lt.2 h5 (ui.1 e)⟩⟩
 rw [J] at this; cases this
theorem XI {L:List PV} {j:Nat} {a b p:PV} (hc:fw L=false) (h:j < L.length) (ha:a=il L j) (hb:b=il L (aZ L.length j)) (hp:p∈L) (J:sX a b p=true):zh (aL L) j:=by
 obtain ⟨h3,h4,h5⟩:=of_decide_eq_true J;have ca:=BH hc (p:=a) (by rw [ha]; exact m6 h)
 have cb:=BH hc (p:=b) (by rw [hb]; exact m6 (cJ h))
 have cp:=BH hc hp;refine ⟨p.p,List.mem_map_of_mem hp,?_,?_,?_⟩
 ·rw [← kq h,← ha]; exact fun e=>h3 (by rw [cp,ca,e])
 ·rw [cm,← kq (cJ h),← hb]; exact fun e=>h4 (by rw [cp,cb,e])
 ·rw [cm,← kq h,← ha,← kq (cJ h),← hb]; exact Rat.not_lt.1 fun e=>by have:=ui.2 e; omega
theorem aeq {p q:PV} (h:true=fw [p,q]):p.canon→q.canon→False:=fun h1 J=>by
 unfold fw at h;simp [h1,J] at h
theorem acN {p q:PV} (h:false=fw [p,q]):p.canon∧q.canon:=by
 unfold fw at h;simp at h;exact h
def vp:bF:={ ι:=x7,args:=fun i=>[i.1.v,i.2.1.v,i.2.2.v],pre:=Dt,val:=fun i=>.bool (decide (i.2.1≠i.2.2)) }
def vr:bF:={ ι:=x7,args:=fun i=>[i.1.v,i.2.1.v,i.2.2.v],pre:=Dt,val:=fun i=>.bool (decide (ba (ao i.1.p i.2.1.p i.2.2.p) 0≠0)) }
def sK (b:Bool) (Q:List Q2):List Q2:=match b with
 | false=>gL Q
 | true=>jL Q
def kt (f g:FuncId):aY:={ ι:=QL × Bool,args:=fun i=>[i.1.val,.func (.func (match i.2 with | false=>f | true=>g)) #[] #[]],ah:=fun i=>i.1.ah,pre:=fun i=>i.1.list.length≤549755813888∧∀ v∈i.1.list,Q2.sz 262144 v,val:=fun i=>cW i.1.ah.length (sK i.2 i.1.list).length,new:=fun i=>cl (sK i.2 i.1.list) }
theorem yO {R:List Q2} {B:ai} (h:cl R=some B):B.jc=true:=by
 unfold cl at h
 split at h
 ·cases h
 ·cases h; rfl
def qL (Q:List Q2) (j:Nat):List Q2:=((bc Q).take j).flatMap nk
def sL (Q:List Q2) (j:Nat):List Q2:=(List.range j).flatMap (n3 Q)
theorem TY {Q:List Q2} {j:Nat} {a b:PV} (h:j < Q.length) (ha:a=bP (au Q j)) (hb:b=bP (au Q (aZ Q.length j))):qL Q (j+1)=qL Q j++if a≠b then [au Q j] else []:=by
 unfold qL;rw [My (pX (gO h) (gO (cJ h)))]
 congr 1
 show (if fR (au Q j) (au Q (aZ Q.length j))≠0 then [au Q j] else [])=_
 by_cases e:au Q j=au Q (aZ Q.length j)
 ·rw [if_neg (fun h=>h (oR.2 e)),if_neg (fun h=>h (by rw [ha,hb,e]))]
 ·rw [if_pos (fun h=>e (oR.1 h)),if_pos (fun h=>e ((XB ha hb).1 h))]
theorem TZ {Q:List Q2} {j:Nat} {a b c:Q2} (ha:a=au Q (dB Q.length j)) (hb:b=au Q j) (hc:c=au Q (aZ Q.length j)):sL Q (j+1)=sL Q j++if ba (ao a b c) 0≠0 then [b] else []:=by
 unfold sL;rw [List.range_succ,List.flatMap_append,List.flatMap_singleton,Wq ha hb hc rfl]
theorem MC (Q:List Q2):qL Q Q.length=gL Q:=by unfold qL gL; rw [← nM Q,List.take_length]
theorem Wv (Q:List Q2) (j:Nat):(qL Q j).length≤Q.length:=XC Q j
theorem Ww (Q:List Q2) (j:Nat):(sL Q j).length≤j:=XD Q j
theorem Nn {L:List Q2} {n j:Nat} {a b d:PV} (hn:n=L.length) (h:j < n) (ha:a.p=au L (dB n j)) (hb:b=bP (au L j)) (hd:d=bP (au L (aZ n j))):∃ z:Bool,vp.val (a,b,d)=.bool z∧qL L (j+1)=qL L j++if z=true then [au L j] else []:=by
 refine ⟨decide (b≠d),rfl,?_⟩;rw [TY (a:=b) (b:=d) (by omega) hb (by rw [← hn]; exact hd)]
 by_cases e:b=d
 ·rw [if_neg (fun h=>h e),if_neg (by rw [decide_eq_false (fun h=>h e)]; decide)]
 ·rw [if_pos e,if_pos (decide_eq_true e)]
theorem No {L:List Q2} {n j:Nat} {a b d:PV} (hn:n=L.length) (h:j < n) (ha:a.p=au L (dB n j)) (hb:b=bP (au L j)) (hd:d=bP (au L (aZ n j))):∃ z:Bool,vr.val (a,b,d)=.bool z∧sL L (j+1)=sL L j++if z=true then [au L j] else []:=by
 have eb:b.p=au L j:=by rw [hb,gr]
 have ed:d.p=au L (aZ n j):=by rw [hd,gr]
 refine ⟨decide (ba (ao a.p b.p d.p) 0≠0),rfl,?_⟩;rw [TZ (a:=a.p) (b:=b.p) (c:=d.p) (by rw [← hn]; exact ha) eb (by rw [← hn]; exact ed),eb]
 by_cases e:ba (ao a.p (au L j) d.p) 0=0
 ·rw [if_neg (fun h=>h e),if_neg (by rw [decide_eq_false (fun h=>h e)]; decide)]
 ·rw [if_pos e,if_pos (decide_eq_true e)]
theorem MD (Q:List Q2):sL Q Q.length=jL Q:=rfl
theorem Vc (Q:List Q2):gf Q=if (sK true (sK false Q)).length < 3 then [] else eV (sK true (sK false Q)):=rfl
theorem w9 {R:List Q2} {n:Nat} (h:R.length=n) (h0:0 < n):cl R=some (.flat true n 6 (bI R)):=by
 unfold cl;rw [h];cases n with
 | zero=>omega
 | succ n=>rfl
theorem GQ {k n:Nat} (h0:0 < n):cW k n=.slice (some ⟨k,0,none⟩) n aO:=by
 cases n with
 | zero=>omega
 | succ n=>rfl
def IA (f:FuncId):aY:={ ι:=QL × rA,args:=fun i=>[.func (.func f) #[] #[.pointer (some ⟨i.1.ah.length,0,none⟩),.pointer (some ⟨i.1.ah.length+1,0,none⟩),.pointer (some ⟨i.1.ah.length+2,0,none⟩)]],ah:=fun i=>i.1.ah++[.aS false 1 [[i.1.val]],.aS false 6 [i.2.1.cells], .aS false 6 [i.2.2.cells]],pre:=fun i=>i.1.list.length≤1073741824∧(∀ v∈i.1.list,Q2.sz 2048 v)∧i.2.1.sz 2048∧i.2.2.sz 2048,val:=fun i=>cW (i.1.ah.length+3) (dk (dP i.2.1.p i.2.2.p) i.1.list).length,new:=fun i=>cl (dk (dP i.2.1.p i.2.2.p) i.1.list) }
theorem xG {a b p:Q2} {k l m:Nat} (ha:Q2.sz k a) (hb:Q2.sz l b) (hp:Q2.sz m p):QB (ao a b p) (l+k+1+(m+k+1)+(l+k+1+(m+k+1))+1):=yJ (oZ hb ha) (oZ hp ha)
theorem ME {m:Q3} {L:List Q2} {j:Nat} {a b w:PV} {O:List Q2} {x y:Rat} (iV:(bc L)[j]?=some (a.p,b.p)) (hO:O=((bc L).take j).flatMap (nr m)) (hx:x=aq m a.p) (hy:y=aq m b.p) (hw:w.p=atR a.p b.p (x / (x - y))) :
  ((bc L).take (j+1)).flatMap (nr m)=O++((if ba x 0 ≥ 0 then [a.p] else [])++if ba x 0*ba y 0 < 0 then [w.p] else []):=by
 rw [My iV,← hO,nr];subst hx; subst hy
 congr 1
 unfold mB gY je;rw [hw]
theorem Np (m:Q3) (L:List Q2):((bc L).take L.length).flatMap (nr m)=dk m L:=by rw [N3,← nM L,List.take_length]
theorem XJ (m:Q3) (L:List Q2) (j:Nat):(((bc L).take j).flatMap (nr m)).length≤2*L.length:=by
 have:=FK m ((bc L).take j);rw [List.length_take,nM] at this;omega
theorem XL {L:List PV} (h:fw L=false):ak (aL L)=L:=by
 unfold ak aL;rw [List.map_map];refine (List.map_congr_left (fun p hp=>?_)).trans (List.map_id L)
 exact (BH h hp).symm
theorem Wx {L:List PV} (h:bh L=0):fw L=false:=by
 cases e:fw L
 ·rfl
 ·obtain ⟨p,hp,hc⟩:=List.any_eq_true.1 e;exact absurd ((iY h).2.1 p hp) (of_decide_eq_true hc)
theorem uq {L:List PV} (h:bh L=0):bI (aL L)=di L:=by unfold bI; rw [XL (Wx h)]
theorem XM {R:List Q2} (h:R.length=0):mO R=([],11):=if_pos h
theorem XN {R:List Q2} (h:64 < R.length):mO R=([],4):=by unfold mO; rw [if_neg (by omega),if_pos h]
theorem OW {R:List Q2} (h:¬ R.length=0) (J:¬ 64 < R.length):mO R=(R,0):=by unfold mO; rw [if_neg h,if_neg J]
theorem XO {k:Nat} {m:Q3} {P:List Q2} (sm:Q3.sz k m) (hP:∀ v∈P,Q2.sz 2048 v) (hk:k≤12291):∀ v∈dk m P,Q2.sz 262144 v:=by
 intro v hv;rcases N2 hv with ⟨h1,_⟩ | ⟨e,he,hx⟩
 ·exact Q2.mono (hP v h1) (by decide)
 ·have hx:=tT hx;rw [hx.2.1];have h1:=hP _ (mq he).1;have J:=hP _ (mq he).2;have s1:=OP sm h1;have s2:=OP sm J;have:=zH h1 J (s1.div (s1.sub s2) (by omega))
  exact Q2.mono this (by omega)
theorem Gj {P:List Q2} {a b:Q2} (hl:P.length≤1073741824) (hP:∀ v∈P,Q2.sz 2048 v) (ha:Q2.sz 2048 a) (hb:Q2.sz 2048 b):(dk (dP a b) P).length≤549755813888∧∀ v∈dk (dP a b) P,Q2.sz 262144 v :=
 ⟨by have:=Wo (dP a b) P; omega,XO (k:=12291) (Q3.mono (OO ha hb) (by decide)) hP (Nat.le_refl _)⟩
def aer (v:Value) (q:Nat):Nat→Value
 | 0=>v
 | _+1=>cW 5 q
def aes (F:Nat→List Value) (q:Nat):Nat→ay
 | 0=>[]
 | _+1=>xO 6 F q
theorem HN {A B:List PV} (h:¬ (bh A=0∧bh B=0)):c8 A B=([],1):=if_neg h
theorem OX {A B:List PV} {R:List Q2} (h:bh A=0∧bh B=0) (hR:R=jv (aL A) (aL B) B.length):c8 A B=mO R:=by
 unfold c8;rw [if_pos h,hR,← cm B,Mz]
theorem Fi {P Q C R:List Q2} {j:Nat} {a b:Q2} (iV:(bc Q)[j]?=some (a,b)) (hC:C=dk (dP a b) (jv P Q j)) (hR:R=gf C):R=jv P Q (j+1):=by
 rw [TX iV,hR,hC]; rfl
def qV (s:Bool):bF:={ ι:=Int,args:=fun z=>[.int .i64 z],pre:=fun _=>True,val:=fun z=>.bool (rC s z) }
abbrev SI:=((List Q2 × Nat) × (List Q2 × Nat)) × FuncId × Bool
def ff (o:Option (Q2 × Q2)):XV × Bool:=match o with
 | some e=>(Rn e,true)
 | none=>(ko,false)
def SI.ok (f1 f2 f3:FuncId) (i:SI):Prop:=(i.2=(f1,true)∨i.2=(f2,false)∨i.2=(f3,true))∧(i.1.1.1.length≤1073741824∧∀ v∈i.1.1.1,Q2.sz 2048 v)∧i.1.2.1.length≤1073741824∧∀ v∈i.1.2.1,Q2.sz 2048 v
def xT (f1 f2 f3:FuncId) (V:Bool→List Q2→List Q2→Option (Q2 × Q2)):aY:={ ι:=SI,args:=fun i=>[.slice (some ⟨0,0,none⟩) i.1.1.1.length i.1.1.2,.slice (some ⟨1,0,none⟩) i.1.2.1.length i.1.2.2,.func (.func i.2.1) #[] #[]],ah:=fun i=>[.flat false i.1.1.1.length 6 (bI i.1.1.1),.flat false i.1.2.1.length 6 (bI i.1.2.1)],pre:=SI.ok f1 f2 f3,val:=fun i=>.tuple ⟨[(ff (V i.2.2 i.1.1.1 i.1.2.1)).1.v,.bool (ff (V i.2.2 i.1.1.1 i.1.2.1)).2]⟩,new:=fun _=>none }
def nt (s:Bool) (B:List Q2) (e:Q2 × Q2):Bool:=B.all fun x=>rC s (ba (ao e.1 e.2 x) 0)
def sY (s:Bool) (a b x:Q2):Bool:=!rC s (ba (ao a b x) 0)
theorem XP {s:Bool} {B:List Q2} {a b:Q2} (h:B.any (sY s a b)=false):nt s B (a,b)=true:=by
 unfold nt;rw [List.all_eq_true];intro x hx;cases e:rC s (ba (ao a b x) 0)
 ·have:B.any (sY s a b)=true:=List.any_eq_true.2 ⟨x,hx,by unfold sY; rw [e]; rfl⟩
  rw [h] at this; cases this
 ·rfl
theorem GR {s:Bool} {B:List Q2} {a b x:Q2} (hx:x∈B) (h:sY s a b x=true):nt s B (a,b)=false:=by
 unfold nt;cases e:B.all fun x=>rC s (ba (ao (a,b).1 (a,b).2 x) 0)
 ·rfl
 ·have:=List.all_eq_true.1 e x hx;unfold sY at h;rw [show rC s (ba (ao a b x) 0)=true from this] at h
  cases h
theorem Wy {s:Bool} {A B:List Q2} {j:Nat} {e:Q2 × Q2} (h:nV (nt s B) (bc A) j) (he:(bc A)[j]?=some e) (J:nt s B e=true):fE s A B=some e:=by
 unfold fE;rw [show (fun e:Q2 × Q2=>B.all fun x=>rC s (ba (ao e.1 e.2 x) 0))=nt s B from rfl]
 have hj:=(List.getElem?_eq_some_iff.1 he).1;rw [← List.take_append_drop j (bc A),List.find?_append,List.find?_eq_none.2,List.drop_eq_getElem_cons hj]
 ·rw [List.find?_cons,(List.getElem?_eq_some_iff.1 he).2,J]; rfl
 ·intro x hx hc;have:((bc A).take j).any (nt s B)=true:=List.any_eq_true.2 ⟨x,hx,hc⟩;rw [show ((bc A).take j).any (nt s B)=false from h] at this
  cases this
theorem Wz {s:Bool} {A B:List Q2} {n:Nat} (hn:n=A.length) (h:nV (nt s B) (bc A) n):fE s A B=none:=by
 unfold fE;rw [List.find?_eq_none];intro x hx hc;rw [hn,← nM A] at h;have:=Fg h;have J:(bc A).any (nt s B)=true:=List.any_eq_true.2 ⟨x,hx,hc⟩;rw [this] at J;cases J
theorem XQ {s:Bool} {A B:List Q2} {x:XV} (h:ff (fE s A B)=(x,true)):ff (eW s A B)=(x,true):=by
 unfold eW;cases e:fE s A B with
 | none=>rw [e] at h; cases h
 | some y=>rw [e] at h; exact h
theorem XR {s:Bool} {A B:List Q2} {x:XV} (h:ff (fE s A B)=(x,false)):ff (eW s A B)=ff (fE s B A):=by
 unfold eW;cases e:fE s A B with
 | none=>rfl
 | some y=>rw [e] at h; cases h
theorem si {s:Bool} {A B:List PV} (h:¬ (bh A=0∧bh B=0)):gH s A B=(false,1):=if_neg h
theorem Oa {s:Bool} {A B:List PV} {x:XV} {z:Bool} (h:bh A=0∧bh B=0) (J:ff (eW s (aL A) (aL B))=(x,z)):gH s A B=(!z,0):=by
 unfold gH;rw [if_pos h];cases e:eW s (aL A) (aL B) with
 | none=>rw [e] at J; cases J; rfl
 | some y=>rw [e] at J; cases J; rfl
theorem CM {A B:List PV} (h:¬ (bh A=0∧bh B=0)):eG A B=(ko,1):=if_neg h
theorem XT {A B:List PV} {x:XV} {z:Bool} (h:bh A=0∧bh B=0) (J:ff (eW true (aL A) (aL B))=(x,z)):eG A B=if z=true then (x,0) else (ko,6):=by
 unfold eG;rw [if_pos h];cases e:eW true (aL A) (aL B) with
 | none=>rw [e] at J; cases J; rfl
 | some y=>rw [e] at J; cases J; rfl
def ob:bF:={ ι:=PV,args:=fun i=>[i.v],pre:=fun _=>True,val:=fun i=>.bool (decide (¬ i.sz 12)) }
def m9 (L:List PV):Bool:=decide ((10 < L.length∧L.length < 63)∨66 < L.length) || uM 12 L
def kO:aY:={ ι:=PL,args:=fun i=>[i.val],ah:=PL.ah,pre:=fun i=>i.list.length≤9223372036854775807,val:=fun i=>.bool (m9 i.list),new:=fun _=>none }
theorem LP {L:List PV} (h:(10 < L.length∧L.length < 63)∨66 < L.length):m9 L=true:=by unfold m9; rw [decide_eq_true h]; rfl
theorem T0 {L:List PV} (h:¬ ((10 < L.length∧L.length < 63)∨66 < L.length)):m9 L=uM 12 L:=by unfold m9; rw [decide_eq_false h]; rfl
theorem MF {L:List PV} (h:m9 L=false):(L.length≤10∨(63≤L.length∧L.length≤66))∧∀ p∈L,p.sz 12:=by
 unfold m9 at h;rw [Bool.or_eq_false_iff] at h;have h1:=of_decide_eq_false h.1;exact ⟨by omega,Sn h.2⟩
theorem Cm {n1 n2:Bool} {a1 b1 a2 b2:ByteArray} (h:12 < a1.size∨12 < b1.size∨12 < a2.size∨12 < b2.size):Value.bool true=ob.val ((n1,a1,b1),(n2,a2,b2)):=by
 have hn:¬ PV.sz 12 ((n1,a1,b1),(n2,a2,b2)):=fun e=>by
  have e:(a1.size≤12∧b1.size≤12)∧a2.size≤12∧b2.size≤12:=e;omega
 exact congrArg Value.bool (decide_eq_true hn).symm
theorem aaw {n1 n2:Bool} {a1 b1 a2 b2:ByteArray} (h:¬ (12 < a1.size∨12 < b1.size∨12 < a2.size∨12 < b2.size)):Value.bool false=ob.val ((n1,a1,b1),(n2,a2,b2)):=by
 refine (congrArg Value.bool (decide_eq_false fun e=>e ?_)).symm
 show (a1.size≤12∧b1.size≤12)∧a2.size≤12∧b2.size≤12
 omega
open Go
open Go
def zW (a b:Q2) (st:Option (Rat × Rat)) (e:Q2 × Q2):Option (Rat × Rat) :=
 match st with
 | none=>none
 | some (lo,hi) =>
  if ao e.1 e.2 a≤0∧ao e.1 e.2 b≤0 then none
  else if 0 < ao e.1 e.2 a∧0 < ao e.1 e.2 b then some (lo,hi)
  else if 0 < ao e.1 e.2 b then some (lV lo (ao e.1 e.2 a / (ao e.1 e.2 a - ao e.1 e.2 b)),hi)
  else some (lo,lW hi (ao e.1 e.2 a / (ao e.1 e.2 a - ao e.1 e.2 b)))
def sZ (st:Option (Rat × Rat)):Option (Rat × Rat):=match st with
 | none=>none
 | some (lo,hi)=>if hi≤lo then none else some (lo,hi)
theorem XU (Q:List Q2) (a b:Q2):qU Q a b=sZ ((bc Q).foldl (xR a b) (some (0,1))):=rfl
theorem max_le (x y:Rat):x≤lV x y∧y≤lV x y:=by unfold lV; split <;> grind
theorem min_le (x y:Rat):lW x y≤x∧lW x y≤y:=by unfold lW; split <;> grind
theorem max_eq {x y:Rat} (h:y≤x):lV x y=x:=by unfold lV; rw [if_neg (by grind)]
theorem min_eq {x y:Rat} (h:x≤y):lW x y=x:=by unfold lW; rw [if_neg (by grind)]
theorem Gk {a b:Q2}:∀ l:List (Q2 × Q2),l.foldl (xR a b) none=none
 | []=>rfl
 | e::l=>by rw [List.foldl_cons]; exact Gk l
theorem yP {a b:Q2}:∀ l:List (Q2 × Q2),l.foldl (zW a b) none=none
 | []=>rfl
 | e::l=>by rw [List.foldl_cons]; exact yP l
theorem MG (a b:Q2) (lo hi:Rat) (e:Q2 × Q2):xR a b (some (lo,hi)) e=if ao e.1 e.2 b - ao e.1 e.2 a=0 then (if ao e.1 e.2 a≤0 then none else some (lo,hi))
  else if 0 < ao e.1 e.2 b - ao e.1 e.2 a then some (lV lo (-ao e.1 e.2 a / (ao e.1 e.2 b - ao e.1 e.2 a)),hi)
  else some (lo,lW hi (-ao e.1 e.2 a / (ao e.1 e.2 b - ao e.1 e.2 a))):=rfl
theorem MH (a b:Q2) (lo hi:Rat) (e:Q2 × Q2):zW a b (some (lo,hi)) e=if ao e.1 e.2 a≤0∧ao e.1 e.2 b≤0 then none
  else if 0 < ao e.1 e.2 a∧0 < ao e.1 e.2 b then some (lo,hi)
  else if 0 < ao e.1 e.2 b then some (lV lo (ao e.1 e.2 a / (ao e.1 e.2 a - ao e.1 e.2 b)),hi)
  else some (lo,lW hi (ao e.1 e.2 a / (ao e.1 e.2 a - ao e.1 e.2 b))):=rfl
theorem Nq {a b:Q2}:∀ (l:List (Q2 × Q2)) (lo hi:Rat),hi≤lo→sZ (l.foldl (xR a b) (some (lo,hi)))=none:=by
 intro l
 induction l with
 | nil=>intro lo hi h; unfold sZ; simp only [List.foldl_nil]; rw [if_pos h]
 | cons e l ih =>
  intro lo hi h;rw [List.foldl_cons,MG]
  split
  ·split
   ·rw [Gk]; rfl
   ·exact ih _ _ h
  ·split
   ·refine ih _ _ ?_;have:=(max_le lo (-ao e.1 e.2 a / (ao e.1 e.2 b - ao e.1 e.2 a))).1;grind
   ·refine ih _ _ ?_;have:=(min_le hi (-ao e.1 e.2 a / (ao e.1 e.2 b - ao e.1 e.2 a))).1;grind
theorem XW {x y:Rat} (h:y - x≠0):(-x / (y - x))*(y - x)=-x∧-x / (y - x)=x / (x - y):=by
 refine ⟨by rw [Rat.div_def]; grind,?_⟩
 have J:x - y≠0:=by grind
 have e1:(-x / (y - x))*(y - x)=-x:=by rw [Rat.div_def]; grind
 have e2:(x / (x - y))*(x - y)=x:=by rw [Rat.div_def]; grind
 have:(y - x)*(-x / (y - x) - x / (x - y))=0:=by grind
 have:=(Rat.mul_eq_zero.1 this).resolve_left h;grind
theorem BI {a b k:Rat} (hk:0 < k) (h:a*k≤b*k):a≤b:=by
 by_cases h1:a≤b
 ·exact h1
 ·have:=Rat.mul_pos (show 0 < a - b by grind) hk
  grind
theorem Ob {a b:Q2}:∀ (l:List (Q2 × Q2)) (lo hi:Rat),0≤lo→hi≤1→sZ (l.foldl (zW a b) (some (lo,hi)))=sZ (l.foldl (xR a b) (some (lo,hi))):=by
 intro l
 induction l with
 | nil=>intro lo hi _ _; rfl
 | cons e l ih =>
  intro lo hi h0 h1;rw [List.foldl_cons,List.foldl_cons,MG,MH];generalize ao e.1 e.2 a=x;generalize ao e.1 e.2 b=y;by_cases hs:y - x=0
  ·rw [if_pos hs];by_cases hx:x≤0
   ·rw [if_pos ⟨hx,by grind⟩,if_pos hx,yP,Gk]
   ·rw [if_neg (fun e=>hx e.1),if_pos ⟨by grind,by grind⟩,if_neg hx]
    exact ih _ _ h0 h1
  ·obtain ⟨ht,te⟩:=XW hs;rw [if_neg hs,te];rw [te] at ht;generalize x / (x - y)=t at ht;by_cases hp:0 < y - x
   ·rw [if_pos hp];by_cases hy:y≤0
    ·rw [if_pos ⟨by grind,hy⟩,yP,Nq]
     ·rfl
     ·have J:1≤t:=BI hp (by grind)
      have:=(max_le lo t).2;grind
    ·rw [if_neg (fun e=>hy e.2)]
     by_cases hx:0 < x
     ·rw [if_pos ⟨hx,by grind⟩]
      have J:t≤0:=BI hp (by grind)
      rw [max_eq (by grind)]
      exact ih _ _ h0 h1
     ·rw [if_neg (fun e=>hx e.1),if_pos (by grind)]
      exact ih _ _ (by have:=(max_le lo t).1; grind) h1
   ·have hn:0 < x - y:=by grind
    rw [if_neg hp];by_cases hx:x≤0
    ·rw [if_pos ⟨hx,by grind⟩,yP,Nq]
     ·rfl
     ·have J:t≤0:=BI hn (by grind)
      have:=(min_le hi t).2;grind
    ·rw [if_neg (fun e=>hx e.1)]
     by_cases hy:0 < y
     ·rw [if_pos ⟨by grind,hy⟩]
      have J:1≤t:=BI hn (by grind)
      rw [min_eq (by grind)]
      exact ih _ _ h0 h1
     ·rw [if_neg (fun e=>hy e.2),if_neg hy]
      exact ih _ _ h0 (by have:=(min_le hi t).1; grind)
def u9 (Q:List Q2) (a b:Q2) (j:Nat):Option (Rat × Rat):=((bc Q).take j).foldl (zW a b) (some (0,1))
theorem T1 {Q:List Q2} {a b p q:Q2} {j:Nat} {lo hi x y:Rat} (h:u9 Q a b j=some (lo,hi)) (he:(bc Q)[j]?=some (p,q)) (hx:x=ao p q a) (hy:y=ao p q b) :
  u9 Q a b (j+1)=if x≤0∧y≤0 then none else if 0 < x∧0 < y then some (lo,hi) else if 0 < y then some (lV lo (x / (x - y)),hi) else some (lo,lW hi (x / (x - y))):=by
 unfold u9 at *;rw [Vb he,h,MH];subst hx; subst hy;simp only
theorem T2 {Q:List Q2} {a b:Q2} {j:Nat} (h:u9 Q a b j=none):qU Q a b=none:=by
 rw [XU,← Ob _ _ _ (by grind) (by grind)]
 have e:bc Q=(bc Q).take j++(bc Q).drop j:=(List.take_append_drop ..).symm;rw [e,List.foldl_append,show List.foldl (zW a b) (some (0,1)) ((bc Q).take j)=none from h,yP]
 rfl
theorem Vd {Q:List Q2} {a b:Q2} {n:Nat} (hn:n=Q.length):sZ (u9 Q a b n)=qU Q a b:=by
 unfold u9;rw [hn,← nM Q,List.take_length,Ob _ _ _ (by grind) (by grind)]
 rfl
theorem OY {L:List PV} {s:XV} (h:¬ (bh L=0∧s.1.canon∧s.2.canon)):ic L s=((dp,dp),false,1):=if_neg h
theorem Od {L:List PV} {s:XV} (h:bh L=0∧s.1.canon∧s.2.canon) (J:qU (aL L) s.1.p s.2.p=none):ic L s=((dp,dp),false,0):=by unfold ic; rw [if_pos h,J]
theorem XX {L:List PV} {s:XV} {lo hi:Rat} (h:bh L=0∧s.1.canon∧s.2.canon) (J:qU (aL L) s.1.p s.2.p=some (lo,hi)):ic L s=((RV.of lo,RV.of hi),true,0):=by unfold ic; rw [if_pos h,J]
theorem WA {lo hi:Rat} (h:hi≤lo):sZ (some (lo,hi))=none:=if_pos h
theorem WB {lo hi:Rat} (h:¬ hi≤lo):sZ (some (lo,hi))=some (lo,hi):=if_neg h
theorem XY {L:List PV} {p q:PV} {lo hi:RV} (h:bh L=0∧p.canon∧q.canon) (J:qU (aL L) p.p q.p=some (lo.q,hi.q)) (c1:lo=RV.of lo.q) (c2:hi=RV.of hi.q):ic L (p,q)=((lo,hi),true,0):=by
 have:=XX (s:=(p,q)) h J;rw [← c1,← c2] at this;exact this
open Go
open Go
abbrev II:=List (Int × Int)
def iq (x:Int × Int):Q2:=((x.1:Rat),(x.2:Rat))
def bw (l:II):List Q2:=l.map iq
def rD (l:II) (k:Nat):Int × Int:=l.getD k (0,0)
def nm (l:II) (r:Nat):List Value:=[.int .i64 (if r % 2=0 then (rD l (r / 2)).1 else (rD l (r / 2)).2)]
def iB:aY:={ ι:=II,args:=fun i=>[.slice (some ⟨0,0,none⟩) (2*i.length) (2*i.length)],ah:=fun i=>[.flat false (2*i.length) 1 (nm i)],pre:=fun i=>(0 < i.length∧i.length≤1000000)∧∀ x∈i,x.1.natAbs < 256∧x.2.natAbs < 256,val:=fun i=>.slice (some ⟨1,0,none⟩) i.length aO,new:=fun i=>some (.flat true i.length 6 (bI (bw i))) }
theorem Nr {l:II} {j:Nat} {x:Int × Int} (h:x=rD l j):nm l (2*j)=[.int .i64 x.1]:=by
 unfold nm;rw [if_pos (by omega),show 2*j / 2=j by omega,h]
theorem Ns {l:II} {j:Nat} {x:Int × Int} (h:x=rD l j):nm l (2*j+1)=[.int .i64 x.2]:=by
 unfold nm;rw [if_neg (by omega),show (2*j+1) / 2=j by omega,h]
theorem Oe {l:II} {j:Nat} (h:j < l.length):rD l j∈l∧l[j]?=some (rD l j):=by
 unfold rD;rw [List.getD_eq_getElem?_getD,List.getElem?_eq_getElem h];exact ⟨List.getElem_mem h,rfl⟩
theorem Nt {l:II} {j:Nat} {x:Int × Int} (h:l[j]?=some x):bw (l.take (j+1))=bw (l.take j)++[iq x]:=by
 unfold bw;rw [List.take_add_one,h,List.map_append]
 rfl
theorem BY (l:II) (rows:List (List Value)) (h:rows=(List.range (2*l.length)).map (nm l)):aD (.flat false (2*l.length) 1 (nm l)) (.aS true 1 rows) :=
 BU (by rw [h]; simp) (fun r hr=>by
  rw [h,List.getD_eq_getElem?_getD,List.getElem?_map,List.getElem?_range hr]
  rfl) (fun r hr=>rfl)
theorem FM (x:Q2):(bP x).canon:=⟨by show RV.of x.1=RV.of (RV.of x.1).q; rw [RV.iE],by show RV.of x.2=RV.of (RV.of x.2).q; rw [RV.iE]⟩
def dw:II:=[(0,0),(4,0),(4,4),(0,4)]
def jG:II:=[(3,3),(7,3),(3,7)]
def kc:II:=[(4,1),(6,1),(4,3)]
def jH:II:=[(3,3),(4,3),(4,4),(3,4)]
theorem qk (L:List Q2):aL (ak L)=L:=by
 unfold ak aL;rw [List.map_map];refine (List.map_congr_left (fun p hp=>?_)).trans (List.map_id L)
 exact gr p
theorem MI {L:List Q2}:∀ p∈ak L,p.canon:=fun p hp=>by
 obtain ⟨x,_,rfl⟩:=List.mem_map.1 hp;exact FM x
theorem Hj {l:II} (h1:3≤l.length∧l.length≤64) (J:Dw (bw l)=true) (h3:C8 (bw l)=true):bh (ak (bw l))=0:=by
 unfold bh;rw [if_neg (by rw [rP]; unfold bw; rw [List.length_map]; omega),if_neg (fun e=>by obtain ⟨p,hp,hc⟩:=List.any_eq_true.1 e; exact of_decide_eq_true hc (MI p hp)),qk,if_pos J,if_pos h3]
theorem GS:bh (ak (bw dw))=0:=Hj (by decide) (by decide +kernel) (by decide +kernel)
theorem XZ:bh (ak (bw jG))=0:=Hj (by decide) (by decide +kernel) (by decide +kernel)
theorem X0:bh (ak (bw kc))=0:=Hj (by decide) (by decide +kernel) (by decide +kernel)
theorem WC:jW (bw dw) (bw jG)=bw jH:=by decide +kernel
theorem Pv:c8 (ak (bw dw)) (ak (bw jG))=(bw jH,0):=by
 unfold c8;rw [if_pos ⟨GS,XZ⟩,qk,qk,WC];exact OW (by decide) (by decide)
theorem aax:eG (ak (bw dw)) (ak (bw kc))=((bP (iq (4,0)),bP (iq (4,4))),0):=by
 unfold eG;rw [if_pos ⟨GS,X0⟩,qk,qk,show eW true (bw dw) (bw kc)=some (iq (4,0),iq (4,4)) by decide +kernel]
 rfl
theorem aay:ic (ak (bw dw)) (bP (iq (-2,1)),bP (iq (6,1)))=((RV.of (1 / 4),RV.of (3 / 4)),true,0):=by
 unfold ic;rw [if_pos ⟨GS,FM _,FM _⟩,qk];show (match qU (bw dw) (bP (iq (-2,1))).p (bP (iq (6,1))).p with | some (lo,hi)=>((RV.of lo,RV.of hi),true,(0:Int)) | none=>((dp,dp),false,0))=_
 rw [gr,gr,show qU (bw dw) (iq (-2,1)) (iq (6,1))=some (1 / 4,3 / 4) by decide +kernel]
theorem HO {A B:List PV} (hA:∀ v∈A,v.sz 12) (hB:∀ v∈B,v.sz 12):xS A B:=fun h1 J=>by
 have a:=iY h1;have b:=iY J;refine N7 (S:=jP (aL A)) b.2.2.1 (fun m hm=>Q3.mono (wQ (k:=12) (iz hA (by decide)) m hm) (by decide)) (fun m hm=>Q3.mono (wQ (k:=12) (iz hB (by decide)) m hm) (by decide)) (by rw [yC,cm,cm]; omega) (.inr ⟨a.2.2.1,a.2.2.2,Gi a.2.2.1⟩)
theorem HP {l:II} (h:∀ x∈l,x.1.natAbs < 256∧x.2.natAbs < 256):∀ v∈ak (bw l),v.sz 12:=fun v hv=>by
 obtain ⟨x,hx,rfl⟩:=List.mem_map.1 hv;obtain ⟨y,hy,rfl⟩:=List.mem_map.1 hx;exact nU (vn y.1 y.2 (h y hy).1 (h y hy).2) (by decide)
theorem Dy {L:List PV} (h:∀ v∈L,v.sz 12):∀ v∈L,v.sz 2048:=fun v hv=>PV.aX (h v hv) (by decide)
theorem Hk {l:II} {c:Nat} (h:∀ x∈l,x.1.natAbs < 256∧x.2.natAbs < 256) (hl:l.length≤1000):PL.fit (some (ak (bw l),c)):=⟨by show (ak (bw l)).length≤_; rw [rP]; unfold bw; rw [List.length_map]; omega,Dy (HP h)⟩
theorem Nv {c:Nat}:dn.val (some (ak (bw dw),c),some (ak (bw jG),c))=.tuple ⟨[.slice (some ⟨2,0,none⟩) 4 aO,.int .i64 0]⟩∧dn.new (some (ak (bw dw),c),some (ak (bw jG),c))=some (.flat true 4 6 (bI (bw jH))):=by
 refine ⟨?_,?_⟩
 ·show Value.tuple ⟨[cW 2 (c8 (ak (bw dw)) (ak (bw jG))).1.length,.int .i64 (c8 (ak (bw dw)) (ak (bw jG))).2]⟩=_
  rw [Pv]; rfl
 ·show cl (c8 (ak (bw dw)) (ak (bw jG))).1=_
  rw [Pv]; rfl
theorem X1 {c:Nat} {a b:PV} (ha:a=bP (iq (4,0))) (hb:b=bP (iq (4,4))):cB.val (some (ak (bw dw),c),some (ak (bw kc),c))=.tuple ⟨[XV.v (a,b),.int .i64 0]⟩:=by
 show Value.tuple ⟨[(eG (ak (bw dw)) (ak (bw kc))).1.v,.int .i64 (eG (ak (bw dw)) (ak (bw kc))).2]⟩=_
 rw [aax,ha,hb]
theorem X2 {c:Nat} {a b:PV} {x y:RV} (ha:a=bP (iq (-2,1))) (hb:b=bP (iq (6,1))) (hx:x=RV.of (1 / 4)) (hy:y=RV.of (3 / 4)):mD.val (some (ak (bw dw),c),(a,b))=.tuple ⟨[x.v,y.v,.bool true,.int .i64 0]⟩:=by
 show Value.tuple ⟨[(ic (ak (bw dw)) (a,b)).1.1.v,(ic (ak (bw dw)) (a,b)).1.2.v,.bool (ic (ak (bw dw)) (a,b)).2.1,.int .i64 (ic (ak (bw dw)) (a,b)).2.2]⟩=_
 rw [ha,hb,aay,hx,hy]
open Go
theorem OZ {L:List Q2} {k l:Nat} (h:∀ v∈L,Q2.sz k v) (hl:k≤l):∀ v∈ak L,v.sz l:=fun v hv=>by
 obtain ⟨x,hx,rfl⟩:=List.mem_map.1 hv;exact nU (h x hx) hl
def Of:aY:={ ι:=me,args:=fun i=>[i.1.val,i.2.u6 i.1.ah.length],ah:=fun i=>i.1.ah++i.2.ah,pre:=fun i=>me.fit i∧xS i.1.list i.2.list,val:=fun i=>.tuple ⟨[.slice (some ⟨(i.1.ah++i.2.ah).length,0,none⟩) (c8 i.1.list i.2.list).1.length aO,.int .i64 (c8 i.1.list i.2.list).2]⟩,new:=fun i=>some (.flat true (c8 i.1.list i.2.list).1.length 6 (bI (c8 i.1.list i.2.list).1)) }
theorem Pw {i k:PL} {R:List Q2} {e:Int} (h:(R,e)=c8 i.list k.list):dn.val (i,k)=.tuple ⟨[cW (i.ah++k.ah).length R.length,.int .i64 e]⟩∧dn.new (i,k)=cl R∧Of.val (i,k)=.tuple ⟨[.slice (some ⟨(i.ah++k.ah).length,0,none⟩) R.length aO,.int .i64 e]⟩∧Of.new (i,k)=some (.flat true R.length 6 (bI R)):=by
 refine ⟨?_,?_,?_,?_⟩
 ·show Value.tuple ⟨[cW (i.ah++k.ah).length (c8 i.list k.list).1.length,.int .i64 (c8 i.list k.list).2]⟩=_; rw [← h]
 ·show cl (c8 i.list k.list).1=_; rw [← h]
 ·show Value.tuple ⟨[.slice (some ⟨(i.ah++k.ah).length,0,none⟩) (c8 i.list k.list).1.length aO,.int .i64 (c8 i.list k.list).2]⟩=_; rw [← h]
 ·show some (ai.flat true (c8 i.list k.list).1.length 6 (bI (c8 i.list k.list).1))=_; rw [← h]
theorem X3 (R:List Q2):(mO R).1.length≤64:=by
 unfold mO
 split
 ·exact Nat.zero_le _
 ·split
  ·exact Nat.zero_le _
  ·show R.length≤64; omega
theorem aaz {A B:List PV} {R:List Q2} {e:Int} (h:(R,e)=c8 A B):R.length≤64:=by
 rw [show R=(c8 A B).1 from by rw [← h]]
 unfold c8
 split
 ·exact X3 _
 ·exact Nat.zero_le _
open Go
theorem LQ {α:Type} (f:α→Int) (k:Int):∀ (l:List α) (o:Int),k≤l.foldl (fun o e=>min o (f e)) o↔k≤o∧∀ e∈l,k≤f e
 | [],o=>by simp
 | e::l,o=>by
  rw [List.foldl_cons,LQ f k l];simp only [List.mem_cons,forall_eq_or_imp];rw [Int.le_min,and_assoc]
theorem Cn {Q:List Q2} {p:Q2} {k:Int}:k≤gG Q p↔k≤1∧∀ e∈bc Q,k≤ba (ao e.1 e.2 p) 0:=by
 have:=LQ (fun e:Q2 × Q2=>ba (ao e.1 e.2 p) 0) k (bc Q) 1
 rw [← this];have e:Dx p=fun (o:Int) (e:Q2 × Q2)=>min o (ba (ao e.1 e.2 p) 0):=by
  funext o e
  simp only [Dx];rw [Int.min_def]
  split <;> split <;> omega
 rw [← e]; rfl
theorem T3 (Q:List Q2) (p:Q2):gG Q p=-1∨gG Q p=0∨gG Q p=1:=by
 have h1:-1≤gG Q p:=Cn.2 ⟨by decide,fun e _=>by have:=pU (ao e.1 e.2 p) 0; omega⟩
 have J:=(Cn (Q:=Q) (p:=p) (k:=gG Q p)).1 (Int.le_refl _);omega
theorem Nw {x:Rat}:1≤ba x 0↔0 < x:=by
 have:=pU x 0;rw [← ui]; omega
theorem BZ {Q:List Q2} {p:Q2}:gG Q p=1↔∀ e∈bc Q,0 < ao e.1 e.2 p:=by
 have h:=Cn (Q:=Q) (p:=p) (k:=1);have:=T3 Q p;constructor
 ·intro e x hx;exact Nw.1 ((h.1 (by omega)).2 x hx)
 ·intro e;have:=h.2 ⟨Int.le_refl _,fun x hx=>Nw.2 (e x hx)⟩
  omega
theorem yn {Q:List Q2} {p:Q2}:0≤gG Q p↔∀ e∈bc Q,0≤ao e.1 e.2 p:=by
 rw [Cn];exact ⟨fun h e he=>nO.1 (h.2 e he),fun h=>⟨by decide,fun e he=>nO.2 (h e he)⟩⟩
theorem pY {Q:List Q2} {p:Q2} (h:Ring Q):0≤gG Q p↔cN Q p:=by
 rw [yn];constructor
 ·intro J;exact SS h fun k hk=>J (au Q k,au Q (aZ Q.length k)) (lC hk)
 ·intro J e he;exact BF h.eh he J
def DK (Q:List Q2) (p:Q2):Prop:=∀ e∈bc Q,0 < ao e.1 e.2 p
def IB (Q:List Q2):Q2:=Q.foldl (fun s v=>oa s v) (0,0)
theorem aaA (a b:Q2):∀ (Q:List Q2) (s:Q2) (m:Rat),(∀ v∈Q,0≤ao a b v)→∀ k:Rat,(b.1 - a.1)*(s.2 - k*a.2) - (b.2 - a.2)*(s.1 - k*a.1)=m →
  ∃ d:Rat,(b.1 - a.1)*((Q.foldl (fun s v=>oa s v) s).2 - (k+Q.length)*a.2) - (b.2 - a.2)*((Q.foldl (fun s v=>oa s v) s).1 - (k+Q.length)*a.1)=m+d∧0≤d∧((∃ v∈Q,0 < ao a b v)→0 < d):=by
 intro Q
 induction Q with
 | nil =>
  intro s m _ k h;refine ⟨0,?_,by grind,fun ⟨v,hv,_⟩=>nomatch hv⟩
  simp only [List.foldl_nil,List.length_nil];grind
 | cons v Q ih =>
  intro s m hQ k h;have hv:=hQ v (List.mem_cons_self ..);obtain ⟨d,h1,J,h3⟩:=ih (oa s v) (m+ao a b v) (fun u hu=>hQ u (List.mem_cons_of_mem _ hu)) (k+1) (by rw [dG]; unfold oa; grind)
  refine ⟨ao a b v+d,?_,by grind,?_⟩
  ·rw [List.foldl_cons,List.length_cons];have:(k+1+((Q.length:Nat):Rat))=k+((Q.length+1:Nat):Rat):=by rw [Rat.natCast_add]; grind
   rw [this] at h1;rw [h1]; grind
  ·rintro ⟨u,hu,hp⟩
   rcases List.mem_cons.1 hu with rfl | hu
   ·grind
   ·have:=h3 ⟨u,hu,hp⟩;grind
theorem K7 {Q:List Q2} (h:Ring Q):gG Q (D1 (1 / (Q.length:Rat)) (IB Q))=1:=by
 refine BZ.2 fun e he=>?_
 obtain ⟨j,hj,rfl⟩:=BW he;have h3:=h.three;obtain ⟨d,h1,J,h4⟩:=aaA (au Q j) (au Q (aZ Q.length j)) Q (0,0) 0 (fun v hv=>oO h.eh (lC hj) hv) 0 (by grind)
 have hd:0 < d:=h4 ⟨_,eL (cJ (cJ hj)),SV h hj⟩;have hn:(0:Rat) < (Q.length:Rat):=by
  have:((0:Nat):Rat) < (Q.length:Rat):=Rat.natCast_lt_natCast.2 (by omega)
  exact this
 have hi:(1 / (Q.length:Rat))*(Q.length:Rat)=1:=by rw [Rat.div_def]; grind
 have gk:0 < 1 / (Q.length:Rat):=by
  by_cases h1:0 < 1 / (Q.length:Rat)
  ·exact h1
  ·have:=Rat.mul_nonneg (show 0≤-(1 / (Q.length:Rat)) by grind) (show 0≤(Q.length:Rat) by grind)
   grind
 have:=Rat.mul_pos gk hd;have e:ao (au Q j) (au Q (aZ Q.length j)) (D1 (1 / (Q.length:Rat)) (IB Q))=(1 / (Q.length:Rat))*d:=by
  rw [dG];unfold D1 IB;generalize List.foldl (fun s v=>oa s v) (0,0) Q=S at h1 ⊢
  generalize (1 / (Q.length:Rat))=i at hi ⊢;simp only;have h1:(au Q (aZ Q.length j)).1*S.2 - (au Q j).1*S.2 - ((au Q (aZ Q.length j)).2*S.1 - (au Q j).2*S.1) - (Q.length:Rat)*((au Q (aZ Q.length j)).1*(au Q j).2 - (au Q (aZ Q.length j)).2*(au Q j).1)=d:=by grind
  grind
 rw [e];exact this
open Go
def ku (L:List PV):Bool:=m9 L || decide (10 < L.length) || decide (bh L≠0)
def fj:aY:={ ι:=PL,args:=fun i=>[i.val],ah:=PL.ah,pre:=fun i=>i.list.length≤9223372036854775807,val:=fun i=>.bool (ku i.list),new:=fun _=>none }
theorem Og {L:List PV} (h:ku L=false):L.length≤10∧(∀ p∈L,p.sz 12)∧bh L=0:=by
 unfold ku at h;rw [Bool.or_eq_false_iff,Bool.or_eq_false_iff] at h;have J:=of_decide_eq_false h.1.2;have h3:=of_decide_eq_false h.2;exact ⟨by omega,(MF h.1.1).2,by simpa using h3⟩
theorem X4 {L:List PV} (h:m9 L=true):ku L=true:=by unfold ku; rw [h]; rfl
theorem WD {L:List PV} (h:10 < L.length):ku L=true:=by unfold ku; rw [decide_eq_true h,Bool.or_true,Bool.true_or]
theorem WE {L:List PV} (h:bh L≠0):ku L=true:=by unfold ku; rw [decide_eq_true h,Bool.or_true]
theorem X5 {L:List PV} (h:m9 L=false) (J:¬ 10 < L.length) (h3:bh L=0):ku L=false:=by unfold ku; rw [h,decide_eq_false J,h3]; rfl
def Dz:bF:={ ι:=PV,args:=fun i=>[i.v],pre:=fun _=>True,val:=fun i=>.bool (decide (i.sz 12∧i.canon)) }
open Go
theorem D7 (x:Rat):0≤x*x:=by
 by_cases h:0≤x
 ·exact Rat.mul_nonneg h h
 ·have:=Rat.mul_nonneg (show 0≤-x by grind) (show 0≤-x by grind)
  grind
def mv (p d:Q2) (s:Rat):Q2:=(p.1+s*d.1,p.2+s*d.2)
theorem X6 (p:Q2) (s:Rat):mv p (0,0) s=p:=Prod.ext (by show p.1+s*0=p.1; grind) (by show p.2+s*0=p.2; grind)
theorem Px (a b p d:Q2) (s:Rat):ao a b (mv p d s)=ao a b p+s*((b.1 - a.1)*d.2 - (b.2 - a.2)*d.1):=by
 rw [dG,dG]; unfold mv; grind
theorem O0 (f:Q3) (p d:Q2) (s:Rat):aq f (mv p d s)=aq f p+s*(f.1*d.1+f.2.1*d.2):=by
 rw [gq,gq]; unfold mv; grind
theorem O1 {x k:Rat} (h:0 < x):∃ s:Rat,0 < s∧∀ t,0≤t→t≤s→0 < x+t*k:=by
 by_cases hk:0≤k
 ·exact ⟨1,by decide,fun t h0 _=>by have:=Rat.mul_nonneg h0 hk; grind⟩
 ·have hk:0 < -k:=by grind
  have e:(x / (2*-k))*(2*-k)=x:=by rw [Rat.div_def]; grind
  generalize hs:x / (2*-k)=s at e;have hs0:0 < s:=by
   by_cases h1:0 < s
   ·exact h1
   ·have:=Rat.mul_nonneg (show 0≤-s by grind) (show 0≤2*-k by grind)
    grind
  refine ⟨s,hs0,fun t h0 h1=>?_⟩
  have:=Rat.mul_nonneg (show 0≤s - t by grind) (show 0≤-k by grind)
  grind
theorem X7 {p d:Q2}:∀ (l:List (Q2 × Q2)),(∀ e∈l,0 < ao e.1 e.2 p)→∃ s:Rat,0 < s∧∀ t,0≤t→t≤s→∀ e∈l,0 < ao e.1 e.2 (mv p d t):=by
 intro l
 induction l with
 | nil=>intro _; exact ⟨1,by decide,fun t _ _ e he=>nomatch he⟩
 | cons e l ih =>
  intro h;obtain ⟨s,hs,h1⟩:=ih fun x hx=>h x (List.mem_cons_of_mem _ hx)
  obtain ⟨u,hu,J⟩:=O1 (k:=(e.2.1 - e.1.1)*d.2 - (e.2.2 - e.1.2)*d.1) (h e (List.mem_cons_self ..));refine ⟨if s≤u then s else u,by split <;> assumption,fun t h0 ht x hx=>?_⟩
  have rE:t≤s∧t≤u:=by
   by_cases tC:s≤u
   ·rw [if_pos tC] at ht; exact ⟨ht,by grind⟩
   ·rw [if_neg tC] at ht; exact ⟨by grind,ht⟩
  rcases List.mem_cons.1 hx with rfl | hx
  ·rw [Px]; exact J t h0 rE.2
  ·exact h1 t h0 rE.1 x hx
def pK (P:List Q2) (p:Q2):Prop:=∀ d:Q2,∃ s:Rat,0 < s∧∀ t,0≤t→t≤s→cN P (mv p d t)
theorem pK.Qn {P:List Q2} {p:Q2} (h:pK P p):cN P p:=by
 obtain ⟨s,hs,h1⟩:=h (0,0);have:=h1 0 (by decide) (by grind)
 rwa [X6] at this
theorem Co {Q:List Q2} {p:Q2} (h:Ring Q):gG Q p=1↔pK Q p:=by
 constructor
 ·intro h1 d;obtain ⟨s,hs,J⟩:=X7 (p:=p) (d:=d) (bc Q) (BZ.1 h1);exact ⟨s,hs,fun t h0 ht=>(pY h).1 (yn.2 fun e he=>by have:=J t h0 ht e he; grind)⟩
 ·intro h1;refine BZ.2 fun e he=>?_
  have hp:=yn.1 ((pY h).2 h1.Qn) e he;have aJ:=h.ne e he;refine Decidable.byContradiction fun hn=>?_
  have h0:ao e.1 e.2 p=0:=by grind
  obtain ⟨s,hs,J⟩:=h1 (e.2.2 - e.1.2,-(e.2.1 - e.1.1));have h3:=yn.1 ((pY h).2 (J s (by grind) (by grind))) e he
  rw [Px,h0] at h3;have a:=D7 (e.2.1 - e.1.1);have b:=D7 (e.2.2 - e.1.2);have pos:0 < (e.2.1 - e.1.1)*(e.2.1 - e.1.1)+(e.2.2 - e.1.2)*(e.2.2 - e.1.2):=by
   refine Decidable.byContradiction fun hz=>aJ ?_
   have z1:(e.2.1 - e.1.1)*(e.2.1 - e.1.1)=0:=by grind
   have z2:(e.2.2 - e.1.2)*(e.2.2 - e.1.2)=0:=by grind
   have z1:=(Rat.mul_eq_zero.1 z1).elim id id;have z2:=(Rat.mul_eq_zero.1 z2).elim id id;exact Prod.ext (by grind) (by grind)
  have:=Rat.mul_pos hs pos;grind
theorem X8 {R P B:List Q2} {p:Q2} (h:∀ q,cN R q↔cN P q∧cN B q):pK R p↔pK P p∧pK B p:=by
 constructor
 ·intro hi;exact ⟨fun d=>(hi d).imp fun s hs=>⟨hs.1,fun t h0 ht=>((h _).1 (hs.2 t h0 ht)).1⟩,fun d=>(hi d).imp fun s hs=>⟨hs.1,fun t h0 ht=>((h _).1 (hs.2 t h0 ht)).2⟩⟩
 ·intro ⟨ha,hb⟩ d;obtain ⟨s,hs,h1⟩:=ha d;obtain ⟨u,hu,J⟩:=hb d;refine ⟨if s≤u then s else u,by split <;> assumption,fun t h0 ht=>?_⟩
  by_cases tC:s≤u
  ·rw [if_pos tC] at ht; exact (h _).2 ⟨h1 t h0 ht,J t h0 (by grind)⟩
  ·rw [if_neg tC] at ht; exact (h _).2 ⟨h1 t h0 (by grind),J t h0 ht⟩
theorem Oh {P C:List Q2} {m:Q3} {p:Q2} (h:∀ q,cN C q↔cN P q∧0≤aq m q) (hp:pK P p) (hm:0 < aq m p):pK C p:=fun d=>by
 obtain ⟨s,hs,h1⟩:=hp d;obtain ⟨u,hu,J⟩:=O1 (k:=m.1*d.1+m.2.1*d.2) hm;refine ⟨if s≤u then s else u,by split <;> assumption,fun t h0 ht=>?_⟩
 have rE:t≤s∧t≤u:=by
  by_cases tC:s≤u
  ·rw [if_pos tC] at ht; exact ⟨ht,by grind⟩
  ·rw [if_neg tC] at ht; exact ⟨by grind,ht⟩
 exact (h _).2 ⟨h1 t h0 rE.1,by rw [O0]; have:=J t h0 rE.2; grind⟩
theorem WG {C:List Q2} {p:Q2} (hF:Flat C):¬ pK C p:=fun h=>by
 obtain ⟨f,hf,hv⟩:=hF;have z:∀ q,cN C q→aq f q=0:=fun q hq=>by
  have a:=hq f (fun v om=>by rw [hv v om]; exact Rat.le_refl)
  have b:=hq (-f.1,-f.2.1,-f.2.2) (fun v om=>by have:=hv v om; rw [gq] at this ⊢; grind)
  rw [gq] at a b ⊢;grind
 obtain ⟨s,hs,h1⟩:=h (f.1,f.2.1);have a:=z _ h.Qn;have b:=z _ (h1 s (by grind) (by grind))
 rw [O0,a] at b;have x:=D7 f.1;have y:=D7 f.2.1;have pos:0 < f.1*f.1+f.2.1*f.2.1:=by
  refine Decidable.byContradiction fun hz=>hf ⟨?_,?_⟩
  ·exact (Rat.mul_eq_zero.1 (show f.1*f.1=0 by grind)).elim id id
  ·exact (Rat.mul_eq_zero.1 (show f.2.1*f.2.1=0 by grind)).elim id id
 have:=Rat.mul_pos hs pos;grind
theorem T4:∀ (l:List (Q2 × Q2)) (P:List Q2),Ring P→fy P→(l.foldl kT P=[]∧∀ p,pK P p→¬ ∀ e∈l,0 < ao e.1 e.2 p) ∨
  (Ring (l.foldl kT P)∧fy (l.foldl kT P)∧∀ p,cN (l.foldl kT P) p↔cN P p∧∀ e∈l,0≤ao e.1 e.2 p):=by
 intro l
 induction l with
 | nil=>intro P h1 J; exact .inr ⟨h1,J,fun p=>⟨fun h=>⟨h,fun e he=>nomatch he⟩,fun h=>h.1⟩⟩
 | cons e l ih =>
  intro P h1 J;rw [List.foldl_cons];rcases Va h1.eh e with ⟨hF,h0⟩ | ⟨h3,h4,h5⟩
  ·left
   rw [h0];have nl:∀ l:List (Q2 × Q2),l.foldl kT []=[]:=fun l=>by
    induction l with
    | nil=>rfl
    | cons e l ih=>exact ih
   exact ⟨nl l,fun p hp ha=>WG hF (Oh (fun q=>KF h1.eh) hp (by rw [o4]; exact ha e (List.mem_cons_self ..)))⟩
  ·rcases ih _ h3 h4 with ⟨h6,h7⟩ | ⟨h6,h7,h8⟩
   ·left
    refine ⟨h6,fun p hp ha=>h7 p (Oh (m:=dP e.1 e.2) (fun q=>by rw [o4]; exact h5 q) hp (by rw [o4]; exact ha e (List.mem_cons_self ..))) fun x hx=>ha x (List.mem_cons_of_mem _ hx)⟩
   ·right
    refine ⟨h6,h7,fun p=>?_⟩
    rw [h8 p,h5 p];exact ⟨fun h=>⟨h.1.1,fun x hx=>by rcases List.mem_cons.1 hx with rfl | hx; exact h.1.2; exact h.2 x hx⟩,fun h=>⟨⟨h.1,h.2 e (List.mem_cons_self ..)⟩,fun x hx=>h.2 x (List.mem_cons_of_mem _ hx)⟩⟩
theorem FN {P B:List Q2} (hP:Ring P) (oP:fy P) (hB:Ring B):(jW P B=[]∧∀ p,¬ (gG P p=1∧gG B p=1)) ∨
  (Ring (jW P B)∧fy (jW P B)∧(∀ p,0≤gG (jW P B) p↔0≤gG P p∧0≤gG B p)∧∀ p,gG (jW P B) p=1↔gG P p=1∧gG B p=1):=by
 unfold jW;rcases T4 (bc B) P hP oP with ⟨h1,J⟩ | ⟨h1,J,h3⟩
 ·exact .inl ⟨h1,fun p hp=>J p ((Co hP).1 hp.1) (BZ.1 hp.2)⟩
 ·have hh:∀ q,cN ((bc B).foldl kT P) q↔cN P q∧cN B q:=fun q=>by rw [h3 q,← pY hB,yn]
  refine .inr ⟨h1,J,fun p=>?_,fun p=>?_⟩
  ·rw [pY h1,pY hP,pY hB]; exact hh p
  ·rw [Co h1,Co hP,Co hB]; exact X8 hh
theorem Ve {a b:Q2} (h:fK a b):¬ fK b a:=by
 unfold fK at *;grind
theorem Vf {A B:List Q2} (hA:Ring A) (oA:fy A) (hB:Ring B) (oB:fy B) (hs:g7 A B):A=B:=by
 have mem:∀ v,v∈A↔v∈B:=fun v=>by rw [hA.ext,hB.ext,fY.iff hs]
 have tA:=hA.three;have tB:=hB.three;cases A with
 | nil=>simp at tA
 | cons a A =>
  cases B with
  | nil=>simp at tB
  | cons b B =>
   have dJ:a=b:=by
    obtain ⟨i,hi,ei⟩:=qi ((mem a).1 (List.mem_cons_self ..));obtain ⟨j,hj,ej⟩:=qi ((mem b).2 (List.mem_cons_self ..));by_cases h0:i=0
    ·rw [← ei,h0]; rfl
    ·by_cases h1:j=0
     ·rw [← ej,h1]; rfl
     ·have x:fK b a:=by have:=oB i (by omega) hi; rw [ei] at this; exact this
      have y:fK a b:=by have:=oA j (by omega) hj; rw [ej] at this; exact this
      exact absurd x (Ve y)
   subst dJ;rw [K2 (P:=a::A) hA.eh hB.eh hA.nodup hB.nodup (fun v=>hA.ext) (fun v=>(mem v).symm.trans hA.ext)]
theorem Sq {A B:List Q2} (hA:Ring A) (hB:Ring B) (h:∀ p,0≤gG A p↔0≤gG B p):g7 A B:=fun p=>by rw [← pY hA,← pY hB]; exact h p
theorem Vg {P B:List Q2} (hP:Ring P) (oP:fy P) (hB:Ring B) (sP:∀ v∈P,Q2.sz 12 v) (sB:∀ v∈B,Q2.sz 12 v) :
  pA (·∈jP P++jP B) (jW P B)∧(∀ m∈jP P++jP B,Q3.sz 75 m)∧(jW P B).length≤P.length+B.length∧∀ v∈jW P B,Q2.sz 602 v:=by
 have hm:=LK (S:=(·∈jP P++jP B)) (P:=P) (B:=B) (fun e he=>⟨hB.ne e he,List.mem_append_right _ (FL he)⟩) (.inr ⟨hP,oP,fun e he=>(Gi hP e he).mono fun m hm=>List.mem_append_left _ hm⟩) B.length
 rw [Mz] at hm;have hl:∀ m∈jP P++jP B,Q3.sz 75 m:=fun m h=>(List.mem_append.1 h).elim (wQ sP m) (wQ sB m)
 obtain ⟨h1,J⟩:=LM (k:=75) hl hm;rw [List.length_append,yC,yC] at h1;exact ⟨hm,hl,h1,J⟩
open Go
theorem Hl {A B:List PV} (hA:bh A=0) (hB:bh B=0):c8 A B=mO (jW (aL A) (aL B)):=if_pos ⟨hA,hB⟩
open Go
def bH (v:Q2) (p:Q2):Q2:=oa p v
theorem CN (v a b p:Q2):ao (bH v a) (bH v b) (bH v p)=ao a b p:=by
 rw [dG,dG]; unfold bH oa; grind
theorem Nx (v p:Q2):bH v (bH (-v.1,-v.2) p)=p:=by unfold bH oa; exact Prod.ext (by grind) (by grind)
theorem aaB {v a b:Q2}:fK (bH v a) (bH v b)↔fK a b:=by unfold fK bH oa; grind
theorem uD {v:Q2} {Q:List Q2} {k:Nat} (h:k < Q.length):au (Q.map (bH v)) k=bH v (au Q k):=by
 have h1:=gO h;have J:=gO (l:=Q.map (bH v)) (k:=k) (by rw [List.length_map]; exact h)
 rw [List.getElem?_map,h1] at J;exact (Option.some.inj J).symm
theorem X9 {v:Q2} {Q:List Q2} {i:Nat} (hi:i < Q.length):mz (Q.map (bH v)) i↔mz Q i:=by
 unfold mz;rw [List.length_map];have h1:=cJ hi;have J:=cJ h1;rw [uD hi,uD h1,uD J,CN];by_cases h:0 < i∧i+1 < Q.length
 ·rw [uD (show 0 < Q.length by omega),uD h.2,CN]
 ·constructor
  ·rintro (a | ⟨a,b,_⟩)
   ·exact .inl a
   ·exact absurd ⟨a,b⟩ h
  ·rintro (a | ⟨a,b,_⟩)
   ·exact .inl a
   ·exact absurd ⟨a,b⟩ h
theorem yW {v:Q2} {Q:List Q2} (h:fy Q):fy (Q.map (bH v)):=fun i h0 hi=>by
 rw [List.length_map] at hi;rw [uD (show 0 < Q.length by omega),uD hi]
 exact aaB.2 (h i h0 hi)
theorem yQ {v:Q2} {Q:List Q2} (hR:Ring Q) (ho:fy Q):Ring (Q.map (bH v)):=by
 have h3:=hR.three;refine (uo (by rw [List.length_map]; exact h3) (yW ho)).2 fun i hi=>?_
 rw [List.length_map] at hi;exact fun e=>(uo h3 ho).1 hR i hi ((X9 hi).1 e)
theorem ur {v p:Q2} {Q:List Q2}:gG (Q.map (bH v)) (bH v p)=gG Q p:=by
 unfold gG;rw [Mv,List.foldl_map]
 congr 1
 funext o e
 unfold Dx;rw [CN]
theorem WH {v:Q2} {P B:List Q2} (hP:Ring P) (oP:fy P) (hB:Ring B) (oB:fy B):jW (P.map (bH v)) (B.map (bH v))=(jW P B).map (bH v):=by
 have tP:=yQ (v:=v) hP oP;have tB:=yQ (v:=v) hB oB;rcases FN hP oP hB with ⟨h1,J⟩ | ⟨h1,J,h3,h4⟩
 ·rcases FN tP (yW oP) tB with ⟨g1,g2⟩ | ⟨g1,g2,g3,g4⟩
  ·rw [h1,g1]; rfl
  ·have:=(g4 _).1 (K7 g1);rw [← Nx v (D1 _ _),ur,ur] at this;exact absurd this (J _)
 ·rcases FN tP (yW oP) tB with ⟨g1,g2⟩ | ⟨g1,g2,g3,g4⟩
  ·have:=(h4 _).1 (K7 h1);exact absurd ⟨ur.trans this.1,ur.trans this.2⟩ (g2 (bH v _))
  ·refine Vf g1 g2 (yQ h1 J) (yW J) (Sq g1 (yQ h1 J) fun p=>?_)
   rw [g3,← Nx v p,ur,ur,ur,h3]
theorem Oi {v:Q2} {s:Bool} {A B:List Q2}:fE s (A.map (bH v)) (B.map (bH v))=(fE s A B).map fun e=>(bH v e.1,bH v e.2):=by
 unfold fE;rw [Mv,List.find?_map]
 congr 1
 congr 1
 funext e
 simp only [Function.comp,List.all_map]
 congr 1
 funext x
 simp only [Function.comp,CN]
theorem Oj {v:Q2} {s:Bool} {A B:List Q2}:eW s (A.map (bH v)) (B.map (bH v))=(eW s A B).map fun e=>(bH v e.1,bH v e.2):=by
 unfold eW;rw [Oi,Oi];cases fE s A B with
 | none=>rfl
 | some e=>rfl
open Go
def aG (L:List PV) (w:PV):List Q2:=(aL L).map (bH w.p)
def eM:aY:={ ι:=PL × PV,args:=fun i=>[i.1.val,.pointer (some ⟨i.1.ah.length,0,none⟩)],ah:=fun i=>i.1.ah++[.flat false 1 6 (fun _=>i.2.cells)],pre:=fun i=>i.1.list.length≤1000000∧(∀ v∈i.1.list,v.sz 1024)∧i.2.sz 1024,val:=fun i=>cW (i.1.ah.length+1) (aG i.1.list i.2).length,new:=fun i=>cl (aG i.1.list i.2) }
theorem lF (L:List PV) (w:PV):(aG L w).length=L.length:=by unfold aG; rw [List.length_map,cm]
def oc (L:List PV) (w:PV) (j:Nat):List Q2:=(aG L w).take j
theorem MJ {L:List PV} {w a:PV} {j:Nat} (h:L[j]?=some a):oc L w (j+1)=oc L w j++[bH w.p a.p]:=by
 unfold oc aG aL;rw [List.take_add_one,List.getElem?_map,List.getElem?_map,h]
 rfl
theorem WI (L:List PV) (w:PV):oc L w L.length=aG L w:=by unfold oc; rw [← lF L w,List.take_length]
theorem Gl {L:List PV} {w:PV} {j:Nat} (h:j≤L.length):(oc L w j).length=j:=by unfold oc; rw [List.length_take,lF]; omega
theorem Ok {L:List PV} {j:Nat} (h:j < L.length):L[j]?=some (il L j):=BX h
def qW:aY:={ ι:=me × PV,args:=fun i=>[i.1.1.val,i.1.2.u6 i.1.1.ah.length,i.2.v],ah:=fun i=>i.1.1.ah++i.1.2.ah,pre:=fun i=>i.1.1.list.length*80≤140737488351232∧i.1.2.list.length*80≤140737488351232,val:=fun _=>.bool true,new:=fun _=>none }
theorem sj (A:List PV) (w:PV):aL (ak (aG A w))=(aL A).map (bH w.p):=qk _
theorem ss {A:List PV} {w:PV} (h:bh A=0):bh (ak (aG A w))=0:=by
 have z:=iY h;exact XH (by rw [rP,lF]; exact z.1) MI (by rw [sj]; exact yQ z.2.2.1 z.2.2.2) (by rw [sj]; exact yW z.2.2.2)
theorem O2 {s:Bool} {A B:List PV} {w:PV} (hA:bh A=0) (hB:bh B=0):gH s (ak (aG A w)) (ak (aG B w))=gH s A B:=by
 unfold gH;rw [if_pos ⟨ss hA,ss hB⟩,if_pos ⟨hA,hB⟩,sj,sj,Oj];cases eW s (aL A) (aL B) <;> rfl
theorem acO {A B:List PV} {w:PV} {R:List Q2} {e:Int} (hA:bh A=0) (hB:bh B=0) (h:(R,e)=c8 A B):(R.map (bH w.p),e)=c8 (ak (aG A w)) (ak (aG B w)):=by
 have zA:=iY hA;have zB:=iY hB;rw [Hl (ss hA) (ss hB),sj,sj,WH zA.2.2.1 zA.2.2.2 zB.2.2.1 zB.2.2.2];rw [Hl hA hB] at h;unfold mO at h ⊢;rw [List.length_map]
 split
 ·rename_i h1;rw [if_pos h1] at h;cases h; rfl
 ·rename_i h1;rw [if_neg h1] at h
  split
  ·rename_i J;rw [if_pos J] at h;cases h; rfl
  ·rename_i J;rw [if_neg J] at h;cases h; rfl
theorem O3 {A B:List PV} {w:PV} (hA:bh A=0) (hB:bh B=0):(eG A B=(ko,6)∧eG (ak (aG A w)) (ak (aG B w))=(ko,6)) ∨
  ∃ a b:Q2,(a∈aL A∨a∈aL B)∧(b∈aL A∨b∈aL B)∧eG A B=((bP a,bP b),0)∧eG (ak (aG A w)) (ak (aG B w))=((bP (bH w.p a),bP (bH w.p b)),0):=by
 unfold eG;rw [if_pos ⟨hA,hB⟩,if_pos ⟨ss hA,ss hB⟩,sj,sj,Oj];have mem:∀ {P Q:List Q2} {e:Q2 × Q2},fE true P Q=some e→e.1∈P∧e.2∈P:=fun h=>mq (List.mem_of_find?_eq_some h)
 cases h:eW true (aL A) (aL B) with
 | none=>exact .inl ⟨rfl,rfl⟩
 | some e =>
  obtain ⟨a,b⟩:=e;refine .inr ⟨a,b,?_,?_,rfl,rfl⟩
  ·unfold eW at h;cases h1:fE true (aL A) (aL B) with
   | none=>rw [h1] at h; exact .inr (mem h).1
   | some e=>rw [h1] at h; cases h; exact .inl (mem h1).1
  ·unfold eW at h;cases h1:fE true (aL A) (aL B) with
   | none=>rw [h1] at h; exact .inr (mem h).2
   | some e=>rw [h1] at h; cases h; exact .inl (mem h1).2
theorem Py {A:List PV} {w:PV} (hA:∀ v∈A,v.sz 12) (hw:w.sz 12):∀ v∈ak (aG A w),v.sz 25:=by
 refine OZ (k:=25) (fun x hx=>?_) (Nat.le_refl _)
 unfold aG at hx;obtain ⟨y,hy,rfl⟩:=List.mem_map.1 hx;exact uL (iz hA (by decide) y hy) (PV.cV hw (by decide))
theorem Ol {A B:List PV} (hA:∀ v∈A,v.sz 25) (hB:∀ v∈B,v.sz 25):xS A B:=fun h1 J=>by
 have a:=iY h1;have b:=iY J;refine N7 (S:=jP (aL A)) b.2.2.1 (fun m hm=>Q3.mono (wQ (k:=25) (iz hA (by decide)) m hm) (by decide)) (fun m hm=>Q3.mono (wQ (k:=25) (iz hB (by decide)) m hm) (by decide)) (by rw [yC,cm,cm]; omega) (.inr ⟨a.2.2.1,a.2.2.2,Gi a.2.2.1⟩)
open Go Go.RowKit
section
variable {P:Program} {w:World} {r:Reach} {base:Nat} {t:TypeId} {v:Value}
theorem MK (ht:P.underlying t=some .bool) (h:Cell.okWide P w r base t v):∃ b,v=.bool b:=by
 simp only [Cell.okWide,ht] at h;cases v <;> simp_all [Cell.ok]
theorem Bl (ht:P.underlying t=some .string) (h:Cell.okWide P w r base t v):∃ s,v=.string s:=by
 simp only [Cell.okWide,ht] at h;cases v <;> simp_all [Cell.ok]
theorem T5 {fs:Array Field} (ht:P.underlying t=some (.struct fs)) {ts:List TypeId} (rE:P.cellTypes P.depth t=some ts) (h:Value.okWide P w r base t v) :
  ∃ l:List Value,v=.agg ⟨l⟩∧l.length=P.cellsOf t∧∀ i x,l[i]?=some x→∃ u,ts[i % ts.length]?=some u∧Cell.okWide P w r base u x:=by
 simp only [Value.okWide,ht] at h;obtain ⟨cs,rfl,J,ts',h3,_,h5⟩:=h;rw [rE] at h3;cases h3;exact ⟨cs.toList,rfl,J,fun i x hx=>h5 i x (by simpa using hx)⟩
theorem Ya {fs:Array Field} (ht:P.underlying t=some (.struct fs)) {b s:TypeId} (rE:P.cellTypes P.depth t=some [b,s,s,b,s,s]) (hn:P.cellsOf t=6) (hb:P.underlying b=some .bool) (hs:P.underlying s=some .string)
  (h:Value.okWide P w r base t v):∃ p:PV,v=p.v:=by
 obtain ⟨l,rfl,hl,hc⟩:=T5 ht rE h;rw [hn] at hl
 match l,hl with
 | [x,y,z,x',y',z'],_ =>
  obtain ⟨u,hu,h0⟩:=hc 0 x rfl;obtain ⟨u1,q7,h1⟩:=hc 1 y rfl;obtain ⟨u2,tv,J⟩:=hc 2 z rfl;obtain ⟨u3,hu3,h3⟩:=hc 3 x' rfl;obtain ⟨u4,hu4,h4⟩:=hc 4 y' rfl;obtain ⟨u5,hu5,h5⟩:=hc 5 z' rfl;cases hu; cases q7; cases tv; cases hu3; cases hu4; cases hu5;obtain ⟨b0,rfl⟩:=MK hb h0;obtain ⟨s1,rfl⟩:=Bl hs h1;obtain ⟨s2,rfl⟩:=Bl hs J;obtain ⟨b3,rfl⟩:=MK hb h3;obtain ⟨s4,rfl⟩:=Bl hs h4;obtain ⟨s5,rfl⟩:=Bl hs h5;exact ⟨((b0,s1,s2),(b3,s4,s5)),rfl⟩
end
open Go Go.RowKit Go.ChangeShapes Go.WideShapes Go.ChangeAt
theorem R7 {P:Program} {f:FuncId} {S:aY} (h:dq P f S) {i:S.ι} (hp:S.pre i) {JG:List Value} {ν:Nu} {w:World} (ha:bg ν (S.args i) JG) (hH:bS ν ((S.ah i).map some) w)
  (hν:∀ id,(S.ah i).length≤id→ν id=none) {b:Bool} (hv:S.val i=.bool b) :
  Calls P f ⟨JG⟩ w fun e w'=>e=.returned (.bool b)∧Below w.heap.size w w':=by
 have h1:=h.calls i hp ν JG w 0 ha hH hν;rw [callsIn_wide] at h1;refine h1.mono fun e w' ⟨v',aj,he,hq⟩=>⟨?_,hq.below⟩
 have hr:=hq.val;rw [hv] at hr;rw [he,hr.kg]
section
variable {H:Type} {enc:TypeId × Value→H} {P:Program} {w:World} {base:Nat} {spare:Nat→Bool} {held:Bool}
structure DA (P:Program) (tr tp b s:TypeId):Prop where
 rat:∃ f0 f1 f2,P.underlying tr=some (.struct #[f0,f1,f2])∧(f0.type=b∧f0.offset=0)∧(f1.type=s∧f1.offset=1)∧f2.type=s∧f2.offset=2
 pt:∃ f0 f1,P.underlying tp=some (.struct #[f0,f1])∧(f0.type=tr∧f0.offset=0)∧f1.type=tr∧f1.offset=3
 bool:P.underlying b=some .bool
 str:P.underlying s=some .string
 cr:P.cellsOf tr=3
 cp:P.cellsOf tp=6
 cb:P.cellsOf b=1
 cs:P.cellsOf s=1
theorem Ny {tr tp b s:TypeId} (T:DA P tr tp b s) {n:Nat} {l:List Value} {y:DataW H × List MemPlace} (h:DataW.trod enc P w base spare held n tr l=some y):∃ i:RV,l=i.cells:=by
 obtain ⟨f0,f1,f2,hu,⟨t0,o0⟩,⟨t1,o1⟩,t2,o2⟩:=T.rat;obtain ⟨y0,y1,y2,m,_,hl,h0,h1,J⟩:=Deep.trod_struct3 hu h;rw [T.cr] at hl;rw [t0,o0,T.cb] at h0;rw [t1,o1,T.cs] at h1;rw [t2,o2,T.cs] at J
 match l,hl with
 | [x,y,z],_ =>
  obtain ⟨b,e0,_⟩:=DataW.trod_bool T.bool h0;obtain ⟨s1,e1,_⟩:=DataW.trod_string T.str h1;obtain ⟨s2,e2,_⟩:=DataW.trod_string T.str J;simp at e0 e1 e2;subst e0; subst e1; subst e2;exact ⟨(b,s1,s2),rfl⟩
theorem Yb {tr tp b s:TypeId} (T:DA P tr tp b s) {n:Nat} {l:List Value} {y:DataW H × List MemPlace} (h:DataW.trod enc P w base spare held n tp l=some y):∃ p:PV,l=p.cells:=by
 obtain ⟨f0,f1,hu,⟨t0,o0⟩,t1,o1⟩:=T.pt;obtain ⟨y0,y1,m,_,hl,h0,h1⟩:=trod_struct2 hu h;rw [T.cp] at hl;rw [t0,o0,T.cr] at h0;rw [t1,o1,T.cr] at h1;obtain ⟨i,e0⟩:=Ny T h0;obtain ⟨j,e1⟩:=Ny T h1
 match l,hl with
 | [x,y,z,x',y',z'],_ =>
  have e0:[x,y,z]=i.cells:=e0;have e1:[x',y',z']=j.cells:=e1;refine ⟨(i,j),?_⟩;show [x,y,z]++[x',y',z']=i.cells++j.cells
  rw [e0,e1]
end
open Go Go.RowKit Go.ChangeShapes Go.WideShapes Go.ChangeAt
section
variable {P:Program} {w:World} {r:Reach} {base:Nat} {t:TypeId} {v:Value}
end
structure aeV (P:Program) (tr tn:TypeId):Prop where
 ln:∃ f0 f1 f2,P.underlying tn=some (.struct #[f0,f1,f2])∧(f0.type=tr∧f0.offset=0)∧(f1.type=tr∧f1.offset=3)∧f2.type=tr∧f2.offset=6
 cn:P.cellsOf tn=9
section
variable {H:Type} {enc:TypeId × Value→H} {P:Program} {w:World} {base:Nat} {spare:Nat→Bool} {held:Bool}
end
open Go Go.RowKit Go.ChangeShapes Go.WideShapes Go.ChangeAt
section
variable {H:Type} {enc:TypeId × Value→H} {P:Program} {w:World} {base:Nat} {spare:Nat→Bool} {held:Bool}
theorem KJ {tl tr tp b s:TypeId} (T:DA P tr tp b s) (ht:P.underlying tl=some (.slice tp)) {v:Value} {d:DataW H} {ps:List MemPlace} {r:Reach} {b0:Nat} (hv:Value.okWide P w r b0 tl v)
  (h:DataW.Trod enc P w base (fun _=>true) held tl v d ps) :
  ∃ (i:PL) (ν:Nu),i.list.length≤9223372036854775807∧(∀ B m,(∀ elems spare,d=.slice elems spare→(elems.length+spare.length)*B≤m)→i.list.length*B≤m)∧ar ν i.val v∧bS ν (i.ah.map some) w∧∀ id,i.ah.length≤id→ν id=none:=by
 obtain ⟨a0,pB,aet,rfl⟩:=okWide_slice ht hv;obtain ⟨fuel,hf⟩:=h;rcases Deep.open_slice ht hf with ⟨AH,_⟩ | ⟨a,len,cap,m,n,D,Pl,AH,hb,hl,hm,mU,hd,hx⟩
 ·simp [Value.cells] at AH;obtain ⟨rfl,rfl,rfl⟩:=AH;refine ⟨none,fun _=>none,Nat.zero_le _,fun B m _=>by show 0*B≤m; omega,.iP,⟨fun id b h=>by simp [PL.ah] at h,fun i j bi bj li lj h=>by simp [PL.ah] at h⟩,fun _ _=>rfl⟩
 ·simp [Value.cells] at AH;obtain ⟨rfl,rfl,rfl⟩:=AH;have mU:m=aet:=mU;subst mU;simp only [Value.okWide,ht,Cell.okWide,Cell.ok] at hv;obtain ⟨_,_,_,rF,row,cells,Hm,_⟩:=hv;have Hu:a.block < w.heap.size:=by
   unfold World.shape? at Hm
   split at Hm
   ·rename_i hh;exact (Array.getElem?_eq_some_iff.1 hh).1
   ·cases Hm
  obtain ⟨V,hV⟩:=Deep.choose_lt (α:=PV) (n:=m) (p:=fun i p=>∀ j,j < 6→w.cell? ((a.add (i*6)).add j)=p.cells[j]?) (fun i hi=>by
   obtain ⟨eO,h1,J⟩:=hx i hi;rw [T.cp] at h1;obtain ⟨p,rfl⟩:=Yb T J;obtain ⟨_,_,hc⟩:=World.cells?_some h1;exact ⟨p,hc⟩)
  have hlm:pB≤m:=hl;refine ⟨some ((List.range pB).map V,aO),fun id=>if id=0 then some ⟨a.block,a.off,6,m⟩ else none,?_,?_,?_,⟨fun id b bo=>?_,fun i j bi bj li lj h1 J h3 h4=>?_⟩,fun id bo=>?_⟩
  ·show ((List.range pB).map V).length≤_
   have eI:m≤9223372036854775807:=hm;rw [List.length_map,List.length_range];omega
  ·intro B M hB;have hd:=hB _ _ (congrArg Prod.fst hd);show ((List.range pB).map V).length*B≤M
   rw [List.length_map,List.length_range];refine Nat.le_trans (Nat.mul_le_mul_right _ ?_) hd;simp
  ·have e:a=Loc.at ⟨a.block,a.off,6,m⟩ 0 0:=by
    obtain ⟨b0,o0,s0⟩:=a;have:s0=none:=rF;subst this;simp [Loc.at]
   have:=ar.slice (ν:=fun id=>if id=0 then some ⟨a.block,a.off,6,m⟩ else none) 0 0 pB aO m ⟨a.block,a.off,6,m⟩ rfl (.inr rfl) hlm (by simp)
   rw [← e] at this;show ar _ (.slice (some ⟨0,0,none⟩) ((List.range pB).map V).length aO) _
   rw [List.length_map,List.length_range];exact this
  ·cases id with
   | succ id=>simp [PL.ah] at bo
   | zero =>
    simp [PL.ah] at bo;subst bo;refine ⟨_,rfl,⟨rfl,fun r hr=>rfl,fun r hr j v x9=>?_,fun _ r hr v hv=>?_,fun r hr v hv=>?_,fun h=>(by cases h),(fun r h=>by cases h),Hu⟩⟩
    ·have fi:r < pB:=hr;have hr:r < ((List.range pB).map V).length:=by rw [List.length_map,List.length_range]; exact fi
     obtain ⟨p,hp,_,a8⟩:=rS hr;have hpV:V r=p:=by
      rw [List.getElem?_map,List.getElem?_range fi] at hp
      simpa using hp
     have x9:(di ((List.range pB).map V) r)[j]?=some v:=x9;rw [a8] at x9;have hj:j < 6:=(List.getElem?_eq_some_iff.1 x9).1;have hc:=hV r (by omega) j hj
     rw [hpV,x9] at hc;refine ⟨v,?_,?_⟩
     ·rw [← hc]
      congr 1
      obtain ⟨b0,o0,s0⟩:=a;have:s0=none:=rF;subst this;by_cases J:r*6=0
      ·have h3:r=0:=by omega
       by_cases h1:j=0 <;> simp [Loc.at,Addr.add,h1,h3]
      ·by_cases h1:j=0 <;> simp [Loc.at,Addr.add,h1,J,Nat.add_assoc]
     ·have hs:mH p.cells=true:=rfl;exact ar.ke (dE hs v (List.mem_of_getElem? x9))
    ·exact dE (LB _ r) v hv
    ·have:=dE (LB ((List.range pB).map V) r) v hv;cases v <;> first | rfl | simp [cH] at this
  ·cases i with
   | succ i=>simp [PL.ah] at h1
   | zero =>
    cases j with
    | zero=>exact absurd rfl h3
    | succ j=>simp [PL.ah] at J
  ·have:id≠0:=by
    intro e; subst e;have bo:1≤0:=bo;omega
   simp [this]
end
theorem acP {w:World} {i1 i2:PL} {dR ri:Nu} {v1 v2:Value} (h1:ar dR i1.val v1) (H1:bS dR (i1.ah.map some) w) (n1:∀ id,i1.ah.length≤id→dR id=none) (J:ar ri i2.val v2) (H2:bS ri (i2.ah.map some) w) (n2:∀ id,i2.ah.length≤id→ri id=none) :
  ∃ ν:Nu,bS ν ((i1.ah++i2.ah).map some) w∧(∀ id,(i1.ah++i2.ah).length≤id→ν id=none)∧ar ν i1.val v1∧ar ν (i2.u6 i1.ah.length) v2:=by
 have own:∀ i:PL,∀ b∈i.ah,b.own=false∧b.jc=true∧b.rc=none:=fun i b hb=>by
  cases i with
  | none=>cases hb
  | some i=>rw [List.mem_singleton.1 hb]; exact ⟨rfl,rfl,rfl⟩
 have eh:∀ {ν aj:Nu} {l:Loc} {b:ai},b.jc=true→bQ ν l b w→bQ aj l b w:=fun {ν aj l b} hf h =>
  ⟨h.ae,h.len,fun r hr j v hv=>by
   obtain ⟨v',hc,iS⟩:=h.cell r hr j v hv;have hs:=h.plain hf r hr v (List.mem_of_getElem? hv);rw [iS.kf hs] at hc;exact ⟨v,hc,ar.ke hs⟩,h.plain,h.one,h.own,h.lr,h.live⟩
 refine ⟨fun id=>if id < i1.ah.length then dR id else ri (id - i1.ah.length),⟨fun id b bo=>?_,fun i j bi bj li lj hi hj aJ ho=>?_⟩,fun id bo=>?_,?_,?_⟩
 ·rw [List.getElem?_map] at bo;obtain ⟨b',bB,e⟩:=Option.map_eq_some_iff.1 bo;obtain rfl:b'=b:=Option.some.inj e;by_cases h:id < i1.ah.length
  ·rw [List.getElem?_append_left h] at bB;obtain ⟨l,hl,hr⟩:=H1.aI id b' (by rw [List.getElem?_map,bB]; rfl)
   exact ⟨l,by rw [if_pos h]; exact hl,eh (own _ _ (List.mem_of_getElem? bB)).2.1 hr⟩
  ·rw [List.getElem?_append_right (by omega)] at bB
   obtain ⟨l,hl,hr⟩:=H2.aI (id - i1.ah.length) b' (by rw [List.getElem?_map,bB]; rfl)
   exact ⟨l,by rw [if_neg h]; exact hl,eh (own _ _ (List.mem_of_getElem? bB)).2.1 hr⟩
 ·rw [List.getElem?_map] at hi;obtain ⟨b',bB,e⟩:=Option.map_eq_some_iff.1 hi;obtain rfl:b'=bi:=Option.some.inj e;have:b'.own=false:=by
   rcases List.mem_append.1 (List.mem_of_getElem? bB) with h | h
   ·exact (own _ _ h).1
   ·exact (own _ _ h).1
  rw [this] at ho;cases ho
 ·rw [List.length_append] at bo;show (if id < i1.ah.length then dR id else ri (id - i1.ah.length))=none
  rw [if_neg (by omega)]
  exact n2 _ (by omega)
 ·cases i1 with
  | none=>cases h1; exact .iP
  | some i =>
   obtain ⟨L,c0⟩:=i;have h1:ar dR (.slice (some ⟨0,0,none⟩) L.length c0) v1:=h1;show ar _ (.slice (some ⟨0,0,none⟩) L.length c0) v1
   generalize L.length=k at h1 ⊢;cases h1 with
   | slice id row n c c' l h hc hn hr=>exact .slice _ _ _ _ _ l (by show (if 0 < 1 then dR 0 else _)=_; exact h) hc hn hr
   | void id row c a hc=>exact .void _ _ _ a hc
 ·cases i2 with
  | none=>cases J; exact .iP
  | some i =>
   obtain ⟨L,c0⟩:=i;have J:ar ri (.slice (some ⟨0,0,none⟩) L.length c0) v2:=J;show ar _ (.slice (some ⟨i1.ah.length,0,none⟩) L.length c0) v2
   generalize L.length=k at J ⊢;cases J with
   | slice id row n c c' l h hc hn hr=>exact .slice _ _ _ _ _ l (by show (if i1.ah.length < i1.ah.length then _ else ri (i1.ah.length - i1.ah.length))=_; rw [if_neg (by omega),Nat.sub_self]; exact h) hc hn hr
   | void id row c a hc=>exact .void _ _ _ a hc
end Go.Ae
