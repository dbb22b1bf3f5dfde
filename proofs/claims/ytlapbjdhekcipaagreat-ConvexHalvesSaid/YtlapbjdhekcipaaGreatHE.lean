import Derived.WalkKit
import Derived.ProofKit
import Derived.OpenShut
import Derived.ShutString
import Derived.ChangeOld
import Derived.Below
import Derived.Deep.Slices
import Derived.Deep.Strs
import Derived.SizedLaws
import Derived.Test.YtlapbjdhekcipaaGreatHD
set_option linter.unusedVariables false
set_option linter.unusedSimpArgs false
namespace Go.Ae
open Go
theorem abe (o i j k m:Q2):ao o j k*ao i j m=ao o j m*ao i j k+ao o i j*ao j k m:=by simp only [dm]; grind
theorem abf (o i j k m:Q2):ao o j k*ao i k m=ao o k m*ao i j k+ao o i k*ao j k m:=by simp only [dm]; grind
theorem FH {a x s:Rat} (ha:0 < a) (h:a*x=s) (hs:0 < s):0 < x:=by
 by_cases hx:0 < x
 ·exact hx
 ·have:=Rat.mul_nonneg (show 0≤a by grind) (show 0≤-x by grind)
  grind
theorem OF {a b c d:Rat} (ha:0 < a) (hb:0 < b) (hc:0 < c) (hd:0 < d):0 < a*b+c*d:=by
 have:=Rat.mul_pos ha hb;have:=Rat.mul_pos hc hd;grind
def gq (a b:Q2):Prop:=a.1 < b.1∨a.1=b.1∧a.2 < b.2
theorem VP {o a b c:Q2} (ha:gq o a) (hb:gq o b) (hc:gq o c) (h1:0 < ao o a b) (J:0 < ao o b c):0 < ao o a c:=by
 have e:(b.1 - o.1)*ao o a c=(a.1 - o.1)*ao o b c+(c.1 - o.1)*ao o a b:=by simp only [dm]; grind
 have EL:0 < b.1 - o.1:=by
  rcases hb with h | ⟨h,h'⟩
  ·grind
  ·exfalso;have e2:ao o b c=-((b.2 - o.2)*(c.1 - o.1)):=by rw [dm,show b.1 - o.1=0 by grind]; grind
   have:=Rat.mul_nonneg (show 0≤b.2 - o.2 by grind) (show 0≤c.1 - o.1 by rcases hc with h | ⟨h,_⟩ <;> grind)
   grind
 have vW:0 < a.1 - o.1:=by
  rcases ha with h | ⟨h,h'⟩
  ·grind
  ·exfalso;have e2:ao o a b=-((a.2 - o.2)*(b.1 - o.1)):=by rw [dm,show a.1 - o.1=0 by grind]; grind
   have:=Rat.mul_pos (show 0 < a.2 - o.2 by grind) EL
   grind
 refine FH EL e ?_;have:=Rat.mul_pos vW J;have:=Rat.mul_nonneg (show 0≤c.1 - o.1 by rcases hc with h | ⟨h,_⟩ <;> grind) (show 0≤ao o a b by grind)
 grind
theorem Xe {o:Q2}:∀ l:List Q2,(∀ v∈l,gq o v)→(∀ e∈bA l,0 < ao o e.1 e.2)→l.Pairwise (fun a b=>0 < ao o a b):=by
 intro l
 induction l with
 | nil=>exact fun _ _=>.nil
 | cons a l ih =>
  intro hv he;cases l with
  | nil=>simp
  | cons b l =>
   rw [iS] at he;have J:=ih (fun v h=>hv v (List.mem_cons_of_mem _ h)) (fun e h=>he e (List.mem_cons_of_mem _ h))
   rw [List.pairwise_cons];refine ⟨fun c hc=>?_,J⟩
   have c9:=he (a,b) (List.mem_cons_self ..);rcases List.mem_cons.1 hc with rfl | cD
   ·exact c9
   ·rw [List.pairwise_cons] at J;exact VP (hv a (List.mem_cons_self ..)) (hv b (List.mem_cons_of_mem _ (List.mem_cons_self ..))) (hv c (List.mem_cons_of_mem _ hc)) c9 (J.1 c cD)
def Ab:List Q2→Prop
 | []=>True
 | a::l=>l.Pairwise (fun b c=>0 < ao a b c)∧Ab l
theorem Ab.eP:∀ {l:List Q2},Ab l→bz l
 | [],_=>trivial
 | a::l,h=>⟨h.1.imp (fun h=>by grind),Ab.eP h.2⟩
theorem Xf {o:Q2}:∀ l:List Q2,l.Pairwise (fun a b=>0 < ao o a b)→(∀ e∈bA (bA l),0 < ao e.1.1 e.1.2 e.2.2)→Ab l:=by
 intro l
 induction l with
 | nil=>exact fun _ _=>trivial
 | cons a l ih =>
  intro hf hc;rw [List.pairwise_cons] at hf;obtain ⟨RW,hf⟩:=hf;cases l with
  | nil=>exact ⟨.nil,trivial⟩
  | cons b l =>
   have hS:=ih hf (fun e he=>hc e (by
    cases l with
    | nil=>cases he
    | cons c l=>rw [iS,iS,iS]; exact List.mem_cons_of_mem _ he))
   rw [List.pairwise_cons] at hf;have J5:l.Pairwise (fun x y=>0 < ao b x y):=hS.1
   have h1:∀ z∈l,0 < ao a b z:=by
    cases l with
    | nil=>intro z hz; cases hz
    | cons c l =>
     have QV:0 < ao a b c:=hc ((a,b),(b,c)) (by rw [iS,iS,iS]; exact List.mem_cons_self ..)
     intro z hz;rcases List.mem_cons.1 hz with rfl | ow
     ·exact QV
     ·rw [List.pairwise_cons] at J5;exact FH (hf.1 c (List.mem_cons_self ..)) (abe o a b c z) (OF (hf.1 z hz) QV (RW b (List.mem_cons_self ..)) (J5.1 z ow))
   refine ⟨?_,hS⟩;rw [List.pairwise_cons];refine ⟨h1,?_⟩;have h3:=List.Pairwise.and_mem.1 (J5.and hf.2);refine h3.imp fun {x y} ⟨hx,hy,afh,afi⟩=>?_
   exact FH (hf.1 x hx) (abf o a b x y) (OF afi (h1 x hx) (RW x (List.mem_cons_of_mem _ hx)) afh)
theorem Mb {α:Type} {l:List α} {e:α × α} (h:e∈bA l):∃ i,l[i]?=some e.1∧l[i+1]?=some e.2:=by
 obtain ⟨i,hi,rfl⟩:=List.getElem_of_mem h;refine ⟨i,?_⟩;have:(bA l)[i]?=some (bA l)[i]:=List.getElem?_eq_getElem hi;unfold bA at this;rw [List.getElem?_zip_eq_some,List.getElem?_tail] at this;exact this
theorem zo {a b:Q2}:fI a b < 0↔gq a b:=by
 have h:=uM (a:=b) (b:=a);unfold iE at h;unfold gq;constructor
 ·intro hc;have hn:¬ (b.1 < a.1∨b.1=a.1∧b.2≤a.2):=fun e=>h.1 e hc
  grind
 ·intro hc;refine Decidable.byContradiction fun hn=>?_
  have:=h.2 hn;grind
def iw (Q:List Q2):Prop:=∀ i,0 < i→i < Q.length→gq (aq Q 0) (aq Q i)
def pj (Q:List Q2) (i:Nat):Prop:=ao (aq Q i) (aq Q (aX Q.length i)) (aq Q (aX Q.length (aX Q.length i)))≤0∨(0 < i∧i+1 < Q.length∧ao (aq Q 0) (aq Q i) (aq Q (i+1))≤0)
def zJ (Q:List Q2) (i:Nat):Prop:=∃ p∈Q,p≠aq Q i∧p≠aq Q (aX Q.length i)∧ao (aq Q i) (aq Q (aX Q.length i)) p≤0
theorem xQ {Q:List Q2} (h:iw Q) {i:Nat} (h0:0 < i) (hi:i < Q.length):aq Q 0≠aq Q i:=fun e=>by
 have:=h i h0 hi;rw [← e] at this;rcases this with h | ⟨_,h⟩ <;> exact absurd h (Rat.not_lt.2 (Rat.le_refl))
theorem zf {Q:List Q2} (h3:3≤Q.length) (ho:iw Q):Ring Q↔∀ i,i < Q.length→¬ pj Q i:=by
 constructor
 ·intro hR i hi hb;rcases hb with hb | ⟨h0,h1,hb⟩
  ·have hn:=cI hi;have:=hR.ph _ hn;rw [zn hi] at this;grind
  ·have mP:=hR.nodup;have hT:=hR.eP;have e0:(Q.length - 1+1)=Q.length:=by omega
   have eK:0≤ao (aq Q i) (aq Q (i+1)) (aq Q 0):=by
    have he:=j9 hi;rw [show aX Q.length i=i+1 from Nat.mod_eq_of_lt h1] at he
    exact oW hT he (eO (by omega))
   have aD:ao (aq Q 0) (aq Q i) (aq Q (i+1))≠0:=Br (hR.ext.1 (eO (by omega))) (hR.ext.1 (eO hi)) (hR.ext.1 (eO h1)) (xQ ho h0 hi) (xQ ho (by omega) h1) fun e=>by
    have:=xA mP hi h1 e;omega
   rw [xz] at hb aD;grind
 ·intro h;have QW:∀ k,k < Q.length→0 < ao (aq Q (db Q.length k)) (aq Q k) (aq Q (aX Q.length k)):=fun k hk=>by
   have:=h _ (jo hk);unfold pj at this;rw [CM hk] at this;exact Rat.not_le.1 fun e=>this (.inl e)
  refine ⟨?_,h3,QW⟩;cases Q with
  | nil=>exact trivial
  | cons o l =>
   have hv:∀ v∈l,gq o v:=fun v hv=>by
    obtain ⟨i,hi,rfl⟩:=o6 hv;exact ho (i+1) (by omega) (by simp; omega)
   have hp:=Xe l hv fun e he=>by
    obtain ⟨i,h1,J⟩:=Mb he;have hi:i+1 < l.length:=(List.getElem?_eq_some_iff.1 J).1;have:=h (i+1) (by simp; omega)
    unfold pj at this;have e1:aq (o::l) (i+1)=e.1:=m6 h1;have e2:aq (o::l) (i+1+1)=e.2:=m6 J;have e0:aq (o::l) 0=o:=rfl;rw [e1,e2,e0] at this;exact Rat.not_le.1 fun e=>this (.inr ⟨by omega,by simp; omega,e⟩)
   refine ⟨hp.imp (fun h=>by grind),(Xf l hp fun e he=>?_).eP⟩
   obtain ⟨i,h1,J⟩:=Mb he;have g1:l[i]?=some e.1.1∧l[i+1]?=some e.1.2:=by
    unfold bA at h1;rw [List.getElem?_zip_eq_some,List.getElem?_tail] at h1;exact h1
   have g2:l[i+1]?=some e.2.1∧l[i+1+1]?=some e.2.2:=by
    unfold bA at J;rw [List.getElem?_zip_eq_some,List.getElem?_tail] at J;exact J
   have hi:i+1+1 < l.length:=(List.getElem?_eq_some_iff.1 g2.2).1;have:=QW (i+1+1) (by simp; omega)
   have hn:aX (o::l).length (i+1+1)=i+1+1+1:=Nat.mod_eq_of_lt (by simp; omega)
   have hq:db (o::l).length (i+1+1)=i+1:=by
    have:=zn (n:=(o::l).length) (k:=i+1) (by simp; omega)
    rwa [show aX (o::l).length (i+1)=i+1+1 from Nat.mod_eq_of_lt (by simp; omega)] at this
   rw [hn,hq] at this;have e1:aq (o::l) (i+1)=e.1.1:=m6 g1.1;have e2:aq (o::l) (i+1+1)=e.1.2:=m6 g1.2;have e3:aq (o::l) (i+1+1+1)=e.2.2:=m6 g2.2;rw [e1,e2,e3] at this;exact this
theorem VQ {Q:List Q2} (h3:3≤Q.length) (ho:iw Q) (h:∀ i,i < Q.length→¬ zJ Q i):∀ i j,i < j→j < Q.length→aq Q i≠aq Q j:=by
 have ar:∀ i,i < Q.length→∀ p∈Q,p≠aq Q i→p≠aq Q (aX Q.length i)→0 < ao (aq Q i) (aq Q (aX Q.length i)) p:=fun i hi p hp h1 J =>
  Rat.not_le.1 fun e=>h i hi ⟨p,hp,h1,J,e⟩
 have aD:∀ i,i < Q.length→aq Q i≠aq Q (aX Q.length i):=fun i hi e=>by
  by_cases h0:i=0
  ·subst h0;exact xQ ho (i:=aX Q.length 0) (by unfold aX; rw [Nat.mod_eq_of_lt (by omega)]; omega) (cI hi) e
  ·have bL:aq Q 0≠aq Q i:=xQ ho (by omega) hi
   have:=ar i hi (aq Q 0) (eO (by omega)) bL (fun e2=>bL (e2.trans e.symm))
   rw [← e,CL] at this;grind
 have key:∀ d i j,Q.length - j=d→0 < i→i < j→j < Q.length→aq Q i≠aq Q j:=by
  intro d
  induction d with
  | zero=>intro i j hd _ _ hj; omega
  | succ d ih =>
   intro i j hd h0 yA hj e;have hi:i < Q.length:=by omega
   have eni:aX Q.length i=i+1:=Nat.mod_eq_of_lt (by omega)
   have fZ:aq Q (aX Q.length i)=aq Q (aX Q.length j):=by
    refine Decidable.byContradiction fun hc=>?_
    have a:=ar i hi (aq Q (aX Q.length j)) (eO (cI hj)) (by rw [e]; exact Ne.symm (aD j hj)) (Ne.symm hc)
    have b:=ar j hj (aq Q (aX Q.length i)) (eO (cI hi)) (by rw [← e]; exact Ne.symm (aD i hi)) hc
    rw [← e,zc] at b;grind
   rw [eni] at fZ;by_cases hl:j+1 < Q.length
   ·rw [show aX Q.length j=j+1 from Nat.mod_eq_of_lt hl] at fZ
    exact ih (i+1) (j+1) (by omega) (by omega) (by omega) hl fZ
   ·have:j+1=Q.length:=by omega
    rw [show aX Q.length j=0 from by unfold aX; rw [this,Nat.mod_self]] at fZ
    exact xQ ho (i:=i+1) (by omega) (by omega) fZ.symm
 intro i j yA hj;by_cases h0:i=0
 ·subst h0; exact xQ ho yA hj
 ·exact key _ i j rfl (by omega) yA hj
theorem NN {Q:List Q2} (h3:3≤Q.length) (ho:iw Q):Ring Q↔∀ i,i < Q.length→¬ zJ Q i:=by
 constructor
 ·rintro hR i hi ⟨p,hp,h1,J,hb⟩
  have eK:=oW hR.eP (j9 hi) hp;have:=Br (hR.ext.1 (eO hi)) (hR.ext.1 (eO (cI hi))) (hR.ext.1 hp) (hR.ne _ (j9 hi)) (Ne.symm h1) (Ne.symm J);grind
 ·intro h;have mP:=VQ h3 ho h;have hd:∀ i j,i < Q.length→j < Q.length→i≠j→aq Q i≠aq Q j:=fun i j hi hj aD=>by
   rcases Nat.lt_or_gt_of_ne aD with h | h
   ·exact mP i j h hj
   ·exact Ne.symm (mP j i h hi)
  have ar:∀ i j,i < Q.length→j < Q.length→j≠i→j≠aX Q.length i→0 < ao (aq Q i) (aq Q (aX Q.length i)) (aq Q j):=fun i j hi hj h1 J =>
   Rat.not_le.1 fun e=>h i hi ⟨aq Q j,eO hj,hd j i hj hi h1,hd j _ hj (cI hi) J,e⟩
  refine (zf h3 ho).2 fun i hi hb=>?_
  rcases hb with hb | ⟨h0,h1,hb⟩
  ·have hn:=cI hi;have:=ar i _ hi (cI hn) (fun e=>by
    unfold aX at e;rcases Nat.lt_or_ge (i+1) Q.length with h | h
    ·rw [Nat.mod_eq_of_lt h] at e;rcases Nat.lt_or_ge (i+1+1) Q.length with h' | h'
     ·rw [Nat.mod_eq_of_lt h'] at e; omega
     ·rw [show i+1+1=Q.length by omega,Nat.mod_self] at e; omega
    ·rw [show i+1=Q.length by omega,Nat.mod_self,Nat.mod_eq_of_lt (by omega)] at e; omega) (xP hn (by omega))
   grind
  ·have:=ar i 0 hi (by omega) (by omega) (by rw [show aX Q.length i=i+1 from Nat.mod_eq_of_lt h1]; omega)
   rw [show aX Q.length i=i+1 from Nat.mod_eq_of_lt h1,← xz] at this
   grind
open Go
theorem m7 (a b p:Q2):aj (cU a b) p=ao a b p:=by simp only [fM,dm,cU]; grind
theorem GG {a b:Q2} (h:a≠b):gP (cU a b):=fun e=>h (Prod.ext (by have:=e.2; unfold cU at this; grind) (by have:=e.1; unfold cU at this; grind))
theorem Xg {m:Q3} {x y z:Q2} (hx:aj m x=0) (hy:aj m y=0) (aD:x≠y) (h:ao x y z=0):aj m z=0:=by
 rw [fM] at *;rw [dm] at h;by_cases h0:y.1 - x.1=0
 ·have h1:y.2 - x.2≠0:=fun e=>aD (Prod.ext (by grind) (by grind))
  have:(y.2 - x.2)*(m.1*z.1+m.2.1*z.2 - m.2.2)=0:=by grind
  exact (Rat.mul_eq_zero.1 this).resolve_left h1
 ·have:(y.1 - x.1)*(m.1*z.1+m.2.1*z.2 - m.2.2)=0:=by grind
  exact (Rat.mul_eq_zero.1 this).resolve_left h0
theorem OG {m:Q3} (hm:gP m) {a b c:Q2} (ha:aj m a=0) (hb:aj m b=0) (hc:aj m c=0):ao a b c=0 :=
 CN (P:=[a,b,c]) ⟨m,hm,fun v hv=>by simp at hv; rcases hv with rfl | rfl | rfl <;> assumption⟩ (by simp) (by simp) (by simp)
theorem UD {P:List Q2} {v:Q2} (h:v∈P) (hw:∃ w∈P,w≠v):∃ y,(v,y)∈aY P∧v≠y:=by
 obtain ⟨w,hw,aD⟩:=hw;obtain ⟨A,B,rfl⟩:=List.append_of_mem h;obtain ⟨y,h1,J⟩:=leave (v:=v) (B++A) ⟨w,by
  rcases List.mem_append.1 hw with h | h
  ·exact List.mem_append_right _ h
  ·rcases List.mem_cons.1 h with h | h
   ·exact absurd h aD
   ·exact List.mem_append_left _ h,aD⟩
 exact ⟨y,yY (A:=v::B) (Lp (m:=[v]) h1),J⟩
theorem Mc {P:List Q2} (hT:bz P):(Flat P∧fg P=[])∨(¬ Flat P∧Ring (fg P)∧iw (fg P)∧iu (fg P) P∧∀ v∈fg P,v∈P):=by
 by_cases hF:Flat P
 ·exact .inl ⟨hF,(MV hF).1⟩
 ·have hc:=Ma hT hF;rw [(OD hT hF).1];refine .inr ⟨hF,VO hc,fun i h0 hi=>?_,(iu.lH fun v=>uD).trans (FE hT hF).1,fun v hv=>(F8 P).subset (uD.1 hv)⟩
  have:=TC hc hi h0;have hle:iE (aq (eI (ff P)) 0) (aq (eI (ff P)) i):=uM.2 (by omega)
  have aD:aq (eI (ff P)) 0≠aq (eI (ff P)) i:=fun e=>by rw [e,oY.2 rfl] at this; omega
  rcases hle with h | ⟨h,h'⟩
  ·exact .inl h
  ·exact .inr ⟨h,Rat.lt_of_le_of_ne h' fun e=>aD (Prod.ext h e)⟩
theorem Yp {S:Q3→Prop} {P C:List Q2} (hT:bz P) (hC:Ring C) (hs:iu C P) (I0:∀ v∈C,v∈P) (h:∀ e∈aY P,mR S e):∀ e∈aY C,mR S e:=by
 rintro ⟨x,y⟩ he
 have rE:x≠y:=hC.ne _ he;obtain ⟨x',h1,J⟩:=UD (I0 x (lu he).1) ⟨y,I0 y (lu he).2,Ne.symm rE⟩;have a:=oW hT h1 (I0 y (lu he).2);have b:=Cb hC.eP he ((hs x').2 (.lH (lu h1).2));rw [zc] at b;obtain ⟨m,hm,hl,v1,v2⟩:=h _ h1;exact ⟨m,hm,hl,v1,Xg v1 v2 J (by grind)⟩
theorem Yq {α:Type} [DecidableEq α]:∀ (n:Nat) (S:List α) (f:Nat→α),(∀ k,k < n→f k∈S)→(∀ i j,i < n→j < n→f i=f j→i=j)→n≤S.length:=by
 intro n
 induction n with
 | zero=>intro S f _ _; omega
 | succ n ih =>
  intro S f h1 J;have hn:=h1 n (by omega)
  have:=ih (S.erase (f n)) f (fun k hk=>(List.mem_erase_of_ne fun e=>by have:=J k n (by omega) (by omega) e; omega).2 (h1 k (by omega))) (fun i j hi hj=>J i j (by omega) (by omega))
  rw [List.length_erase_of_mem hn] at this;have:0 < S.length:=List.length_pos_of_mem hn;omega
theorem Xh {S:List Q3} {C:List Q2} (hC:Ring C) (h:∀ e∈aY C,mR (·∈S) e):C.length≤S.length:=by
 have h3:=hC.three;have hf:∀ k,∃ m:Q3,k < C.length→m∈S∧gP m∧aj m (aq C k)=0∧aj m (aq C (aX C.length k))=0:=fun k=>by
  by_cases hk:k < C.length
  ·obtain ⟨m,h⟩:=h _ (j9 hk);exact ⟨m,fun _=>h⟩
  ·exact ⟨(0,0,0),fun h=>absurd h hk⟩
 obtain ⟨f,hf⟩:=Classical.axiomOfChoice hf;refine Yq C.length S f (fun k hk=>(hf k hk).1) fun i j hi hj e=>Decidable.byContradiction fun aD=>?_
 obtain ⟨_,hl,i1,i2⟩:=hf i hi;obtain ⟨_,_,j1,j2⟩:=hf j hj;rw [← e] at j1 j2;have hx:∀ a b c,a < C.length→b < C.length→c < C.length→a≠b→a≠c→b≠c→aj (f i) (aq C a)=0→aj (f i) (aq C b)=0→aj (f i) (aq C c)=0→False:=fun a b c ha hb hc c9 A4 pQ va vb vc =>
  Br (hC.ext.1 (eO ha)) (hC.ext.1 (eO hb)) (hC.ext.1 (eO hc)) (fun e=>c9 (xA hC.nodup ha hb e)) (fun e=>A4 (xA hC.nodup ha hc e)) (fun e=>pQ (xA hC.nodup hb hc e)) (OG hl va vb vc)
 by_cases h1:aX C.length i=j
 ·subst h1;refine hx i _ _ hi hj (cI hj) aD (fun e=>?_) (Ne.symm (xP hj (by omega))) i1 i2 j2
  unfold aX at e;rcases Nat.lt_or_ge (i+1) C.length with h | h
  ·rw [Nat.mod_eq_of_lt h] at e;rcases Nat.lt_or_ge (i+1+1) C.length with h' | h'
   ·rw [Nat.mod_eq_of_lt h'] at e; omega
   ·rw [show i+1+1=C.length by omega,Nat.mod_self] at e; omega
  ·rw [show i+1=C.length by omega,Nat.mod_self,Nat.mod_eq_of_lt (by omega)] at e; omega
 ·exact hx i j _ hi hj (cI hi) aD (Ne.symm (xP hi (by omega))) (Ne.symm h1) i1 j1 i2
theorem Yr {k:Nat} {C:List Q2} (hC:Ring C) (h:∀ e∈aY C,mR (Q3.sz k) e):∀ v∈C,Q2.sz (8*k+2) v:=by
 intro v hv;obtain ⟨i,hi,rfl⟩:=o6 hv;obtain ⟨l,sl,hl,l1,l2⟩:=h _ (qj hi);obtain ⟨m,sm,hm,m1,m2⟩:=h _ (j9 hi);have l2:aj l (aq C i)=0:=l2;have m1:aj m (aq C i)=0:=m1;have hd:rh l m≠0:=aa9 hl l1 l2 (fun e=>by
  have hc:=hC.ph i hi;rw [OG hm (e.trans m1) m1 m2] at hc;grind)
 rw [aa8 l2 m1 hd];exact Q2.mono (aa7 sl sm) (by omega)
def dD (P:List Q2) (e:Q2 × Q2):List Q2:=fg (cB (cU e.1 e.2) P)
def DF (P B:List Q2):List Q2:=(aY B).foldl dD P
def jq (P B:List Q2) (j:Nat):List Q2:=((aY B).take j).foldl dD P
theorem UE {P B:List Q2} {j:Nat} {e:Q2 × Q2} (h:(aY B)[j]?=some e):jq P B (j+1)=dD (jq P B j) e:=by
 unfold jq;rw [List.take_add_one,h,List.foldl_append]; rfl
theorem VR (P B:List Q2):jq P B B.length=DF P B:=by
 unfold jq DF;rw [← ll B,List.take_length]
def pK (S:Q3→Prop) (P:List Q2):Prop:=P=[]∨(Ring P∧iw P∧∀ e∈aY P,mR S e)
theorem MX {S:Q3→Prop} {P:List Q2} {e:Q2 × Q2} (aD:e.1≠e.2) (hS:S (cU e.1 e.2)) (h:pK S P):pK S (dD P e):=by
 rcases h with rfl | ⟨hR,ho,EM⟩
 ·exact .inl rfl
 ·have hT:=Cs (m:=cU e.1 e.2) hR.eP;rcases Mc hT with ⟨_,h⟩ | ⟨_,h1,J,h3,h4⟩
  ·exact .inl h
  ·exact .inr ⟨h1,J,Yp hT h1 h3 h4 (aba hS (GG aD) EM)⟩
theorem UF {S:Q3→Prop} {P B:List Q2} (hB:∀ e∈aY B,e.1≠e.2∧S (cU e.1 e.2)) (h:pK S P) (j:Nat):pK S (jq P B j):=by
 unfold jq;have hl:∀ e∈(aY B).take j,e.1≠e.2∧S (cU e.1 e.2):=fun e he=>hB e (List.mem_of_mem_take he)
 revert hl;generalize (aY B).take j=l;intro hl
 induction l generalizing P with
 | nil=>exact h
 | cons e l ih=>exact ih (MX (hl e (List.mem_cons_self ..)).1 (hl e (List.mem_cons_self ..)).2 h) fun x hx=>hl x (List.mem_cons_of_mem _ hx)
theorem Md {S:List Q3} {k:Nat} {P:List Q2} (hk:∀ m∈S,Q3.sz k m) (h:pK (·∈S) P):P.length≤S.length∧∀ v∈P,Q2.sz (8*k+2) v:=by
 rcases h with rfl | ⟨hR,_,EM⟩
 ·exact ⟨Nat.zero_le _,fun v hv=>nomatch hv⟩
 ·exact ⟨Xh hR EM,Yr hR fun e he=>(EM e he).imp fun m hm=>⟨hk m hm.1,hm.2⟩⟩
def qK (P:List Q2):List Q3:=(aY P).map fun e=>cU e.1 e.2
theorem Gc (P:List Q2):(qK P).length=P.length:=by unfold qK; rw [List.length_map,ll]
theorem MY {P:List Q2} {e:Q2 × Q2} (h:e∈aY P):cU e.1 e.2∈qK P:=List.mem_map_of_mem (f:=fun e:Q2 × Q2=>cU e.1 e.2) h
theorem NO {P:List Q2} (h:Ring P):∀ e∈aY P,mR (·∈qK P) e:=fun e he=>⟨_,MY he,GG (h.ne e he),by rw [m7,qB],by rw [m7,nT]⟩
theorem Ct {P:List Q2} {k:Nat} (h:∀ v∈P,Q2.sz k v):∀ m∈qK P,Q3.sz (6*k+3) m:=fun m hm=>by
 obtain ⟨e,he,rfl⟩:=List.mem_map.1 hm;have:=lu he;exact Q3.mono (Pn (h _ this.1) (h _ this.2)) (by omega)
theorem mR.mono {S T:Q3→Prop} {e:Q2 × Q2} (h:mR S e) (hs:∀ m,S m→T m):mR T e:=h.imp fun m hm=>⟨hs m hm.1,hm.2⟩
theorem pK.mono {S T:Q3→Prop} {P:List Q2} (h:pK S P) (hs:∀ m,S m→T m):pK T P:=h.imp id fun h=>⟨h.1,h.2.1,fun e he=>(h.2.2 e he).mono hs⟩
def Pt (P B:List Q2):Prop:=∀ j,j≤B.length→(jq P B j).length≤1073741824∧∀ v∈jq P B j,Q2.sz 2048 v
theorem Ys {S:List Q3} {P B:List Q2} (hB:Ring B) (hk:∀ m∈S,Q3.sz 255 m) (hl:∀ m∈qK B,Q3.sz 255 m) (hn:S.length+B.length≤1073741824) (h:pK (·∈S) P):Pt P B:=fun j hj=>by
 have hm:=UF (S:=(·∈S++qK B)) (B:=B) (fun e he=>⟨hB.ne e he,List.mem_append_right _ (MY he)⟩) (h.mono fun m hm=>List.mem_append_left _ hm) j
 obtain ⟨h1,J⟩:=Md (k:=255) (fun m hm=>(List.mem_append.1 hm).elim (hk m) (hl m)) hm
 rw [List.length_append,Gc] at h1;exact ⟨by omega,fun v hv=>Q2.mono (J v hv) (by decide)⟩
theorem MZ {P:List Q2} (hT:bz P) (e:Q2 × Q2):(Flat (cB (cU e.1 e.2) P)∧dD P e=[])∨(Ring (dD P e)∧iw (dD P e)∧∀ p,cX (dD P e) p↔cX P p∧0≤ao e.1 e.2 p):=by
 rcases Mc (Cs (m:=cU e.1 e.2) hT) with h | ⟨_,h1,J,h3,_⟩
 ·exact .inl h
 ·refine .inr ⟨h1,J,fun p=>?_⟩
  rw [show cX (dD P e) p↔_ from h3 p,K2 hT,m7]
open Go
def dB (l:List PV):Bool:=l.any fun p=>decide (¬ p.canon)
instance (a b:Q2):Decidable (gq a b):=inferInstanceAs (Decidable (_∨_))
def D3 (Q:List Q2):Bool:=(List.range Q.length).all fun i=>decide (i=0∨gq (aq Q 0) (aq Q i))
instance (Q:List Q2) (i:Nat):Decidable (pj Q i):=inferInstanceAs (Decidable (_∨_))
def DG (Q:List Q2):Bool:=(List.range Q.length).all fun i=>decide (¬ pj Q i)
theorem zg {Q:List Q2}:D3 Q=true↔iw Q:=by
 unfold D3 iw;rw [List.all_eq_true];constructor
 ·intro h i h0 hi;exact (of_decide_eq_true (h i (List.mem_range.2 hi))).resolve_left (by omega)
 ·intro h i hi;by_cases h0:i=0
  ·exact decide_eq_true (.inl h0)
  ·exact decide_eq_true (.inr (h i (by omega) (List.mem_range.1 hi)))
theorem Cd {Q:List Q2} (h3:3≤Q.length) (ho:iw Q):DG Q=true↔Ring Q:=by
 rw [zf h3 ho];unfold DG;rw [List.all_eq_true];exact ⟨fun h i hi=>of_decide_eq_true (h i (List.mem_range.2 hi)),fun h i hi=>decide_eq_true (h i (List.mem_range.1 hi))⟩
def bo (L:List PV):Int :=
 if L.length < 3∨64 < L.length then 4 else if dB L=true then 1 else if D3 (aR L)=true then (if DG (aR L)=true then 0 else 15) else 8
theorem nQ {L:List PV} (h:bo L=0):(3≤L.length∧L.length≤64)∧(∀ p∈L,p.canon)∧Ring (aR L)∧iw (aR L):=by
 unfold bo at h
 split at h
 ·cases h
 ·rename_i h1
  split at h
  ·cases h
  ·rename_i J
   split at h
   ·rename_i h3
    split at h
    ·rename_i h4;have ho:=zg.1 h3;exact ⟨by omega,fun p hp=>Decidable.byContradiction fun e=>J (List.any_eq_true.2 ⟨p,hp,decide_eq_true e⟩),(Cd (by rw [c0]; omega) ho).1 h4,ho⟩
    ·cases h
   ·cases h
theorem Yt {L:List PV} (h1:3≤L.length∧L.length≤64) (J:∀ p∈L,p.canon) (h3:Ring (aR L)) (h4:iw (aR L)):bo L=0:=by
 unfold bo;rw [if_neg (by omega),if_neg (fun e=>by obtain ⟨p,hp,hc⟩:=List.any_eq_true.1 e; exact of_decide_eq_true hc (J p hp)),if_pos (zg.2 h4),if_pos ((Cd (by rw [c0]; omega) h4).2 h3)]
def Aq (p:Q2) (o:Int) (e:Q2 × Q2):Int:=if aZ (ao e.1 e.2 p) 0 < o then aZ (ao e.1 e.2 p) 0 else o
def fp (Q:List Q2) (p:Q2):Int:=(aY Q).foldl (Aq p) 1
def ri (L:List PV) (p:PV):Int × Int:=if bo L=0∧p.canon then (fp (aR L) p.p,0) else (0,1)
def lY (R:List Q2):List Q2 × Int:=if R.length=0 then ([],11) else if 64 < R.length then ([],4) else (R,0)
def dp (L:List PV) (a b:PV):List Q2 × Int:=if bo L=0∧a.canon∧b.canon then (if a=b then ([],12) else lY (fg (cB (cU a.p b.p) (aR L)))) else ([],1)
def ia (A B:List PV):List Q2 × Int:=if bo A=0∧bo B=0 then lY (DF (aR A) (aR B)) else ([],1)
def rM (s:Bool) (o:Int):Bool:=if s then decide (o≤0) else decide (o < 0)
def iA (s:Bool) (A B:List Q2):Option (Q2 × Q2):=(aY A).find? fun e=>B.all fun x=>rM s (aZ (ao e.1 e.2 x) 0)
def kt (s:Bool) (A B:List Q2):Option (Q2 × Q2):=match iA s A B with
 | some e=>some e
 | none=>iA s B A
def QX (s:Bool) (A B:List PV):Bool × Int:=if bo A=0∧bo B=0 then ((kt s (aR A) (aR B)).isNone,0) else (false,1)
def RX (e:Q2 × Q2):XV:=(cc e.1,cc e.2)
def nr (A B:List PV):XV × Int:=if bo A=0∧bo B=0 then (match kt true (aR A) (aR B) with | some e=>(RX e,0) | none=>(nj,6)) else (nj,1)
def yo (a b:Q2) (st:Option (Rat × Rat)) (e:Q2 × Q2):Option (Rat × Rat) :=
 match st with
 | none=>none
 | some (lo,hi) =>
  if ao e.1 e.2 b - ao e.1 e.2 a=0 then (if ao e.1 e.2 a≤0 then none else some (lo,hi))
  else if 0 < ao e.1 e.2 b - ao e.1 e.2 a then some (lW lo (-ao e.1 e.2 a / (ao e.1 e.2 b - ao e.1 e.2 a)),hi)
  else some (lo,lX hi (-ao e.1 e.2 a / (ao e.1 e.2 b - ao e.1 e.2 a)))
def rj (Q:List Q2) (a b:Q2):Option (Rat × Rat):=match (aY Q).foldl (yo a b) (some (0,1)) with
 | none=>none
 | some (lo,hi)=>if hi≤lo then none else some (lo,hi)
def g7 (L:List PV) (s:XV):(RV × RV) × Bool × Int :=
 if bo L=0∧s.1.canon∧s.2.canon then (match rj (aR L) s.1.p s.2.p with | some (lo,hi)=>((RV.of lo,RV.of hi),true,0) | none=>((c4,c4),false,0)) else ((c4,c4),false,1)
abbrev QL:=Option (List Q2 × Nat)
def QL.val:QL→Value
 | none=>.slice none 0 0
 | some i=>.slice (some ⟨0,0,none⟩) i.1.length i.2
def QL.ah:QL→List ai
 | none=>[]
 | some i=>[.flat false i.1.length 6 (bG i.1)]
def QL.list:QL→List Q2
 | none=>[]
 | some i=>i.1
def b8 (R:List Q2):Option ai:=match R.length with
 | 0=>none
 | n+1=>some (.flat true (n+1) 6 (bG R))
def RV.c1 (x:RV):List Value:=[.bool x.1,.string x.2.1,.string x.2.2]
def PL.fit (i:PL):Prop:=i.list.length≤1099511627776∧∀ v∈i.list,v.sz 2048
def DH:bC:={ ι:=PV,args:=fun i=>[i.v],pre:=fun i=>i.sz 2048,val:=fun i=>.bool (decide (¬ i.canon)) }
def dF:cl:={ ι:=PL,args:=fun i=>[i.val],ah:=PL.ah,pre:=PL.fit,val:=fun i=>.bool (!dB i.list),new:=fun _=>none }
def bd:cl:={ ι:=PL,args:=fun i=>[i.val],ah:=PL.ah,pre:=PL.fit,val:=fun i=>.int .i64 (bo i.list),new:=fun _=>none }
def m8:cl:={ ι:=PL × PV,args:=fun i=>[i.1.val,i.2.v],ah:=fun i=>i.1.ah,pre:=fun i=>i.1.fit∧i.2.sz 2048,val:=fun i=>.int .i64 (fp (aR i.1.list) i.2.p),new:=fun _=>none }
def kI:cl:={ ι:=PL × PV,args:=fun i=>[i.1.val,i.2.v],ah:=fun i=>i.1.ah,pre:=fun i=>i.1.fit∧i.2.sz 2048,val:=fun i=>ZE.v (ri i.1.list i.2),new:=fun _=>none }
def qC:bC:={ ι:=rJ,args:=fun i=>[i.1.v,i.2.1.v,i.2.2.v],pre:=D1,val:=fun i=>(RV.of (ao i.1.p i.2.1.p i.2.2.p)).v }
def dC:cl:={ ι:=QL,args:=fun i=>[i.val],ah:=QL.ah,pre:=fun i=>i.list.length≤549755813888∧∀ v∈i.list,Q2.sz 262144 v,val:=fun i=>dn i.ah.length (fg i.list).length,new:=fun i=>b8 (fg i.list) }
def cA:cl:={ ι:=PL × oE,args:=fun i=>[i.1.val,i.2.1.v,i.2.2.v],ah:=fun i=>i.1.ah,pre:=fun i=>i.1.fit∧i.2.1.sz 2048∧i.2.2.sz 2048,val:=fun i=>.tuple ⟨[dn i.1.ah.length (dp i.1.list i.2.1 i.2.2).1.length,.int .i64 (dp i.1.list i.2.1 i.2.2).2]⟩,new:=fun i=>b8 (dp i.1.list i.2.1 i.2.2).1 }
def rK.fit (i:rK):Prop:=(i.1.fit∧i.2.fit)
def D4 (A B:List PV):Prop:=bo A=0→bo B=0→Pt (aR A) (aR B)
def jr:cl:={ ι:=rK,args:=fun i=>[i.1.val,i.2.DC i.1.ah.length],ah:=fun i=>i.1.ah++i.2.ah,pre:=fun i=>rK.fit i∧D4 i.1.list i.2.list,val:=fun i=>.tuple ⟨[dn (i.1.ah++i.2.ah).length (ia i.1.list i.2.list).1.length,.int .i64 (ia i.1.list i.2.list).2]⟩,new:=fun i=>b8 (ia i.1.list i.2.list).1 }
def P8 (s:Bool):cl:={ ι:=rK,args:=fun i=>[i.1.val,i.2.DC i.1.ah.length],ah:=fun i=>i.1.ah++i.2.ah,pre:=rK.fit,val:=fun i=>.tuple ⟨[.bool (QX s i.1.list i.2.list).1,.int .i64 (QX s i.1.list i.2.list).2]⟩,new:=fun _=>none }
def mN:cl:={ ι:=rK,args:=fun i=>[i.1.val,i.2.DC i.1.ah.length],ah:=fun i=>i.1.ah++i.2.ah,pre:=rK.fit,val:=fun i=>.tuple ⟨[(nr i.1.list i.2.list).1.v,.int .i64 (nr i.1.list i.2.list).2]⟩,new:=fun _=>none }
def mC:cl:={ ι:=PL × XV,args:=fun i=>[i.1.val,i.2.v],ah:=fun i=>i.1.ah,pre:=fun i=>i.1.fit∧i.2.1.sz 2048∧i.2.2.sz 2048,val:=fun i=>.tuple ⟨[(g7 i.1.list i.2).1.1.v,(g7 i.1.list i.2).1.2.v,.bool (g7 i.1.list i.2).2.1,.int .i64 (g7 i.1.list i.2).2.2]⟩,new:=fun _=>none }
def tq (a b p:PV):Bool:=decide (p≠a∧p≠b∧aZ (ao a.p b.p p.p) 0≤0)
def sZ:cl:={ ι:=rJ,args:=fun i=>[i.2.2.v,.pointer (some ⟨0,0,none⟩),.pointer (some ⟨1,0,none⟩)],ah:=fun i=>[.flat false 1 6 (fun _=>i.1.cells),.flat false 1 6 (fun _=>i.2.1.cells)],pre:=fun i=>i.1.sz 2048∧i.2.1.sz 2048∧i.2.2.sz 2048,val:=fun i=>.bool (tq i.1 i.2.1 i.2.2),new:=fun _=>none }
def vl (L:List PV) (i:Nat):Prop:=∀ p∈L.take i,p.canon
theorem Lq (L:List PV):vl L 0:=fun p hp=>by simp at hp
theorem Me {L:List PV} {i:Nat} {p:PV} (h:vl L i) (hp:L[i]?=some p) (hc:p.canon):vl L (i+1):=fun q hq=>by
 rw [List.take_add_one,hp] at hq;simp only [Option.toList_some,List.mem_append,List.mem_singleton] at hq;rcases hq with hq | rfl
 ·exact h q hq
 ·exact hc
theorem M0 {L:List PV} (h:vl L L.length):dB L=false:=by
 cases e:dB L
 ·rfl
 ·obtain ⟨p,hp,hg⟩:=List.any_eq_true.1 e;rw [vl,List.take_length] at h;exact absurd (h p hp) (of_decide_eq_true hg)
theorem si {L:List PV} {n j:Nat} (hn:n=L.length) (h:j < n):∃ a b:PV,cW L j=a.cells∧cW L (aX n j)=b.cells∧(a∈L∧b∈L)∧(aY (aR L))[j]?=some (a.p,b.p)∧aX n j < n∧a=jg L j∧b=jg L (aX n j):=by
 have hl:=cI h;refine ⟨jg L j,jg L (aX n j),sh (by omega),sh (by omega),⟨o7 (by omega),o7 (by omega)⟩,?_,hl,rfl,rfl⟩
 rw [kh (by omega),kh (by omega)]
 exact qf (ig (by rw [c0]; omega)) (by rw [c0,← hn]; exact ig (by rw [c0]; show aX n j < _; omega))
theorem M1 {α β:Type} {f:β→α→β} {l:List α} {z:β} {j:Nat} {e:α} (h:l[j]?=some e):(l.take (j+1)).foldl f z=f ((l.take j).foldl f z) e:=by
 rw [List.take_add_one,h,List.foldl_append]; rfl
theorem UG (L:List PV):(aY (aR L)).take L.length=aY (aR L):=by
 rw [← c0 L,← ll (aR L),List.take_length]
def uX (Q:List Q2) (p:Q2) (j:Nat):Int:=((aY Q).take j).foldl (Aq p) 1
theorem TD {Q:List Q2} {p a b:Q2} {j:Nat} (h:(aY Q)[j]?=some (a,b)):uX Q p (j+1)=if aZ (ao a b p) 0 < uX Q p j then aZ (ao a b p) 0 else uX Q p j:=by
 unfold uX;rw [M1 h];simp only [Aq]
theorem UH {L:List PV} {p:Q2}:uX (aR L) p L.length=fp (aR L) p:=by unfold uX; rw [UG]; rfl
theorem CO {L:List PV} (h:L.length < 3∨64 < L.length):bo L=4:=if_pos h
theorem OH {L:List PV} (h:¬ (L.length < 3∨64 < L.length)) (J:dB L=true):bo L=1:=by unfold bo; rw [if_neg h,if_pos J]
theorem OI {L:List PV} (h:¬ (L.length < 3∨64 < L.length)) (J:dB L=false) (h3:¬ iw (aR L)):bo L=8:=by unfold bo; rw [if_neg h,if_neg (by rw [J]; decide),if_neg (fun e=>h3 (zg.1 e))]
theorem He {L:List PV} (h:¬ (L.length < 3∨64 < L.length)) (J:dB L=false) (h3:iw (aR L)) (h4:¬ Ring (aR L)):bo L=15:=by
 unfold bo;rw [if_neg h,if_neg (by rw [J]; decide),if_pos (zg.2 h3),if_neg (fun e=>h4 ((Cd (by rw [c0]; omega) h3).1 e))]
theorem NP {L:List PV} (h:¬ (L.length < 3∨64 < L.length)) (J:dB L=false) (h3:iw (aR L)) (h4:Ring (aR L)):bo L=0:=by
 unfold bo;rw [if_neg h,if_neg (by rw [J]; decide),if_pos (zg.2 h3),if_pos ((Cd (by rw [c0]; omega) h3).2 h4)]
theorem Ce {L:List PV} (h:dB L=false) {p:PV} (hp:p∈L):p=cc p.p:=by
 have hc:p.canon:=Decidable.byContradiction fun e=>by
  have:dB L=true:=List.any_eq_true.2 ⟨p,hp,decide_eq_true e⟩;rw [h] at this; cases this
 exact Prod.ext hc.1 hc.2
def x9 (Q:List Q2) (i:Nat):Prop:=∀ k,0 < k→k≤i→gq (aq Q 0) (aq Q k)
theorem Lr (Q:List Q2):x9 Q 0:=fun k h0 h=>by omega
theorem Mf {Q:List Q2} {i:Nat} (h:x9 Q i) (J:gq (aq Q 0) (aq Q (i+1))):x9 Q (i+1):=fun k h0 hk=>by
 rcases Nat.lt_or_eq_of_le hk with e | e
 ·exact h k h0 (by omega)
 ·rw [e]; exact J
theorem M3 {Q:List Q2} {i:Nat} (h:x9 Q i) (hi:i+1=Q.length):iw Q:=fun k h0 hk=>h k h0 (by omega)
theorem Pu {a b:Q2}:gq a b↔0 < fI b a:=by
 rw [← zo];have h1:=L6 a b;have J:=L6 b a;have h3:=UC (p:=a) (q:=b);have h4:=uM (a:=a) (b:=b);have h5:=uM (a:=b) (b:=a);have h6:fI a b < 0↔gq a b:=zo;have h7:fI b a < 0↔gq b a:=zo;have h8:¬ (gq a b∧gq b a):=fun ⟨x,y⟩=>by unfold gq at x y; grind
 constructor
 ·intro h;have:¬ fI b a < 0:=fun e=>h8 ⟨h6.1 h,h7.1 e⟩
  omega
 ·intro h;refine Decidable.byContradiction fun hc=>?_
  have h9:iE b a:=h5.2 hc;have A0:iE a b:=h4.2 (by omega)
  have:a=b:=NL A0 h9;have:=h3.2 (oY.2 this);omega
theorem abg {L:List PV} {j:Nat} {a b:PV} (h:j < L.length) (ha:a=jg L j) (hb:b=jg L (aX L.length j)) (J:L.any (tq a b)=false):¬ zJ (aR L) j:=by
 rintro ⟨q,hq,h3,h4,h5⟩
 obtain ⟨p,hp,rfl⟩:=List.mem_map.1 hq;rw [c0] at h4 h5;rw [← kh h,← ha] at h3 h5;rw [← kh (cI h),← hb] at h4 h5;have:L.any (tq a b)=true:=List.any_eq_true.2 ⟨p,hp,decide_eq_true ⟨fun e=>h3 (by rw [e]),fun e=>h4 (by rw [e]),Int.not_lt.1 fun e=>Rat.not_lt.2 h5 (uB.1 e)⟩⟩
 rw [J] at this; cases this
theorem Yu {L:List PV} {j:Nat} {a b p:PV} (hc:dB L=false) (h:j < L.length) (ha:a=jg L j) (hb:b=jg L (aX L.length j)) (hp:p∈L) (J:tq a b p=true):zJ (aR L) j:=by
 obtain ⟨h3,h4,h5⟩:=of_decide_eq_true J;have ca:=Ce hc (p:=a) (by rw [ha]; exact o7 h)
 have cb:=Ce hc (p:=b) (by rw [hb]; exact o7 (cI h))
 have cp:=Ce hc hp;refine ⟨p.p,List.mem_map_of_mem hp,?_,?_,?_⟩
 ·rw [← kh h,← ha]; exact fun e=>h3 (by rw [cp,ca,e])
 ·rw [c0,← kh (cI h),← hb]; exact fun e=>h4 (by rw [cp,cb,e])
 ·rw [c0,← kh h,← ha,← kh (cI h),← hb]; exact Rat.not_lt.1 fun e=>by have:=uB.2 e; omega
theorem afj {p:PV} (h:true=dB [p]):p.canon→False:=fun hc=>by
 unfold dB at h;simp [hc] at h
theorem adC {p:PV} (h:false=dB [p]):p.canon:=Decidable.byContradiction fun hc=>by
 unfold dB at h;simp [hc] at h
theorem QY {p q:PV} (h:true=dB [p,q]):p.canon→q.canon→False:=fun h1 J=>by
 unfold dB at h;simp [h1,J] at h
theorem P9 {p q:PV} (h:false=dB [p,q]):p.canon∧q.canon:=by
 unfold dB at h;simp at h;exact h
theorem Pv {L:List PV} {p:PV} (h:¬ (bo L=0∧p.canon)):ri L p=(0,1):=if_neg h
theorem OJ {L:List PV} {p:PV} (h:bo L=0∧p.canon):ri L p=(fp (aR L) p.p,0):=if_pos h
def vD:bC:={ ι:=rJ,args:=fun i=>[i.1.v,i.2.1.v,i.2.2.v],pre:=D1,val:=fun i=>.bool (decide (i.2.1≠i.2.2)) }
def vE:bC:={ ι:=rJ,args:=fun i=>[i.1.v,i.2.1.v,i.2.2.v],pre:=D1,val:=fun i=>.bool (decide (aZ (ao i.1.p i.2.1.p i.2.2.p) 0≠0)) }
def s3 (b:Bool) (Q:List Q2):List Q2:=match b with
 | false=>gE Q
 | true=>jI Q
def ki (f g:FuncId):cl:={ ι:=QL × Bool,args:=fun i=>[i.1.val,.func (.func (match i.2 with | false=>f | true=>g)) #[] #[]],ah:=fun i=>i.1.ah,pre:=fun i=>i.1.list.length≤549755813888∧∀ v∈i.1.list,Q2.sz 262144 v,val:=fun i=>dn i.1.ah.length (s3 i.2 i.1.list).length,new:=fun i=>b8 (s3 i.2 i.1.list) }
theorem zh {R:List Q2} {B:ai} (h:b8 R=some B):B.jM=true:=by
 unfold b8 at h
 split at h
 ·cases h
 ·cases h; rfl
def qU (Q:List Q2) (j:Nat):List Q2:=((aY Q).take j).flatMap nk
def s6 (Q:List Q2) (j:Nat):List Q2:=(List.range j).flatMap (n5 Q)
theorem UI {Q:List Q2} {j:Nat} {a b:PV} (h:j < Q.length) (ha:a=cc (aq Q j)) (hb:b=cc (aq Q (aX Q.length j))):qU Q (j+1)=qU Q j++if a≠b then [aq Q j] else []:=by
 unfold qU;rw [MW (qf (ig h) (ig (cI h)))]
 congr 1
 show (if fI (aq Q j) (aq Q (aX Q.length j))≠0 then [aq Q j] else [])=_
 by_cases e:aq Q j=aq Q (aX Q.length j)
 ·rw [if_neg (fun h=>h (oY.2 e)),if_neg (fun h=>h (by rw [ha,hb,e]))]
 ·rw [if_pos (fun h=>e (oY.1 h)),if_pos (fun h=>e ((Ym ha hb).1 h))]
theorem UJ {Q:List Q2} {j:Nat} {a b c:Q2} (ha:a=aq Q (db Q.length j)) (hb:b=aq Q j) (hc:c=aq Q (aX Q.length j)):s6 Q (j+1)=s6 Q j++if aZ (ao a b c) 0≠0 then [b] else []:=by
 unfold s6;rw [List.range_succ,List.flatMap_append,List.flatMap_singleton,Xd ha hb hc rfl]
theorem M4 (Q:List Q2):qU Q Q.length=gE Q:=by unfold qU gE; rw [← ll Q,List.take_length]
theorem Xi (Q:List Q2) (j:Nat):(qU Q j).length≤Q.length:=Yn Q j
theorem Xj (Q:List Q2) (j:Nat):(s6 Q j).length≤j:=Yo Q j
theorem NQ {L:List Q2} {n j:Nat} {a b d:PV} (hn:n=L.length) (h:j < n) (ha:a.p=aq L (db n j)) (hb:b=cc (aq L j)) (hd:d=cc (aq L (aX n j))):∃ z:Bool,vD.val (a,b,d)=.bool z∧qU L (j+1)=qU L j++if z=true then [aq L j] else []:=by
 refine ⟨decide (b≠d),rfl,?_⟩;rw [UI (a:=b) (b:=d) (by omega) hb (by rw [← hn]; exact hd)]
 by_cases e:b=d
 ·rw [if_neg (fun h=>h e),if_neg (by rw [decide_eq_false (fun h=>h e)]; decide)]
 ·rw [if_pos e,if_pos (decide_eq_true e)]
theorem NR {L:List Q2} {n j:Nat} {a b d:PV} (hn:n=L.length) (h:j < n) (ha:a.p=aq L (db n j)) (hb:b=cc (aq L j)) (hd:d=cc (aq L (aX n j))):∃ z:Bool,vE.val (a,b,d)=.bool z∧s6 L (j+1)=s6 L j++if z=true then [aq L j] else []:=by
 have eb:b.p=aq L j:=by rw [hb,gJ]
 have ed:d.p=aq L (aX n j):=by rw [hd,gJ]
 refine ⟨decide (aZ (ao a.p b.p d.p) 0≠0),rfl,?_⟩;rw [UJ (a:=a.p) (b:=b.p) (c:=d.p) (by rw [← hn]; exact ha) eb (by rw [← hn]; exact ed),eb]
 by_cases e:aZ (ao a.p (aq L j) d.p) 0=0
 ·rw [if_neg (fun h=>h e),if_neg (by rw [decide_eq_false (fun h=>h e)]; decide)]
 ·rw [if_pos e,if_pos (decide_eq_true e)]
theorem M5 (Q:List Q2):s6 Q Q.length=jI Q:=rfl
theorem VS (Q:List Q2):fg Q=if (s3 true (s3 false Q)).length < 3 then [] else eI (s3 true (s3 false Q)):=rfl
theorem xB {R:List Q2} {n:Nat} (h:R.length=n) (h0:0 < n):b8 R=some (.flat true n 6 (bG R)):=by
 unfold b8;rw [h];cases n with
 | zero=>omega
 | succ n=>rfl
theorem xC {k n:Nat} (h0:0 < n):dn k n=.slice (some ⟨k,0,none⟩) n aI:=by
 cases n with
 | zero=>omega
 | succ n=>rfl
def I3 (f:FuncId):cl:={ ι:=QL × oE,args:=fun i=>[.func (.func f) #[] #[.pointer (some ⟨i.1.ah.length,0,none⟩),.pointer (some ⟨i.1.ah.length+1,0,none⟩),.pointer (some ⟨i.1.ah.length+2,0,none⟩)]],ah:=fun i=>i.1.ah++[.aP false 1 [[i.1.val]],.aP false 6 [i.2.1.cells], .aP false 6 [i.2.2.cells]],pre:=fun i=>i.1.list.length≤1073741824∧(∀ v∈i.1.list,Q2.sz 2048 v)∧i.2.1.sz 2048∧i.2.2.sz 2048,val:=fun i=>dn (i.1.ah.length+3) (cB (cU i.2.1.p i.2.2.p) i.1.list).length,new:=fun i=>b8 (cB (cU i.2.1.p i.2.2.p) i.1.list) }
theorem yc {a b p:Q2} {k l m:Nat} (ha:Q2.sz k a) (hb:Q2.sz l b) (hp:Q2.sz m p):QB (ao a b p) (l+k+1+(m+k+1)+(l+k+1+(m+k+1))+1):=uC (pg hb ha) (pg hp ha)
theorem M6 {m:Q3} {L:List Q2} {j:Nat} {a b w:PV} {O:List Q2} {x y:Rat} (gr:(aY L)[j]?=some (a.p,b.p)) (hO:O=((aY L).take j).flatMap (jX m)) (hx:x=aj m a.p) (hy:y=aj m b.p) (hw:w.p=atR a.p b.p (x / (x - y))) :
  ((aY L).take (j+1)).flatMap (jX m)=O++((if aZ x 0 ≥ 0 then [a.p] else [])++if aZ x 0*aZ y 0 < 0 then [w.p] else []):=by
 rw [MW gr,← hO,jX];subst hx; subst hy
 congr 1
 unfold im fG gI;rw [hw]
theorem NS (m:Q3) (L:List Q2):((aY L).take L.length).flatMap (jX m)=cB m L:=by rw [Hd,← ll L,List.take_length]
theorem Yv (m:Q3) (L:List Q2) (j:Nat):(((aY L).take j).flatMap (jX m)).length≤2*L.length:=by
 have:=Gb m ((aY L).take j);rw [List.length_take,ll] at this;omega
theorem OK {L:List PV} (h:dB L=false):aC (aR L)=L:=by
 unfold aC aR;rw [List.map_map];refine (List.map_congr_left (fun p hp=>?_)).trans (List.map_id L)
 exact (Ce h hp).symm
theorem NT {L:List PV} (h:bo L=0):dB L=false:=by
 cases e:dB L
 ·rfl
 ·obtain ⟨p,hp,hc⟩:=List.any_eq_true.1 e;exact absurd ((nQ h).2.1 p hp) (of_decide_eq_true hc)
theorem Cu {L:List PV} (h:bo L=0):bG (aR L)=cW L:=by unfold bG; rw [OK (NT h)]
theorem Pw {L:List PV} {a b:PV} (h:¬ (bo L=0∧a.canon∧b.canon)):dp L a b=([],1):=if_neg h
theorem Px {L:List PV} {a b:PV} (h:bo L=0∧a.canon∧b.canon) (J:a=b):dp L a b=([],12):=by unfold dp; rw [if_pos h,if_pos J]
theorem OL {L:List PV} {a b:PV} {C R:List Q2} (h:bo L=0∧a.canon∧b.canon) (J:a≠b) (hC:C=cB (cU a.p b.p) (aR L)) (hR:R=fg C):dp L a b=lY R:=by unfold dp; rw [if_pos h,if_neg J,← hC,← hR]
theorem Hf {R:List Q2} (h:R.length=0):lY R=([],11):=if_pos h
theorem OM {R:List Q2} (h:64 < R.length):lY R=([],4):=by unfold lY; rw [if_neg (by omega),if_pos h]
theorem Df {R:List Q2} (h:¬ R.length=0) (J:¬ 64 < R.length):lY R=(R,0):=by unfold lY; rw [if_neg h,if_neg J]
theorem Yw {k:Nat} {m:Q3} {P:List Q2} (sm:Q3.sz k m) (hP:∀ v∈P,Q2.sz 2048 v) (hk:k≤12291):∀ v∈cB m P,Q2.sz 262144 v:=by
 intro v hv;rcases OC hv with ⟨h1,_⟩ | ⟨e,he,hx⟩
 ·exact Q2.mono (hP v h1) (by decide)
 ·have hx:=rX hx;rw [hx.2.1];have h1:=hP _ (lu he).1;have J:=hP _ (lu he).2;have s1:=Po sm h1;have s2:=Po sm J;have:=z9 h1 J (s1.div (s1.sub s2) (by omega))
  exact Q2.mono this (by omega)
theorem Cv {P:List Q2} {a b:Q2} (hl:P.length≤1073741824) (hP:∀ v∈P,Q2.sz 2048 v) (ha:Q2.sz 2048 a) (hb:Q2.sz 2048 b):(cB (cU a b) P).length≤549755813888∧∀ v∈cB (cU a b) P,Q2.sz 262144 v :=
 ⟨by have:=Xb (cU a b) P; omega,Yw (k:=12291) (Q3.mono (Pn ha hb) (by decide)) hP (Nat.le_refl _)⟩
def afk (v:Value) (q:Nat):Nat→Value
 | 0=>v
 | _+1=>dn 5 q
def afl (F:Nat→List Value) (q:Nat):Nat→ay
 | 0=>[]
 | _+1=>Ao 6 F q
theorem Ik {A B:List PV} (h:¬ (bo A=0∧bo B=0)):ia A B=([],1):=if_neg h
theorem Py {A B:List PV} {R:List Q2} (h:bo A=0∧bo B=0) (hR:R=jq (aR A) (aR B) B.length):ia A B=lY R:=by
 unfold ia;rw [if_pos h,hR,← c0 B,VR]
theorem FI {P Q C R:List Q2} {j:Nat} {a b:Q2} (gr:(aY Q)[j]?=some (a,b)) (hC:C=cB (cU a b) (jq P Q j)) (hR:R=fg C):R=jq P Q (j+1):=by
 rw [UE gr,hR,hC]; rfl
def rk (s:Bool):bC:={ ι:=Int,args:=fun z=>[.int .i64 z],pre:=fun _=>True,val:=fun z=>.bool (rM s z) }
abbrev SI:=((List Q2 × Nat) × (List Q2 × Nat)) × FuncId × Bool
def gN (o:Option (Q2 × Q2)):XV × Bool:=match o with
 | some e=>(RX e,true)
 | none=>(nj,false)
def SI.ok (f1 f2 f3:FuncId) (i:SI):Prop:=(i.2=(f1,true)∨i.2=(f2,false)∨i.2=(f3,true))∧(i.1.1.1.length≤1073741824∧∀ v∈i.1.1.1,Q2.sz 2048 v)∧i.1.2.1.length≤1073741824∧∀ v∈i.1.2.1,Q2.sz 2048 v
def yp (f1 f2 f3:FuncId) (V:Bool→List Q2→List Q2→Option (Q2 × Q2)):cl:={ ι:=SI,args:=fun i=>[.slice (some ⟨0,0,none⟩) i.1.1.1.length i.1.1.2,.slice (some ⟨1,0,none⟩) i.1.2.1.length i.1.2.2,.func (.func i.2.1) #[] #[]],ah:=fun i=>[.flat false i.1.1.1.length 6 (bG i.1.1.1),.flat false i.1.2.1.length 6 (bG i.1.2.1)],pre:=SI.ok f1 f2 f3,val:=fun i=>.tuple ⟨[(gN (V i.2.2 i.1.1.1 i.1.2.1)).1.v,.bool (gN (V i.2.2 i.1.1.1 i.1.2.1)).2]⟩,new:=fun _=>none }
def nt (s:Bool) (B:List Q2) (e:Q2 × Q2):Bool:=B.all fun x=>rM s (aZ (ao e.1 e.2 x) 0)
def tv (s:Bool) (a b x:Q2):Bool:=!rM s (aZ (ao a b x) 0)
theorem Yx {s:Bool} {B:List Q2} {a b:Q2} (h:B.any (tv s a b)=false):nt s B (a,b)=true:=by
 unfold nt;rw [List.all_eq_true];intro x hx;cases e:rM s (aZ (ao a b x) 0)
 ·have:B.any (tv s a b)=true:=List.any_eq_true.2 ⟨x,hx,by unfold tv; rw [e]; rfl⟩
  rw [h] at this; cases this
 ·rfl
theorem Hg {s:Bool} {B:List Q2} {a b x:Q2} (hx:x∈B) (h:tv s a b x=true):nt s B (a,b)=false:=by
 unfold nt;cases e:B.all fun x=>rM s (aZ (ao (a,b).1 (a,b).2 x) 0)
 ·rfl
 ·have:=List.all_eq_true.1 e x hx;unfold tv at h;rw [show rM s (aZ (ao a b x) 0)=true from this] at h
  cases h
theorem Xk {s:Bool} {A B:List Q2} {j:Nat} {e:Q2 × Q2} (h:nY (nt s B) (aY A) j) (he:(aY A)[j]?=some e) (J:nt s B e=true):iA s A B=some e:=by
 unfold iA;rw [show (fun e:Q2 × Q2=>B.all fun x=>rM s (aZ (ao e.1 e.2 x) 0))=nt s B from rfl]
 have hj:=(List.getElem?_eq_some_iff.1 he).1;rw [← List.take_append_drop j (aY A),List.find?_append,List.find?_eq_none.2,List.drop_eq_getElem_cons hj]
 ·rw [List.find?_cons,(List.getElem?_eq_some_iff.1 he).2,J]; rfl
 ·intro x hx hc;have:((aY A).take j).any (nt s B)=true:=List.any_eq_true.2 ⟨x,hx,hc⟩;rw [show ((aY A).take j).any (nt s B)=false from h] at this
  cases this
theorem Xl {s:Bool} {A B:List Q2} {n:Nat} (hn:n=A.length) (h:nY (nt s B) (aY A) n):iA s A B=none:=by
 unfold iA;rw [List.find?_eq_none];intro x hx hc;rw [hn,← ll A] at h;have:=FG h;have J:(aY A).any (nt s B)=true:=List.any_eq_true.2 ⟨x,hx,hc⟩;rw [this] at J;cases J
theorem Yy {s:Bool} {A B:List Q2} {x:XV} (h:gN (iA s A B)=(x,true)):gN (kt s A B)=(x,true):=by
 unfold kt;cases e:iA s A B with
 | none=>rw [e] at h; cases h
 | some y=>rw [e] at h; exact h
theorem Yz {s:Bool} {A B:List Q2} {x:XV} (h:gN (iA s A B)=(x,false)):gN (kt s A B)=gN (iA s B A):=by
 unfold kt;cases e:iA s A B with
 | none=>rfl
 | some y=>rw [e] at h; cases h
theorem Dg {A B:List PV} (h:¬ (bo A=0∧bo B=0)):nr A B=(nj,1):=if_neg h
theorem YA {A B:List PV} {x:XV} {z:Bool} (h:bo A=0∧bo B=0) (J:gN (kt true (aR A) (aR B))=(x,z)):nr A B=if z=true then (x,0) else (nj,6):=by
 unfold nr;rw [if_pos h];cases e:kt true (aR A) (aR B) with
 | none=>rw [e] at J; cases J; rfl
 | some y=>rw [e] at J; cases J; rfl
def oc:bC:={ ι:=PV,args:=fun i=>[i.v],pre:=fun _=>True,val:=fun i=>.bool (decide (¬ i.sz 12)) }
def m9 (L:List PV):Bool:=decide ((10 < L.length∧L.length < 63)∨66 < L.length) || uW 12 L
def kK:cl:={ ι:=PL,args:=fun i=>[i.val],ah:=PL.ah,pre:=fun i=>i.list.length≤9223372036854775807,val:=fun i=>.bool (m9 i.list),new:=fun _=>none }
theorem Mg {L:List PV} (h:(10 < L.length∧L.length < 63)∨66 < L.length):m9 L=true:=by unfold m9; rw [decide_eq_true h]; rfl
theorem UK {L:List PV} (h:¬ ((10 < L.length∧L.length < 63)∨66 < L.length)):m9 L=uW 12 L:=by unfold m9; rw [decide_eq_false h]; rfl
theorem M7 {L:List PV} (h:m9 L=false):(L.length≤10∨(63≤L.length∧L.length≤66))∧∀ p∈L,p.sz 12:=by
 unfold m9 at h;rw [Bool.or_eq_false_iff] at h;have h1:=of_decide_eq_false h.1;exact ⟨by omega,S6 h.2⟩
theorem CP {n1 n2:Bool} {a1 b1 a2 b2:ByteArray} (h:12 < a1.size∨12 < b1.size∨12 < a2.size∨12 < b2.size):Value.bool true=oc.val ((n1,a1,b1),(n2,a2,b2)):=by
 have hn:¬ PV.sz 12 ((n1,a1,b1),(n2,a2,b2)):=fun e=>by
  have e:(a1.size≤12∧b1.size≤12)∧a2.size≤12∧b2.size≤12:=e;omega
 exact congrArg Value.bool (decide_eq_true hn).symm
theorem abh {n1 n2:Bool} {a1 b1 a2 b2:ByteArray} (h:¬ (12 < a1.size∨12 < b1.size∨12 < a2.size∨12 < b2.size)):Value.bool false=oc.val ((n1,a1,b1),(n2,a2,b2)):=by
 refine (congrArg Value.bool (decide_eq_false fun e=>e ?_)).symm
 show (a1.size≤12∧b1.size≤12)∧a2.size≤12∧b2.size≤12
 omega
open Go
theorem afm:bH 0=c4.v:=by
 show Value.agg ⟨[.bool false,.string (nb 0),.string (fw 1)]⟩=_
 rw [oZ]; rfl
open Go
def Ar (a b:Q2) (st:Option (Rat × Rat)) (e:Q2 × Q2):Option (Rat × Rat) :=
 match st with
 | none=>none
 | some (lo,hi) =>
  if ao e.1 e.2 a≤0∧ao e.1 e.2 b≤0 then none
  else if 0 < ao e.1 e.2 a∧0 < ao e.1 e.2 b then some (lo,hi)
  else if 0 < ao e.1 e.2 b then some (lW lo (ao e.1 e.2 a / (ao e.1 e.2 a - ao e.1 e.2 b)),hi)
  else some (lo,lX hi (ao e.1 e.2 a / (ao e.1 e.2 a - ao e.1 e.2 b)))
def tw (st:Option (Rat × Rat)):Option (Rat × Rat):=match st with
 | none=>none
 | some (lo,hi)=>if hi≤lo then none else some (lo,hi)
theorem YB (Q:List Q2) (a b:Q2):rj Q a b=tw ((aY Q).foldl (yo a b) (some (0,1))):=rfl
theorem max_le (x y:Rat):x≤lW x y∧y≤lW x y:=by unfold lW; split <;> grind
theorem min_le (x y:Rat):lX x y≤x∧lX x y≤y:=by unfold lX; split <;> grind
theorem max_eq {x y:Rat} (h:y≤x):lW x y=x:=by unfold lW; rw [if_neg (by grind)]
theorem min_eq {x y:Rat} (h:x≤y):lX x y=x:=by unfold lX; rw [if_neg (by grind)]
theorem GH {a b:Q2}:∀ l:List (Q2 × Q2),l.foldl (yo a b) none=none
 | []=>rfl
 | e::l=>by rw [List.foldl_cons]; exact GH l
theorem zi {a b:Q2}:∀ l:List (Q2 × Q2),l.foldl (Ar a b) none=none
 | []=>rfl
 | e::l=>by rw [List.foldl_cons]; exact zi l
theorem M8 (a b:Q2) (lo hi:Rat) (e:Q2 × Q2):yo a b (some (lo,hi)) e=if ao e.1 e.2 b - ao e.1 e.2 a=0 then (if ao e.1 e.2 a≤0 then none else some (lo,hi))
  else if 0 < ao e.1 e.2 b - ao e.1 e.2 a then some (lW lo (-ao e.1 e.2 a / (ao e.1 e.2 b - ao e.1 e.2 a)),hi)
  else some (lo,lX hi (-ao e.1 e.2 a / (ao e.1 e.2 b - ao e.1 e.2 a))):=rfl
theorem M9 (a b:Q2) (lo hi:Rat) (e:Q2 × Q2):Ar a b (some (lo,hi)) e=if ao e.1 e.2 a≤0∧ao e.1 e.2 b≤0 then none
  else if 0 < ao e.1 e.2 a∧0 < ao e.1 e.2 b then some (lo,hi)
  else if 0 < ao e.1 e.2 b then some (lW lo (ao e.1 e.2 a / (ao e.1 e.2 a - ao e.1 e.2 b)),hi)
  else some (lo,lX hi (ao e.1 e.2 a / (ao e.1 e.2 a - ao e.1 e.2 b))):=rfl
theorem NU {a b:Q2}:∀ (l:List (Q2 × Q2)) (lo hi:Rat),hi≤lo→tw (l.foldl (yo a b) (some (lo,hi)))=none:=by
 intro l
 induction l with
 | nil=>intro lo hi h; unfold tw; simp only [List.foldl_nil]; rw [if_pos h]
 | cons e l ih =>
  intro lo hi h;rw [List.foldl_cons,M8]
  split
  ·split
   ·rw [GH]; rfl
   ·exact ih _ _ h
  ·split
   ·refine ih _ _ ?_;have:=(max_le lo (-ao e.1 e.2 a / (ao e.1 e.2 b - ao e.1 e.2 a))).1;grind
   ·refine ih _ _ ?_;have:=(min_le hi (-ao e.1 e.2 a / (ao e.1 e.2 b - ao e.1 e.2 a))).1;grind
theorem YC {x y:Rat} (h:y - x≠0):(-x / (y - x))*(y - x)=-x∧-x / (y - x)=x / (x - y):=by
 refine ⟨by rw [Rat.div_def]; grind,?_⟩
 have J:x - y≠0:=by grind
 have e1:(-x / (y - x))*(y - x)=-x:=by rw [Rat.div_def]; grind
 have e2:(x / (x - y))*(x - y)=x:=by rw [Rat.div_def]; grind
 have:(y - x)*(-x / (y - x) - x / (x - y))=0:=by grind
 have:=(Rat.mul_eq_zero.1 this).resolve_left h;grind
theorem Cf {a b k:Rat} (hk:0 < k) (h:a*k≤b*k):a≤b:=by
 by_cases h1:a≤b
 ·exact h1
 ·have:=Rat.mul_pos (show 0 < a - b by grind) hk
  grind
theorem ON {a b:Q2}:∀ (l:List (Q2 × Q2)) (lo hi:Rat),0≤lo→hi≤1→tw (l.foldl (Ar a b) (some (lo,hi)))=tw (l.foldl (yo a b) (some (lo,hi))):=by
 intro l
 induction l with
 | nil=>intro lo hi _ _; rfl
 | cons e l ih =>
  intro lo hi h0 h1;rw [List.foldl_cons,List.foldl_cons,M8,M9];generalize ao e.1 e.2 a=x;generalize ao e.1 e.2 b=y;by_cases hs:y - x=0
  ·rw [if_pos hs];by_cases hx:x≤0
   ·rw [if_pos ⟨hx,by grind⟩,if_pos hx,zi,GH]
   ·rw [if_neg (fun e=>hx e.1),if_pos ⟨by grind,by grind⟩,if_neg hx]
    exact ih _ _ h0 h1
  ·obtain ⟨ht,te⟩:=YC hs;rw [if_neg hs,te];rw [te] at ht;generalize x / (x - y)=t at ht;by_cases hp:0 < y - x
   ·rw [if_pos hp];by_cases hy:y≤0
    ·rw [if_pos ⟨by grind,hy⟩,zi,NU]
     ·rfl
     ·have J:1≤t:=Cf hp (by grind)
      have:=(max_le lo t).2;grind
    ·rw [if_neg (fun e=>hy e.2)]
     by_cases hx:0 < x
     ·rw [if_pos ⟨hx,by grind⟩]
      have J:t≤0:=Cf hp (by grind)
      rw [max_eq (by grind)]
      exact ih _ _ h0 h1
     ·rw [if_neg (fun e=>hx e.1),if_pos (by grind)]
      exact ih _ _ (by have:=(max_le lo t).1; grind) h1
   ·have hn:0 < x - y:=by grind
    rw [if_neg hp];by_cases hx:x≤0
    ·rw [if_pos ⟨hx,by grind⟩,zi,NU]
     ·rfl
     ·have J:t≤0:=Cf hn (by grind)
      have:=(min_le hi t).2;grind
    ·rw [if_neg (fun e=>hx e.1)]
     by_cases hy:0 < y
     ·rw [if_pos ⟨by grind,hy⟩]
      have J:1≤t:=Cf hn (by grind)
      rw [min_eq (by grind)]
      exact ih _ _ h0 h1
     ·rw [if_neg (fun e=>hy e.2),if_neg hy]
      exact ih _ _ h0 (by have:=(min_le hi t).1; grind)
def vm (Q:List Q2) (a b:Q2) (j:Nat):Option (Rat × Rat):=((aY Q).take j).foldl (Ar a b) (some (0,1))
theorem UL {Q:List Q2} {a b p q:Q2} {j:Nat} {lo hi x y:Rat} (h:vm Q a b j=some (lo,hi)) (he:(aY Q)[j]?=some (p,q)) (hx:x=ao p q a) (hy:y=ao p q b) :
  vm Q a b (j+1)=if x≤0∧y≤0 then none else if 0 < x∧0 < y then some (lo,hi) else if 0 < y then some (lW lo (x / (x - y)),hi) else some (lo,lX hi (x / (x - y))):=by
 unfold vm at *;rw [M1 he,h,M9];subst hx; subst hy;simp only
theorem UM {Q:List Q2} {a b:Q2} {j:Nat} (h:vm Q a b j=none):rj Q a b=none:=by
 rw [YB,← ON _ _ _ (by grind) (by grind)]
 have e:aY Q=(aY Q).take j++(aY Q).drop j:=(List.take_append_drop ..).symm;rw [e,List.foldl_append,show List.foldl (Ar a b) (some (0,1)) ((aY Q).take j)=none from h,zi]
 rfl
theorem VT {Q:List Q2} {a b:Q2} {n:Nat} (hn:n=Q.length):tw (vm Q a b n)=rj Q a b:=by
 unfold vm;rw [hn,← ll Q,List.take_length,ON _ _ _ (by grind) (by grind)]
 rfl
theorem Pz {L:List PV} {s:XV} (h:¬ (bo L=0∧s.1.canon∧s.2.canon)):g7 L s=((c4,c4),false,1):=if_neg h
theorem OO {L:List PV} {s:XV} (h:bo L=0∧s.1.canon∧s.2.canon) (J:rj (aR L) s.1.p s.2.p=none):g7 L s=((c4,c4),false,0):=by unfold g7; rw [if_pos h,J]
theorem YD {L:List PV} {s:XV} {lo hi:Rat} (h:bo L=0∧s.1.canon∧s.2.canon) (J:rj (aR L) s.1.p s.2.p=some (lo,hi)):g7 L s=((RV.of lo,RV.of hi),true,0):=by unfold g7; rw [if_pos h,J]
theorem Xm {lo hi:Rat} (h:hi≤lo):tw (some (lo,hi))=none:=if_pos h
theorem Xn {lo hi:Rat} (h:¬ hi≤lo):tw (some (lo,hi))=some (lo,hi):=if_neg h
theorem YE {L:List PV} {p q:PV} {lo hi:RV} (h:bo L=0∧p.canon∧q.canon) (J:rj (aR L) p.p q.p=some (lo.q,hi.q)) (c1:lo=RV.of lo.q) (c2:hi=RV.of hi.q):g7 L (p,q)=((lo,hi),true,0):=by
 have:=YD (s:=(p,q)) h J;rw [← c1,← c2] at this;exact this
open Go
open Go
abbrev II:=List (Int × Int)
def iq (x:Int × Int):Q2:=((x.1:Rat),(x.2:Rat))
def bt (l:II):List Q2:=l.map iq
def rN (l:II) (k:Nat):Int × Int:=l.getD k (0,0)
def nm (l:II) (r:Nat):List Value:=[.int .i64 (if r % 2=0 then (rN l (r / 2)).1 else (rN l (r / 2)).2)]
def il:cl:={ ι:=II,args:=fun i=>[.slice (some ⟨0,0,none⟩) (2*i.length) (2*i.length)],ah:=fun i=>[.flat false (2*i.length) 1 (nm i)],pre:=fun i=>(0 < i.length∧i.length≤1000000)∧∀ x∈i,x.1.natAbs < 256∧x.2.natAbs < 256,val:=fun i=>.slice (some ⟨1,0,none⟩) i.length aI,new:=fun i=>some (.flat true i.length 6 (bG (bt i))) }
theorem NV {l:II} {j:Nat} {x:Int × Int} (h:x=rN l j):nm l (2*j)=[.int .i64 x.1]:=by
 unfold nm;rw [if_pos (by omega),show 2*j / 2=j by omega,h]
theorem NW {l:II} {j:Nat} {x:Int × Int} (h:x=rN l j):nm l (2*j+1)=[.int .i64 x.2]:=by
 unfold nm;rw [if_neg (by omega),show (2*j+1) / 2=j by omega,h]
theorem OP {l:II} {j:Nat} (h:j < l.length):rN l j∈l∧l[j]?=some (rN l j):=by
 unfold rN;rw [List.getD_eq_getElem?_getD,List.getElem?_eq_getElem h];exact ⟨List.getElem_mem h,rfl⟩
theorem NX {l:II} {j:Nat} {x:Int × Int} (h:l[j]?=some x):bt (l.take (j+1))=bt (l.take j)++[iq x]:=by
 unfold bt;rw [List.take_add_one,h,List.map_append]
 rfl
theorem Cw (l:II) (rows:List (List Value)) (h:rows=(List.range (2*l.length)).map (nm l)):aH (.flat false (2*l.length) 1 (nm l)) (.aP true 1 rows) :=
 GB (by rw [h]; simp) (fun r hr=>by
  rw [h,List.getD_eq_getElem?_getD,List.getElem?_map,List.getElem?_range hr]
  rfl) (fun r hr=>rfl)
theorem Gd (x:Q2):(cc x).canon:=⟨by show RV.of x.1=RV.of (RV.of x.1).q; rw [RV.iz],by show RV.of x.2=RV.of (RV.of x.2).q; rw [RV.iz]⟩
def dw:II:=[(0,0),(4,0),(4,4),(0,4)]
def jE:II:=[(3,3),(7,3),(3,7)]
def j5:II:=[(4,1),(6,1),(4,3)]
def jF:II:=[(3,3),(4,3),(4,4),(3,4)]
theorem kc (L:List Q2):aR (aC L)=L:=by
 unfold aC aR;rw [List.map_map];refine (List.map_congr_left (fun p hp=>?_)).trans (List.map_id L)
 exact gJ p
theorem Na {L:List Q2}:∀ p∈aC L,p.canon:=fun p hp=>by
 obtain ⟨x,_,rfl⟩:=List.mem_map.1 hp;exact Gd x
theorem HH {l:II} (h1:3≤l.length∧l.length≤64) (J:D3 (bt l)=true) (h3:DG (bt l)=true):bo (aC (bt l))=0:=by
 unfold bo;rw [if_neg (by rw [r4]; unfold bt; rw [List.length_map]; omega),if_neg (fun e=>by obtain ⟨p,hp,hc⟩:=List.any_eq_true.1 e; exact of_decide_eq_true hc (Na p hp)),kc,if_pos J,if_pos h3]
theorem Hh:bo (aC (bt dw))=0:=HH (by decide) (by decide +kernel) (by decide +kernel)
theorem YF:bo (aC (bt jE))=0:=HH (by decide) (by decide +kernel) (by decide +kernel)
theorem YG:bo (aC (bt j5))=0:=HH (by decide) (by decide +kernel) (by decide +kernel)
theorem Xo:DF (bt dw) (bt jE)=bt jF:=by decide +kernel
theorem Qa:ia (aC (bt dw)) (aC (bt jE))=(bt jF,0):=by
 unfold ia;rw [if_pos ⟨Hh,YF⟩,kc,kc,Xo];exact Df (by decide) (by decide)
theorem abi:nr (aC (bt dw)) (aC (bt j5))=((cc (iq (4,0)),cc (iq (4,4))),0):=by
 unfold nr;rw [if_pos ⟨Hh,YG⟩,kc,kc,show kt true (bt dw) (bt j5)=some (iq (4,0),iq (4,4)) by decide +kernel]
 rfl
theorem abj:g7 (aC (bt dw)) (cc (iq (-2,1)),cc (iq (6,1)))=((RV.of (1 / 4),RV.of (3 / 4)),true,0):=by
 unfold g7;rw [if_pos ⟨Hh,Gd _,Gd _⟩,kc];show (match rj (bt dw) (cc (iq (-2,1))).p (cc (iq (6,1))).p with | some (lo,hi)=>((RV.of lo,RV.of hi),true,(0:Int)) | none=>((c4,c4),false,0))=_
 rw [gJ,gJ,show rj (bt dw) (iq (-2,1)) (iq (6,1))=some (1 / 4,3 / 4) by decide +kernel]
theorem adD {A B:List PV} (hA:∀ v∈A,v.sz 12) (hB:∀ v∈B,v.sz 12):D4 A B:=fun h1 J=>by
 have a:=nQ h1;have b:=nQ J;refine Ys (S:=qK (aR A)) b.2.2.1 (fun m hm=>Q3.mono (Ct (k:=12) (sK hA (by decide)) m hm) (by decide)) (fun m hm=>Q3.mono (Ct (k:=12) (sK hB (by decide)) m hm) (by decide)) (by rw [Gc,c0,c0]; omega) (.inr ⟨a.2.2.1,a.2.2.2,NO a.2.2.1⟩)
theorem Il {l:II} (h:∀ x∈l,x.1.natAbs < 256∧x.2.natAbs < 256):∀ v∈aC (bt l),v.sz 12:=fun v hv=>by
 obtain ⟨x,hx,rfl⟩:=List.mem_map.1 hv;obtain ⟨y,hy,rfl⟩:=List.mem_map.1 hx;exact uV (vB y.1 y.2 (h y hy).1 (h y hy).2) (by decide)
theorem I5 {L:List PV} (h:∀ v∈L,v.sz 12):∀ v∈L,v.sz 2048:=fun v hv=>PV.aO (h v hv) (by decide)
theorem HI {l:II} {c:Nat} (h:∀ x∈l,x.1.natAbs < 256∧x.2.natAbs < 256) (hl:l.length≤1000):PL.fit (some (aC (bt l),c)):=⟨by show (aC (bt l)).length≤_; rw [r4]; unfold bt; rw [List.length_map]; omega,I5 (Il h)⟩
theorem NY {c:Nat}:jr.val (some (aC (bt dw),c),some (aC (bt jE),c))=.tuple ⟨[.slice (some ⟨2,0,none⟩) 4 aI,.int .i64 0]⟩∧jr.new (some (aC (bt dw),c),some (aC (bt jE),c))=some (.flat true 4 6 (bG (bt jF))):=by
 refine ⟨?_,?_⟩
 ·show Value.tuple ⟨[dn 2 (ia (aC (bt dw)) (aC (bt jE))).1.length,.int .i64 (ia (aC (bt dw)) (aC (bt jE))).2]⟩=_
  rw [Qa]; rfl
 ·show b8 (ia (aC (bt dw)) (aC (bt jE))).1=_
  rw [Qa]; rfl
theorem YH {c:Nat} {a b:PV} (ha:a=cc (iq (4,0))) (hb:b=cc (iq (4,4))):mN.val (some (aC (bt dw),c),some (aC (bt j5),c))=.tuple ⟨[XV.v (a,b),.int .i64 0]⟩:=by
 show Value.tuple ⟨[(nr (aC (bt dw)) (aC (bt j5))).1.v,.int .i64 (nr (aC (bt dw)) (aC (bt j5))).2]⟩=_
 rw [abi,ha,hb]
theorem YI {c:Nat} {a b:PV} {x y:RV} (ha:a=cc (iq (-2,1))) (hb:b=cc (iq (6,1))) (hx:x=RV.of (1 / 4)) (hy:y=RV.of (3 / 4)):mC.val (some (aC (bt dw),c),(a,b))=.tuple ⟨[x.v,y.v,.bool true,.int .i64 0]⟩:=by
 show Value.tuple ⟨[(g7 (aC (bt dw)) (a,b)).1.1.v,(g7 (aC (bt dw)) (a,b)).1.2.v,.bool (g7 (aC (bt dw)) (a,b)).2.1,.int .i64 (g7 (aC (bt dw)) (a,b)).2.2]⟩=_
 rw [ha,hb,abj,hx,hy]
open Go
theorem PA {L:List Q2} {k l:Nat} (h:∀ v∈L,Q2.sz k v) (hl:k≤l):∀ v∈aC L,v.sz l:=fun v hv=>by
 obtain ⟨x,hx,rfl⟩:=List.mem_map.1 hv;exact uV (h x hx) hl
def OQ:cl:={ ι:=PL × oE,args:=fun i=>[i.1.val,i.2.1.v,i.2.2.v],ah:=fun i=>i.1.ah,pre:=fun i=>i.1.fit∧i.2.1.sz 2048∧i.2.2.sz 2048,val:=fun i=>.tuple ⟨[.slice (some ⟨i.1.ah.length,0,none⟩) (dp i.1.list i.2.1 i.2.2).1.length aI,.int .i64 (dp i.1.list i.2.1 i.2.2).2]⟩,new:=fun i=>some (.flat true (dp i.1.list i.2.1 i.2.2).1.length 6 (bG (dp i.1.list i.2.1 i.2.2).1)) }
theorem vn {i:PL} {a b:PV} {R:List Q2} {e:Int} (h:(R,e)=dp i.list a b):cA.val (i,(a,b))=.tuple ⟨[dn i.ah.length R.length,.int .i64 e]⟩∧cA.new (i,(a,b))=b8 R∧OQ.val (i,(a,b))=.tuple ⟨[.slice (some ⟨i.ah.length,0,none⟩) R.length aI,.int .i64 e]⟩∧OQ.new (i,(a,b))=some (.flat true R.length 6 (bG R)):=by
 refine ⟨?_,?_,?_,?_⟩
 ·show Value.tuple ⟨[dn i.ah.length (dp i.list a b).1.length,.int .i64 (dp i.list a b).2]⟩=_; rw [← h]
 ·show b8 (dp i.list a b).1=_; rw [← h]
 ·show Value.tuple ⟨[.slice (some ⟨i.ah.length,0,none⟩) (dp i.list a b).1.length aI,.int .i64 (dp i.list a b).2]⟩=_; rw [← h]
 ·show some (ai.flat true (dp i.list a b).1.length 6 (bG (dp i.list a b).1))=_; rw [← h]
open Go
theorem Mh {α:Type} (f:α→Int) (k:Int):∀ (l:List α) (o:Int),k≤l.foldl (fun o e=>min o (f e)) o↔k≤o∧∀ e∈l,k≤f e
 | [],o=>by simp
 | e::l,o=>by
  rw [List.foldl_cons,Mh f k l];simp only [List.mem_cons,forall_eq_or_imp];rw [Int.le_min,and_assoc]
theorem CQ {Q:List Q2} {p:Q2} {k:Int}:k≤fp Q p↔k≤1∧∀ e∈aY Q,k≤aZ (ao e.1 e.2 p) 0:=by
 have:=Mh (fun e:Q2 × Q2=>aZ (ao e.1 e.2 p) 0) k (aY Q) 1
 rw [← this];have e:Aq p=fun (o:Int) (e:Q2 × Q2)=>min o (aZ (ao e.1 e.2 p) 0):=by
  funext o e
  simp only [Aq];rw [Int.min_def]
  split <;> split <;> omega
 rw [← e]; rfl
theorem UN (Q:List Q2) (p:Q2):fp Q p=-1∨fp Q p=0∨fp Q p=1:=by
 have h1:-1≤fp Q p:=CQ.2 ⟨by decide,fun e _=>by have:=p9 (ao e.1 e.2 p) 0; omega⟩
 have J:=(CQ (Q:=Q) (p:=p) (k:=fp Q p)).1 (Int.le_refl _);omega
theorem NZ {x:Rat}:1≤aZ x 0↔0 < x:=by
 have:=p9 x 0;rw [← uB]; omega
theorem uF {Q:List Q2} {p:Q2}:fp Q p=1↔∀ e∈aY Q,0 < ao e.1 e.2 p:=by
 have h:=CQ (Q:=Q) (p:=p) (k:=1);have:=UN Q p;constructor
 ·intro e x hx;exact NZ.1 ((h.1 (by omega)).2 x hx)
 ·intro e;have:=h.2 ⟨Int.le_refl _,fun x hx=>NZ.2 (e x hx)⟩
  omega
theorem yM {Q:List Q2} {p:Q2}:0≤fp Q p↔∀ e∈aY Q,0≤ao e.1 e.2 p:=by
 rw [CQ];exact ⟨fun h e he=>lC.1 (h.2 e he),fun h=>⟨by decide,fun e he=>lC.2 (h e he)⟩⟩
theorem qh {Q:List Q2} {p:Q2} (h:Ring Q):0≤fp Q p↔cX Q p:=by
 rw [yM];constructor
 ·intro J;exact Tz h fun k hk=>J (aq Q k,aq Q (aX Q.length k)) (j9 hk)
 ·intro J e he;exact Cb h.eP he J
def Eo (Q:List Q2) (p:Q2):Prop:=∀ e∈aY Q,0 < ao e.1 e.2 p
def I6 (Q:List Q2):Q2:=Q.foldl (fun s v=>ym s v) (0,0)
theorem abk (a b:Q2):∀ (Q:List Q2) (s:Q2) (m:Rat),(∀ v∈Q,0≤ao a b v)→∀ k:Rat,(b.1 - a.1)*(s.2 - k*a.2) - (b.2 - a.2)*(s.1 - k*a.1)=m →
  ∃ d:Rat,(b.1 - a.1)*((Q.foldl (fun s v=>ym s v) s).2 - (k+Q.length)*a.2) - (b.2 - a.2)*((Q.foldl (fun s v=>ym s v) s).1 - (k+Q.length)*a.1)=m+d∧0≤d∧((∃ v∈Q,0 < ao a b v)→0 < d):=by
 intro Q
 induction Q with
 | nil =>
  intro s m _ k h;refine ⟨0,?_,by grind,fun ⟨v,hv,_⟩=>nomatch hv⟩
  simp only [List.foldl_nil,List.length_nil];grind
 | cons v Q ih =>
  intro s m hQ k h;have hv:=hQ v (List.mem_cons_self ..);obtain ⟨d,h1,J,h3⟩:=ih (ym s v) (m+ao a b v) (fun u hu=>hQ u (List.mem_cons_of_mem _ hu)) (k+1) (by rw [dm]; unfold ym; grind)
  refine ⟨ao a b v+d,?_,by grind,?_⟩
  ·rw [List.foldl_cons,List.length_cons];have:(k+1+((Q.length:Nat):Rat))=k+((Q.length+1:Nat):Rat):=by rw [Rat.natCast_add]; grind
   rw [this] at h1;rw [h1]; grind
  ·rintro ⟨u,hu,hp⟩
   rcases List.mem_cons.1 hu with rfl | hu
   ·grind
   ·have:=h3 ⟨u,hu,hp⟩;grind
theorem Fq {Q:List Q2} (h:Ring Q):fp Q (J0 (1 / (Q.length:Rat)) (I6 Q))=1:=by
 refine uF.2 fun e he=>?_
 obtain ⟨j,hj,rfl⟩:=ze he;have h3:=h.three;obtain ⟨d,h1,J,h4⟩:=abk (aq Q j) (aq Q (aX Q.length j)) Q (0,0) 0 (fun v hv=>oW h.eP (j9 hj) hv) 0 (by grind)
 have hd:0 < d:=h4 ⟨_,eO (cI (cI hj)),TB h hj⟩;have hn:(0:Rat) < (Q.length:Rat):=by
  have:((0:Nat):Rat) < (Q.length:Rat):=Rat.natCast_lt_natCast.2 (by omega)
  exact this
 have hi:(1 / (Q.length:Rat))*(Q.length:Rat)=1:=by rw [Rat.div_def]; grind
 have gd:0 < 1 / (Q.length:Rat):=by
  by_cases h1:0 < 1 / (Q.length:Rat)
  ·exact h1
  ·have:=Rat.mul_nonneg (show 0≤-(1 / (Q.length:Rat)) by grind) (show 0≤(Q.length:Rat) by grind)
   grind
 have:=Rat.mul_pos gd hd;have e:ao (aq Q j) (aq Q (aX Q.length j)) (J0 (1 / (Q.length:Rat)) (I6 Q))=(1 / (Q.length:Rat))*d:=by
  rw [dm];unfold J0 I6;generalize List.foldl (fun s v=>ym s v) (0,0) Q=S at h1 ⊢
  generalize (1 / (Q.length:Rat))=i at hi ⊢;simp only;have h1:(aq Q (aX Q.length j)).1*S.2 - (aq Q j).1*S.2 - ((aq Q (aX Q.length j)).2*S.1 - (aq Q j).2*S.1) - (Q.length:Rat)*((aq Q (aX Q.length j)).1*(aq Q j).2 - (aq Q (aX Q.length j)).2*(aq Q j).1)=d:=by grind
  grind
 rw [e];exact this
open Go
def lN (L:List PV):Bool:=m9 L || decide (10 < L.length) || decide (bo L≠0)
def kN:cl:={ ι:=PL,args:=fun i=>[i.val],ah:=PL.ah,pre:=fun i=>i.list.length≤9223372036854775807,val:=fun i=>.bool (lN i.list),new:=fun _=>none }
theorem YJ {L:List PV} (h:lN L=false):L.length≤10∧(∀ p∈L,p.sz 12)∧bo L=0:=by
 unfold lN at h;rw [Bool.or_eq_false_iff,Bool.or_eq_false_iff] at h;have J:=of_decide_eq_false h.1.2;have h3:=of_decide_eq_false h.2;exact ⟨by omega,(M7 h.1.1).2,by simpa using h3⟩
theorem YK {L:List PV} (h:m9 L=true):lN L=true:=by unfold lN; rw [h]; rfl
theorem Xp {L:List PV} (h:10 < L.length):lN L=true:=by unfold lN; rw [decide_eq_true h,Bool.or_true,Bool.true_or]
theorem Xq {L:List PV} (h:bo L≠0):lN L=true:=by unfold lN; rw [decide_eq_true h,Bool.or_true]
theorem YL {L:List PV} (h:m9 L=false) (J:¬ 10 < L.length) (h3:bo L=0):lN L=false:=by unfold lN; rw [h,decide_eq_false J,h3]; rfl
def yq:bC:={ ι:=PV,args:=fun i=>[i.v],pre:=fun _=>True,val:=fun i=>.bool (decide (i.sz 12∧i.canon)) }
def nv (L:List PV) (p:PV):Int:=if (ri L p).2≠0 then 5 else (ri L p).1
theorem CS {L:List PV} {p:PV} (h:bo L=0) (hp:p.canon):nv L p=fp (aR L) p.p:=by
 unfold nv;rw [OJ ⟨h,hp⟩]
 rfl
def dL:cl:={ ι:=PL × PV,args:=fun i=>[i.1.val,i.2.v],ah:=fun i=>i.1.ah,pre:=fun i=>i.1.fit∧i.2.sz 2048,val:=fun i=>.int .i64 (nv i.1.list i.2),new:=fun _=>none }
open Go
theorem tT (x:Rat):0≤x*x:=by
 by_cases h:0≤x
 ·exact Rat.mul_nonneg h h
 ·have:=Rat.mul_nonneg (show 0≤-x by grind) (show 0≤-x by grind)
  grind
def mv (p d:Q2) (s:Rat):Q2:=(p.1+s*d.1,p.2+s*d.2)
theorem YM (p:Q2) (s:Rat):mv p (0,0) s=p:=Prod.ext (by show p.1+s*0=p.1; grind) (by show p.2+s*0=p.2; grind)
theorem Im (a b p d:Q2) (s:Rat):ao a b (mv p d s)=ao a b p+s*((b.1 - a.1)*d.2 - (b.2 - a.2)*d.1):=by
 rw [dm,dm]; unfold mv; grind
theorem PB (f:Q3) (p d:Q2) (s:Rat):aj f (mv p d s)=aj f p+s*(f.1*d.1+f.2.1*d.2):=by
 rw [fM,fM]; unfold mv; grind
theorem HJ {x k:Rat} (h:0 < x):∃ s:Rat,0 < s∧∀ t,0≤t→t≤s→0 < x+t*k:=by
 by_cases hk:0≤k
 ·exact ⟨1,by decide,fun t h0 _=>by have:=Rat.mul_nonneg h0 hk; grind⟩
 ·have hk:0 < -k:=by grind
  have e:(x / (2*-k))*(2*-k)=x:=by rw [Rat.div_def]; grind
  generalize hs:x / (2*-k)=s at e;have hs0:0 < s:=by
   by_cases h1:0 < s
   ·exact h1
   ·have:=Rat.mul_nonneg (show 0≤-s by grind) (show 0≤2*-k by grind)
    grind
  refine ⟨s,hs0,fun t h0 h1=>?_⟩
  have:=Rat.mul_nonneg (show 0≤s - t by grind) (show 0≤-k by grind)
  grind
theorem OR {p d:Q2}:∀ (l:List (Q2 × Q2)),(∀ e∈l,0 < ao e.1 e.2 p)→∃ s:Rat,0 < s∧∀ t,0≤t→t≤s→∀ e∈l,0 < ao e.1 e.2 (mv p d t):=by
 intro l
 induction l with
 | nil=>intro _; exact ⟨1,by decide,fun t _ _ e he=>nomatch he⟩
 | cons e l ih =>
  intro h;obtain ⟨s,hs,h1⟩:=ih fun x hx=>h x (List.mem_cons_of_mem _ hx)
  obtain ⟨u,hu,J⟩:=HJ (k:=(e.2.1 - e.1.1)*d.2 - (e.2.2 - e.1.2)*d.1) (h e (List.mem_cons_self ..));refine ⟨if s≤u then s else u,by split <;> assumption,fun t h0 ht x hx=>?_⟩
  have oF:t≤s∧t≤u:=by
   by_cases A6:s≤u
   ·rw [if_pos A6] at ht; exact ⟨ht,by grind⟩
   ·rw [if_neg A6] at ht; exact ⟨by grind,ht⟩
  rcases List.mem_cons.1 hx with rfl | hx
  ·rw [Im]; exact J t h0 oF.2
  ·exact h1 t h0 oF.1 x hx
def v9 (P:List Q2) (p:Q2):Prop:=∀ d:Q2,∃ s:Rat,0 < s∧∀ t,0≤t→t≤s→cX P (mv p d t)
theorem v9.QZ {P:List Q2} {p:Q2} (h:v9 P p):cX P p:=by
 obtain ⟨s,hs,h1⟩:=h (0,0);have:=h1 0 (by decide) (by grind)
 rwa [YM] at this
theorem Hi {Q:List Q2} {p:Q2} (h:Ring Q):fp Q p=1↔v9 Q p:=by
 constructor
 ·intro h1 d;obtain ⟨s,hs,J⟩:=OR (p:=p) (d:=d) (aY Q) (uF.1 h1);exact ⟨s,hs,fun t h0 ht=>(qh h).1 (yM.2 fun e he=>by have:=J t h0 ht e he; grind)⟩
 ·intro h1;refine uF.2 fun e he=>?_
  have hp:=yM.1 ((qh h).2 h1.QZ) e he;have aD:=h.ne e he;refine Decidable.byContradiction fun hn=>?_
  have h0:ao e.1 e.2 p=0:=by grind
  obtain ⟨s,hs,J⟩:=h1 (e.2.2 - e.1.2,-(e.2.1 - e.1.1));have h3:=yM.1 ((qh h).2 (J s (by grind) (by grind))) e he
  rw [Im,h0] at h3;have a:=tT (e.2.1 - e.1.1);have b:=tT (e.2.2 - e.1.2);have pos:0 < (e.2.1 - e.1.1)*(e.2.1 - e.1.1)+(e.2.2 - e.1.2)*(e.2.2 - e.1.2):=by
   refine Decidable.byContradiction fun hz=>aD ?_
   have z1:(e.2.1 - e.1.1)*(e.2.1 - e.1.1)=0:=by grind
   have z2:(e.2.2 - e.1.2)*(e.2.2 - e.1.2)=0:=by grind
   have z1:=(Rat.mul_eq_zero.1 z1).elim id id;have z2:=(Rat.mul_eq_zero.1 z2).elim id id;exact Prod.ext (by grind) (by grind)
  have:=Rat.mul_pos hs pos;grind
theorem YN {P C:List Q2} {m:Q3} {p:Q2} (h:∀ q,cX C q↔cX P q∧0≤aj m q) (hp:v9 P p) (hm:0 < aj m p):v9 C p:=fun d=>by
 obtain ⟨s,hs,h1⟩:=hp d;obtain ⟨u,hu,J⟩:=HJ (k:=m.1*d.1+m.2.1*d.2) hm;refine ⟨if s≤u then s else u,by split <;> assumption,fun t h0 ht=>?_⟩
 have oF:t≤s∧t≤u:=by
  by_cases A6:s≤u
  ·rw [if_pos A6] at ht; exact ⟨ht,by grind⟩
  ·rw [if_neg A6] at ht; exact ⟨by grind,ht⟩
 exact (h _).2 ⟨h1 t h0 oF.1,by rw [PB]; have:=J t h0 oF.2; grind⟩
theorem Xr {C:List Q2} {p:Q2} (hF:Flat C):¬ v9 C p:=fun h=>by
 obtain ⟨f,hf,hv⟩:=hF;have z:∀ q,cX C q→aj f q=0:=fun q hq=>by
  have a:=hq f (fun v oq=>by rw [hv v oq]; exact Rat.le_refl)
  have b:=hq (-f.1,-f.2.1,-f.2.2) (fun v oq=>by have:=hv v oq; rw [fM] at this ⊢; grind)
  rw [fM] at a b ⊢;grind
 obtain ⟨s,hs,h1⟩:=h (f.1,f.2.1);have a:=z _ h.QZ;have b:=z _ (h1 s (by grind) (by grind))
 rw [PB,a] at b;have x:=tT f.1;have y:=tT f.2.1;have pos:0 < f.1*f.1+f.2.1*f.2.1:=by
  refine Decidable.byContradiction fun hz=>hf ⟨?_,?_⟩
  ·exact (Rat.mul_eq_zero.1 (show f.1*f.1=0 by grind)).elim id id
  ·exact (Rat.mul_eq_zero.1 (show f.2.1*f.2.1=0 by grind)).elim id id
 have:=Rat.mul_pos hs pos;grind
theorem VU {a b:Q2} (h:gq a b):¬ gq b a:=by
 unfold gq at *;grind
theorem Nb {A B:List Q2} (hA:Ring A) (oA:iw A) (hB:Ring B) (oB:iw B) (hs:iu A B):A=B:=by
 have mem:∀ v,v∈A↔v∈B:=fun v=>by rw [hA.ext,hB.ext,fK.iff hs]
 have tA:=hA.three;have tB:=hB.three;cases A with
 | nil=>simp at tA
 | cons a A =>
  cases B with
  | nil=>simp at tB
  | cons b B =>
   have c9:a=b:=by
    obtain ⟨i,hi,ei⟩:=o6 ((mem a).1 (List.mem_cons_self ..));obtain ⟨j,hj,ej⟩:=o6 ((mem b).2 (List.mem_cons_self ..));by_cases h0:i=0
    ·rw [← ei,h0]; rfl
    ·by_cases h1:j=0
     ·rw [← ej,h1]; rfl
     ·have x:gq b a:=by have:=oB i (by omega) hi; rw [ei] at this; exact this
      have y:gq a b:=by have:=oA j (by omega) hj; rw [ej] at this; exact this
      exact absurd x (VU y)
   subst c9;rw [Ln (P:=a::A) hA.eP hB.eP hA.nodup hB.nodup (fun v=>hA.ext) (fun v=>(mem v).symm.trans hA.ext)]
open Go
open Go
theorem Cx {x y:Rat} (h:y≠0):x / y*y=x:=by rw [Rat.div_def]; grind
theorem Ring.at {P:List Q2} (h:Ring P) {v:Q2} (hv:v∈P):∃ u w,(u,v)∈aY P∧(v,w)∈aY P∧0 < ao u v w:=by
 obtain ⟨k,hk,rfl⟩:=o6 hv;exact ⟨_,_,qj hk,j9 hk,h.ph k hk⟩
theorem adE {R:List Q2} {f:Q3} {v:Q2} (h:Ring R) (hv:cX R v) (hf:0 < aj f v):∃ p,v9 R p∧0 < aj f p:=by
 obtain ⟨c,hc⟩:∃ c,fp R c=1:=⟨_,Fq h⟩;obtain ⟨s,hs,h1⟩:=HJ (k:=aj f c - aj f v) hf;obtain ⟨t,ht,Rq,oF⟩:∃ t:Rat,0 < t∧t≤1∧t≤s:=by
  by_cases J:s≤1
  ·exact ⟨s,hs,J,Rat.le_refl⟩
  ·exact ⟨1,by decide,Rat.le_refl,by grind⟩
 refine ⟨atR v c t,(Hi h).1 (uF.2 fun e he=>?_),?_⟩
 ·have a:=yM.1 ((qh h).2 hv) e he;have b:=uF.1 hc e he;rw [zd];have:=Rat.mul_nonneg (show 0≤1 - t by grind) a
  have:=Rat.mul_pos ht b;grind
 ·have:=h1 t (by grind) oF
  rw [xh];grind
theorem YO {f:Q3} {P:List Q2} {z:Q2} (h:∀ v∈P,aj f v≤0) (hz:cX P z):aj f z≤0:=by
 have:=hz (kq f) (fun v hv=>by rw [oX]; have:=h v hv; grind)
 rw [oX] at this;grind
theorem Ring.next {P:List Q2} (h:Ring P) {a b:Q2} (he:(a,b)∈aY P):∃ c,(b,c)∈aY P∧0 < ao a b c:=by
 obtain ⟨k,hk,e⟩:=ze he;cases e;have:=h.ph _ (cI hk);rw [zn hk] at this;exact ⟨_,j9 (cI hk),this⟩
open Go
def iN:List (Q2 × Q2)→Rat
 | []=>0
 | e::l=>bT e.1 e.2+iN l
theorem xj:∀ (A B:List (Q2 × Q2)),iN (A++B)=iN A+iN B
 | [],B=>by show iN B=0+iN B; grind
 | e::A,B=>by show bT e.1 e.2+iN (A++B)=bT e.1 e.2+iN A+iN B; rw [xj A B]; grind
def cQ (l:List Q2):Rat:=iN (aY l)
theorem pk (p q:Q2):bT p q=p.1*q.2 - p.2*q.1:=rfl
theorem abl (z v c:Q2):bT v c+bT z v - bT z c=ao z v c:=by rw [pk,pk,pk,dm]; grind
theorem GI (A B:List Q2):cQ (A++B)=cQ (B++A):=by
 cases A with
 | nil=>rw [List.append_nil]; rfl
 | cons a A =>
  cases B with
  | nil=>rw [List.append_nil]; rfl
  | cons b B =>
   unfold cQ;rw [show aY (a::A++b::B)=bA (a::(A++b::B)++[a]) from rfl,show aY (b::B++a::A)=bA (b::(B++a::A)++[b]) from rfl]
   have e1:a::(A++b::B)++[a]=(a::A)++b::(B++[a]):=by simp
   have e2:b::(B++a::A)++[b]=(b::B)++a::(A++[b]):=by simp
   rw [e1,e2,oT (a::A) (B++[a]) b,oT (b::B) (A++[b]) a,xj,xj];simp only [List.cons_append];grind
theorem Ls (a z x:Q2) (L:List Q2) (h:(a::L).getLast?=some z):bA (a::L++[x])=bA (a::L)++[(z,x)]:=by
 obtain ⟨M,hM⟩:∃ M,a::L=M++[z]:=by
  have aD:a::L≠[]:=by simp
  refine ⟨(a::L).dropLast,?_⟩;rw [List.getLast?_eq_some_getLast aD] at h;rw [← Option.some.inj h];exact (List.dropLast_concat_getLast aD).symm
 rw [hM,List.append_assoc,List.cons_append,List.nil_append,oT M [x] z]
 rfl
theorem VV {v c z:Q2} {C:List Q2} (h1:C.head?=some c) (J:C.getLast?=some z) (h:ao z v c=0):cQ (v::C)=cQ C:=by
 cases C with
 | nil=>cases h1
 | cons c' C =>
  cases h1;unfold cQ;rw [nP,nP,List.cons_append,List.cons_append,iS,← List.cons_append,Ls c z v C J,Ls c z c C J];show bT v c+iN _=_
  rw [xj,xj];show bT v c+(_+(bT z v+0))=_+(bT z c+0)
  have:=abl z v c;grind
theorem UO {l:List Q2} {k:Nat} (hk:k < l.length) (h:nd l k):cQ (l.eraseIdx k)=cQ l:=by
 obtain ⟨hn,h⟩:=h;obtain ⟨A,v,B,rfl,rfl⟩:∃ A v B,l=A++v::B∧k=A.length:=⟨l.take k,l[k],l.drop (k+1),by rw [List.getElem_cons_drop,List.take_append_drop],by rw [List.length_take]; omega⟩
 have e0:(A++v::B).eraseIdx A.length=A++B:=by
  rw [List.eraseIdx_append_of_length_le (Nat.le_refl _),Nat.sub_self]; rfl
 rw [e0,GI A B,GI A (v::B),List.cons_append];have hlen:(A++v::B).length=A.length+B.length+1:=by simp; omega
 have hv:aq (A++v::B) A.length=v:=m6 (by rw [List.getElem?_append_right (Nat.le_refl _),Nat.sub_self]; rfl)
 have hc:(B++A).head?=some (aq (A++v::B) (aX (A++v::B).length A.length)):=by
  rw [hlen];cases B with
  | cons b B =>
   rw [show aX (A.length+(b::B).length+1) A.length=A.length+1 from Nat.mod_eq_of_lt (by simp)]
   rw [m6 (p:=b) (by rw [List.getElem?_append_right (by omega),show A.length+1 - A.length=1 by omega]; rfl)]
   rfl
  | nil =>
   rw [show aX (A.length+([]:List Q2).length+1) A.length=0 from by unfold aX; simp]
   cases A with
   | nil=>simp at hn
   | cons a A=>rfl
 have hz:(B++A).getLast?=some (aq (A++v::B) (db (A++v::B).length A.length)):=by
  rw [hlen];rcases List.eq_nil_or_concat A with rfl | ⟨M,a,rfl⟩
  ·rw [show db (([]:List Q2).length+B.length+1) ([]:List Q2).length=B.length from by unfold db; simp]
   rcases List.eq_nil_or_concat B with rfl | ⟨N,b,rfl⟩
   ·simp at hn
   ·simp only [List.concat_eq_append] at *;rw [m6 (p:=b) (by simp)]; simp
  ·simp only [List.concat_eq_append] at *;rw [show db ((M++[a]).length+B.length+1) (M++[a]).length=M.length from by
    unfold db;rw [List.length_append,List.length_singleton,show M.length+1+(M.length+1+B.length+1) - 1=M.length+(M.length+1+B.length+1) by omega,Nat.add_mod_right]
    exact Nat.mod_eq_of_lt (by omega)]
   rw [m6 (p:=a) (by simp)]; simp
 refine (VV hc hz ?_).symm;rcases h with h | ⟨_,h⟩
 ·rw [hv] at h; rw [← h,nT]
 ·rw [hv] at h; exact h
theorem Mi (l:List Q2):cQ (ff l)=cQ l :=
 Cc (C:=fun l=>cQ (ff l)=cQ l) (fun l k h hc=>by
  obtain ⟨h1,J⟩:=Bs h;rw [BL h,hc,UO h1 J]) (fun l h=>by rw [BK h]) _ l rfl
theorem VW (l:List Q2):cQ (eI l)=cQ l:=by
 unfold eI;rw [GI,List.take_append_drop]
theorem Xs {l:List Q2} (h:l.length≤2):cQ l=0:=by
 match l,h with
 | [],_=>rfl
 | [a],_=>show bT a a+0=0; rw [pk]; grind
 | [a,b],_=>show bT a b+(bT b a+0)=0; rw [pk,pk]; grind
 | _::_::_::_,h=>simp at h
theorem Nc {P:List Q2} (hT:bz P):cQ (fg P)=cQ P:=by
 by_cases hF:Flat P
 ·obtain ⟨h1,J⟩:=MV hF;rw [h1,← Mi P,Xs (l:=ff P) (by omega)]; rfl
 ·rw [(OD hT hF).1,VW,Mi]
def dx (m:Q3) (z:Q2):Rat:=m.2.2*(m.1*z.2 - m.2.1*z.1) / (m.1*m.1+m.2.1*m.2.1)
theorem YP {m:Q3} (hm:gP m):0 < m.1*m.1+m.2.1*m.2.1:=by
 have a:=tT m.1;have b:=tT m.2.1;refine Decidable.byContradiction fun hz=>hm ⟨?_,?_⟩
 ·exact (Rat.mul_eq_zero.1 (show m.1*m.1=0 by grind)).elim id id
 ·exact (Rat.mul_eq_zero.1 (show m.2.1*m.2.1=0 by grind)).elim id id
theorem Cy {m:Q3} (hm:gP m) {x y:Q2} (hx:aj m x=0) (hy:aj m y=0):bT x y=dx m y - dx m x:=by
 have hp:=YP hm;have e1:=Cx (x:=m.2.2*(m.1*y.2 - m.2.1*y.1)) (y:=m.1*m.1+m.2.1*m.2.1) (by grind)
 have e2:=Cx (x:=m.2.2*(m.1*x.2 - m.2.1*x.1)) (y:=m.1*m.1+m.2.1*m.2.1) (by grind)
 unfold dx;generalize m.2.2*(m.1*y.2 - m.2.1*y.1) / (m.1*m.1+m.2.1*m.2.1)=s at e1 ⊢;generalize m.2.2*(m.1*x.2 - m.2.1*x.1) / (m.1*m.1+m.2.1*m.2.1)=t at e2 ⊢;have k:(m.1*m.1+m.2.1*m.2.1)*(bT x y - (s - t))=0:=by
  rw [fM] at hx hy;rw [pk];have a:m.2.2*(m.1*y.2 - m.2.1*y.1)=(m.1*x.1+m.2.1*x.2)*(m.1*y.2 - m.2.1*y.1):=by rw [show m.1*x.1+m.2.1*x.2=m.2.2 by grind]
  have b:m.2.2*(m.1*x.2 - m.2.1*x.1)=(m.1*y.1+m.2.1*y.2)*(m.1*x.2 - m.2.1*x.1):=by rw [show m.1*y.1+m.2.1*y.2=m.2.2 by grind]
  rw [a] at e1;rw [b] at e2;grind
 have:=(Rat.mul_eq_zero.1 k).resolve_left (by grind)
 grind
theorem YQ (m:Q3) (z:Q2):dx (kq m) z=dx m z:=by
 unfold dx kq
 dsimp only
 rw [show -m.2.2*(-m.1*z.2 - -m.2.1*z.1)=m.2.2*(m.1*z.2 - m.2.1*z.1) by grind,show -m.1*-m.1+-m.2.1*-m.2.1=m.1*m.1+m.2.1*m.2.1 by grind]
def iO (m:Q3) (e:Q2 × Q2):Q2:=atR e.1 e.2 (gI m e.1 e.2)
def ja (m:Q3) (e:Q2 × Q2):Rat :=
 if aj m e.1 < 0 then (if 0 < aj m e.2 then dx m (iO m e)+bT (iO m e) e.2 else if aj m e.2=0 then dx m e.2 else 0)
 else if aj m e.2 < 0 then (if aj m e.1=0 then -dx m e.1 else bT e.1 (iO m e) - dx m (iO m e)) else bT e.1 e.2
def qV (m:Q3):List (Q2 × Q2)→Rat
 | []=>0
 | e::l=>ja m e+qV m l
def tx (f:Q2→Rat) (c:Bool):List Q2→Rat
 | []=>0
 | [p]=>if c then -f p else 0
 | p::q::l=>bT p q+tx f c (q::l)
def RY (f:Q2→Rat):List Q2→Rat
 | []=>0
 | p::_=>f p
theorem zj {f:Q2→Rat} {c:Bool} {p q:Q2} {T:List Q2} (h:T.head?=some q):tx f c (p::T)=bT p q+tx f c T:=by
 cases T with
 | nil=>cases h
 | cons q' T=>cases h; rfl
def od (m:Q3) (l:List Q2):List Q2:=match l.getLast? with
 | some z=>im m z
 | none=>[]
def pL (m:Q3) (l:List Q2):Bool:=match l.getLast? with
 | some z=>decide (aj m z < 0)
 | none=>false
theorem N0 {m:Q3} {p q:Q2} (h:(0 < aj m p∧aj m q < 0)∨(aj m p < 0∧0 < aj m q)):fG m p q=[iO m (p,q)]∧aj m (iO m (p,q))=0:=by
 have:=yZ h;exact ⟨this,(rX (m:=m) (p:=p) (q:=q) (by rw [this]; exact List.mem_singleton.2 rfl)).2.2.2.2⟩
theorem Mj {m:Q3} {q:Q2} {l:List Q2} (h:od m (q::l)=[]):pL m (q::l)=true:=by
 obtain ⟨z,hz⟩:∃ z,(q::l).getLast?=some z:=⟨_,List.getLast?_eq_some_getLast (by simp)⟩
 unfold od at h;unfold pL;rw [hz] at h ⊢;have h:im m z=[]:=h;refine decide_eq_true (Decidable.byContradiction fun hn=>?_)
 rw [qk (show 0≤aj m z by grind)] at h
 cases h
theorem OS {m:Q3} (hm:gP m):∀ (l:List Q2) (p:Q2),(∀ T,T=(bA (p::l)).flatMap (jX m)++od m (p::l)→
  qV m (bA (p::l))=tx (dx m) (pL m (p::l)) T+(if aj m p < 0 then RY (dx m) T else 0)∧(0≤aj m p→T.head?=some p)∧(aj m p < 0→∀ h,T.head?=some h→aj m h=0) ∧
  (pL m (p::l)=true→∀ z,T.getLast?=some z→aj m z=0))
 | [],p,T,hT=>by
  have e1:od m [p]=im m p:=rfl;have e2:pL m [p]=decide (aj m p < 0):=rfl;have e3:bA [p]=[]:=rfl;rw [e1,e3] at hT;rw [e2,e3];by_cases h:aj m p < 0
  ·rw [sC h] at hT;have hT:T=[]:=hT;subst hT;rw [if_pos h];exact ⟨by show (0:Rat)=0+0; grind,(fun J=>by grind),(fun _ h e=>by cases e),(fun _ z e=>by cases e)⟩
  ·rw [qk (by grind)] at hT
   have hT:T=[p]:=hT;subst hT;rw [if_neg h,decide_eq_false h];exact ⟨by show (0:Rat)=0+0; grind,(fun _=>rfl),(fun J=>absurd J h),(fun J=>by cases J)⟩
 | q::l,p,T,hT=>by
  obtain ⟨T',jD⟩:∃ T',T'=(bA (q::l)).flatMap (jX m)++od m (q::l):=⟨_,rfl⟩;obtain ⟨i1,i2,i3,i4⟩:=OS hm l q T' jD;have e1:od m (p::q::l)=od m (q::l):=by unfold od; rw [List.getLast?_cons_cons]
  have e2:pL m (p::q::l)=pL m (q::l):=by unfold pL; rw [List.getLast?_cons_cons]
  have hT:T=im m p++fG m p q++T':=by rw [hT,iS,List.flatMap_cons,e1,jD]; unfold jX; simp
  have e3:qV m (bA (p::q::l))=ja m (p,q)+qV m (bA (q::l)):=rfl;rw [e2,e3,i1];by_cases hp:aj m p < 0
  ·by_cases hq:aj m q < 0
   ·rw [sC hp,uE (by grind)] at hT
    have hT:T=T':=hT;subst hT;rw [if_pos hp,if_pos hq,show ja m (p,q)=0 from by unfold ja; rw [if_pos hp,if_neg (by grind),if_neg (by grind)]]
    exact ⟨by grind,fun h=>absurd hp (by grind),fun _=>i3 hq,i4⟩
   ·by_cases h0:aj m q=0
    ·rw [sC hp,uE (by grind)] at hT
     have hT:T=T':=hT;subst hT;have hh:=i2 (by grind)
     rw [if_pos hp,if_neg hq,show ja m (p,q)=dx m q from by unfold ja; rw [if_pos hp,if_neg (by grind),if_pos h0]]
     refine ⟨?_,fun h=>absurd hp (by grind),fun _ h e=>by rw [hh] at e; cases e; exact h0,i4⟩
     have:RY (dx m) T=dx m q:=by cases T with
      | nil=>cases hh
      | cons a T=>cases hh; rfl
     rw [this]; grind
    ·obtain ⟨c1,c2⟩:=N0 (m:=m) (p:=p) (q:=q) (.inr ⟨hp,by grind⟩)
     rw [sC hp,c1] at hT;have hT:T=iO m (p,q)::T':=hT;subst hT;have hh:=i2 (by grind)
     rw [if_pos hp,if_neg hq,show ja m (p,q)=dx m (iO m (p,q))+bT (iO m (p,q)) q from by unfold ja; rw [if_pos hp,if_pos (by grind)],zj hh]
     refine ⟨by show _=_+dx m _; grind,fun h=>absurd hp (by grind),fun _ h e=>by cases e; exact c2,fun h z e=>?_⟩
     cases T' with
     | nil=>cases hh
     | cons a T'=>exact i4 h z (by rw [List.getLast?_cons_cons] at e; exact e)
  ·by_cases hq:aj m q < 0
   ·by_cases h0:aj m p=0
    ·rw [qk (by grind),uE (by grind)] at hT
     have hT:T=p::T':=hT;subst hT;rw [if_neg hp,if_pos hq,show ja m (p,q)=-dx m p from by unfold ja; rw [if_neg hp,if_pos hq,if_pos h0]]
     refine ⟨?_,fun _=>rfl,fun h=>absurd h hp,fun h z e=>?_⟩
     ·cases T' with
      | nil =>
       rw [Mj (List.append_eq_nil_iff.1 jD.symm).2];show -dx m p+(0+0)=-dx m p+0
       grind
      | cons a T' =>
       have:=Cy hm h0 (i3 hq a rfl);rw [zj (p:=p) (q:=a) (T:=a::T') rfl];show -dx m p+(_+dx m a)=bT p a+_+0
       grind
     ·cases T' with
      | nil=>cases e; exact h0
      | cons a T'=>exact i4 h z (by rw [List.getLast?_cons_cons] at e; exact e)
    ·obtain ⟨c1,c2⟩:=N0 (m:=m) (p:=p) (q:=q) (.inl ⟨by grind,hq⟩)
     rw [qk (by grind),c1] at hT
     have hT:T=p::iO m (p,q)::T':=hT;subst hT;rw [if_neg hp,if_pos hq,show ja m (p,q)=bT p (iO m (p,q)) - dx m (iO m (p,q)) from by unfold ja; rw [if_neg hp,if_pos hq,if_neg h0],zj (p:=p) (q:=iO m (p,q)) (T:=iO m (p,q)::T') rfl]
     refine ⟨?_,fun _=>rfl,fun h=>absurd h hp,fun h z e=>?_⟩
     ·cases T' with
      | nil =>
       rw [Mj (List.append_eq_nil_iff.1 jD.symm).2];show bT p _ - dx m _+(0+0)=bT p _+-dx m _+0
       grind
      | cons a T' =>
       have:=Cy hm c2 (i3 hq a rfl);rw [zj (p:=iO m (p,q)) (q:=a) (T:=a::T') rfl];show bT p _ - dx m _+(_+dx m a)=bT p _+(bT _ a+_)+0
       grind
     ·rw [List.getLast?_cons_cons] at e;cases T' with
      | nil=>cases e; exact c2
      | cons a T'=>exact i4 h z (by rw [List.getLast?_cons_cons] at e; exact e)
   ·rw [qk (by grind),uE (by grind)] at hT
    have hT:T=p::T':=hT;subst hT;have hh:=i2 (by grind)
    rw [if_neg hp,if_neg hq,show ja m (p,q)=bT p q from by unfold ja; rw [if_neg hp,if_neg hq],zj hh]
    refine ⟨by grind,fun _=>rfl,fun h=>absurd h hp,fun h z e=>?_⟩
    cases T' with
    | nil=>cases hh
    | cons a T'=>exact i4 h z (by rw [List.getLast?_cons_cons] at e; exact e)
theorem Nd (f:Q2→Rat):∀ T:List Q2,tx f false T=iN (bA T)
 | []=>rfl
 | [p]=>rfl
 | p::q::l=>by
  rw [iS];show bT p q+tx f false (q::l)=bT p q+iN _
  rw [Nd f (q::l)]
theorem N1 {m:Q3} (hm:gP m) {h:Q2} (hh:aj m h=0):∀ (T:List Q2) (p:Q2),(∀ z,(p::T).getLast?=some z→aj m z=0)→tx (dx m) true (p::T)+dx m h=iN (bA (p::T++[h]))
 | [],p,hz=>by
  have:=Cy hm (hz p rfl) hh;show -dx m p+dx m h=bT p h+0
  grind
 | q::l,p,hz=>by
  have:=N1 hm hh l q (fun z e=>hz z (by rw [List.getLast?_cons_cons]; exact e))
  rw [List.cons_append,List.cons_append,iS,← List.cons_append];show bT p q+tx (dx m) true (q::l)+dx m h=bT p q+iN _
  rw [← this];grind
theorem N2 {m:Q3} (hm:gP m) (P:List Q2):cQ (cB m P)=qV m (aY P):=by
 cases P with
 | nil=>rfl
 | cons h l =>
  obtain ⟨T,hT⟩:∃ T,T=(bA (h::(l++[h]))).flatMap (jX m)++od m (h::(l++[h])):=⟨_,rfl⟩;obtain ⟨i1,i2,i3,i4⟩:=OS hm (l++[h]) h T hT;have hz:(h::(l++[h])).getLast?=some h:=by rw [← List.cons_append,List.getLast?_append]; rfl
  have e1:od m (h::(l++[h]))=im m h:=by unfold od; rw [hz]
  have e2:pL m (h::(l++[h]))=decide (aj m h < 0):=by unfold pL; rw [hz]
  have e3:aY (h::l)=bA (h::(l++[h])):=rfl;have e4:cB m (h::l)=(bA (h::(l++[h]))).flatMap (jX m):=by rw [Hd,e3]
  rw [e1,← e4] at hT;rw [e3,i1,e2];rw [e2] at i4;by_cases hh:aj m h < 0
  ·rw [sC hh,List.append_nil] at hT;rw [if_pos hh,decide_eq_true hh,← hT];have i3:=i3 hh;have i4:=i4 (decide_eq_true hh);cases T with
   | nil=>show (0:Rat)=0+0; grind
   | cons x T =>
    unfold cQ;rw [nP,← N1 hm (i3 x rfl) T x i4]
    rfl
  ·have i2:=i2 (by grind)
   rw [qk (by grind)] at hT
   rw [if_neg hh,decide_eq_false hh,Nd];generalize cB m (h::l)=C at hT ⊢;cases C with
   | nil=>rw [hT]; show (0:Rat)=0+0; grind
   | cons x C =>
    rw [hT] at i2;cases i2;unfold cQ;rw [nP,hT];grind
theorem abm (p q:Q2) (t:Rat):bT p (atR p q t)+bT (atR p q t) q=bT p q:=by
 rw [pk,pk,pk];show p.1*(p.2+(q.2 - p.2)*t) - p.2*(p.1+(q.1 - p.1)*t)+((p.1+(q.1 - p.1)*t)*q.2 - (p.2+(q.2 - p.2)*t)*q.1)=_
 grind
def As (m:Q3) (z:Q2):Rat:=if aj m z=0 then dx m z else 0
theorem Xt {x y:Rat}:-x / (-x - -y)=x / (x - y):=by
 rw [show -x - -y=-(x - y) by grind]
 generalize x - y=d;by_cases h:d=0
 ·rw [h,show -(0:Rat)=0 by grind,Rat.div_def,Rat.div_def,Rat.inv_zero]; grind
 ·have a:=Cx (x:=-x) (y:=-d) (by grind)
  have b:=Cx (x:=x) h;generalize -x / -d=s at a ⊢;generalize x / d=t at b ⊢;have:=(Rat.mul_eq_zero.1 (show d*(s - t)=0 by grind)).resolve_left h
  grind
theorem Xu {m:Q3} (hm:gP m) (e:Q2 × Q2):ja m e+ja (kq m) e=bT e.1 e.2+As m e.2 - As m e.1:=by
 obtain ⟨p,q⟩:=e;have ec:iO (kq m) (p,q)=iO m (p,q):=by
  unfold iO gI
  dsimp only
  rw [oX,oX]
  congr 1
  exact Xt
 have ea:=abm p q (gI m p q);have ea:bT p (iO m (p,q))+bT (iO m (p,q)) q=bT p q:=ea;have ez:aj m p=0→aj m q=0→bT p q=dx m q - dx m p:=Cy hm;unfold ja As;rw [ec,oX,oX];simp only [YQ];by_cases hp:aj m p < 0
 ·by_cases hq:aj m q < 0
  ·rw [if_pos hp,if_neg (by grind),if_neg (by grind),if_neg (by grind),if_neg (by grind),if_neg (by grind)]; grind
  ·by_cases h0:aj m q=0
   ·rw [if_pos hp,if_neg (by grind),if_pos h0,if_neg (by grind),if_neg (by grind),if_neg (by grind)]; grind
   ·rw [if_pos hp,if_pos (by grind),if_neg (by grind),if_pos (by grind),if_neg (by grind),if_neg h0,if_neg (by grind)]; grind
 ·by_cases h0:aj m p=0
  ·by_cases hq:aj m q < 0
   ·rw [if_neg hp,if_pos hq,if_pos h0,if_neg (by grind),if_neg (by grind),if_neg (by grind),if_pos h0]; grind
   ·by_cases h1:aj m q=0
    ·rw [if_neg hp,if_neg hq,if_neg (by grind),if_neg (by grind),if_pos h1,if_pos h0]
     have:=ez h0 h1;grind
    ·rw [if_neg hp,if_neg hq,if_neg (by grind),if_pos (by grind),if_pos (by grind),if_neg h1,if_pos h0]; grind
  ·by_cases hq:aj m q < 0
   ·rw [if_neg hp,if_pos hq,if_neg h0,if_pos (by grind),if_pos (by grind),if_neg (by grind),if_neg h0]; grind
   ·by_cases h1:aj m q=0
    ·rw [if_neg hp,if_neg hq,if_pos (by grind),if_neg (by grind),if_pos (by grind),if_pos h1,if_neg h0]; grind
    ·rw [if_neg hp,if_neg hq,if_pos (by grind),if_neg (by grind),if_neg (by grind),if_neg h1,if_neg h0]; grind
theorem Nf {m:Q3} (hm:gP m):∀ (l:List Q2) (p:Q2),∀ z,(p::l).getLast?=some z→qV m (bA (p::l))+qV (kq m) (bA (p::l))=iN (bA (p::l))+As m z - As m p
 | [],p,z,h=>by
  cases h;show (0:Rat)+0=0+_ - _
  grind
 | q::l,p,z,h=>by
  have:=Nf hm l q z (by rw [List.getLast?_cons_cons] at h; exact h)
  have e:=Xu hm (p,q);rw [iS];show ja m (p,q)+qV m _+(ja (kq m) (p,q)+qV (kq m) _)=bT p q+iN _+_ - _
  dsimp only at e
  grind
theorem YR {m:Q3} (h:gP m):gP (kq m):=fun ⟨h1,J⟩=>h ⟨by unfold kq at h1; dsimp only at h1; grind,by unfold kq at J; dsimp only at J; grind⟩
theorem VX {m:Q3} (hm:gP m) (P:List Q2):cQ (cB m P)+cQ (cB (kq m) P)=cQ P:=by
 rw [N2 hm,N2 (YR hm)];cases P with
 | nil=>show (0:Rat)+0=0; grind
 | cons h l =>
  have hz:(h::(l++[h])).getLast?=some h:=by rw [← List.cons_append,List.getLast?_append]; rfl
  have:=Nf hm (l++[h]) h h hz;unfold cQ;rw [nP,List.cons_append,this];grind
theorem VY {m n:Q3} (h:∀ z,aj m z=aj n z) (P:List Q2):cB m P=cB n P:=by
 have e:∀ e:Q2 × Q2,im m e.1++fG m e.1 e.2=im n e.1++fG n e.1 e.2:=fun e=>by
  unfold im fG gI;rw [h,h]
 unfold cB
 congr 1
 funext e'
 exact e e'
theorem YT (a b z:Q2):aj (cU b a) z=aj (kq (cU a b)) z:=by
 rw [oX,m7,m7,dm,dm]; grind
theorem TE {a b:Q2} (h:a≠b) {P:List Q2} (hT:bz P):cQ (dD P (a,b))+cQ (dD P (b,a))=cQ P:=by
 unfold dD;rw [Nc (Cs hT),Nc (Cs hT),VY (YT a b),VX (GG h)]
open Go
def xR (P:List Q2) (j:Nat):Rat:=iN ((aY P).take j)
theorem TF {P:List Q2} {j:Nat} {e:Q2 × Q2} (h:(aY P)[j]?=some e):xR P (j+1)=xR P j+bT e.1 e.2:=by
 unfold xR;rw [List.take_add_one,h,xj];show _+(bT e.1 e.2+0)=_
 grind
theorem UP (P:List Q2):xR P P.length=cQ P:=by
 unfold xR cQ;rw [← ll P,List.take_length]
def cS:cl:={ ι:=PL,args:=fun i=>[i.val],ah:=fun i=>i.ah,pre:=fun i=>i.list.length≤64∧∀ v∈i.list,v.sz 1024,val:=fun i=>(RV.of (cQ (aR i.list))).v,new:=fun _=>none }
def vF:cl:={ ι:=PL × rJ,args:=fun i=>[i.1.val,i.2.1.v,i.2.2.1.v,i.2.2.2.v],ah:=fun i=>i.1.ah,pre:=fun i=>i.1.list.length*80≤140737488351232,val:=fun _=>.bool true,new:=fun _=>none }
theorem abn {P:List Q2} {a b c:Q2} (hP:Ring P) (aD:a≠b) (hc:fp P c=1) (h:0≤ao a b c):∃ p,fp P p=1∧0 < ao a b p:=by
 obtain ⟨s,hs,J⟩:=OR (p:=c) (d:=(-(b.2 - a.2),b.1 - a.1)) (aY P) (uF.1 hc);refine ⟨mv c (-(b.2 - a.2),b.1 - a.1) s,uF.2 (J s (by grind) (by grind)),?_⟩
 rw [Im];have x:=tT (b.1 - a.1);have y:=tT (b.2 - a.2);have pos:0 < (b.1 - a.1)*(b.1 - a.1)+(b.2 - a.2)*(b.2 - a.2):=by
  refine Decidable.byContradiction fun hz=>aD ?_
  have z1:(b.1 - a.1)*(b.1 - a.1)=0:=by grind
  have z2:(b.2 - a.2)*(b.2 - a.2)=0:=by grind
  have z1:=(Rat.mul_eq_zero.1 z1).elim id id;have z2:=(Rat.mul_eq_zero.1 z2).elim id id;exact Prod.ext (by grind) (by grind)
 have:=Rat.mul_pos hs pos;grind
theorem xD {P:List Q2} {a b:Q2} (hP:Ring P) (aD:a≠b) (h:dD P (a,b)=[]) {c:Q2} (hc:fp P c=1):ao a b c < 0:=by
 refine Decidable.byContradiction fun hn=>?_
 obtain ⟨p,h1,J⟩:=abn hP aD hc (by grind)
 rcases MZ hP.eP (a,b) with ⟨hF,_⟩ | ⟨h3,_,_⟩
 ·exact Xr hF (YN (fun q=>K2 hP.eP) ((Hi hP).1 h1) (by rw [m7]; exact J))
 ·have:=h3.three; rw [h] at this; simp at this
theorem xk {P:List Q2} {a b:Q2} (hP:Ring P) (h:dD P (a,b)≠[]):Ring (dD P (a,b))∧iw (dD P (a,b))∧∀ p,cX (dD P (a,b)) p↔cX P p∧0≤ao a b p:=by
 rcases MZ hP.eP (a,b) with ⟨_,h0⟩ | h3
 ·exact absurd h0 h
 ·exact h3
theorem Dh (a b p:Q2):ao b a p=-ao a b p:=by rw [dm,dm]; grind
theorem UQ {P:List Q2} {a b:Q2} (hP:Ring P) (aD:a≠b) (h:dD P (a,b)≠[]):dD (dD P (a,b)) (a,b)=dD P (a,b):=by
 obtain ⟨h1,J,h3⟩:=xk hP h;have c:=Fq h1;have hc:=(h3 _).1 ((qh h1).1 (by rw [c]; decide))
 have hn:dD (dD P (a,b)) (a,b)≠[]:=fun e=>by have:=xD h1 aD e c; have:=hc.2; grind
 obtain ⟨g1,g2,g3⟩:=xk h1 hn;exact Nb g1 g2 h1 J fun p=>by rw [g3 p]; exact ⟨fun h=>h.1,fun h=>⟨h,((h3 p).1 h).2⟩⟩
theorem N3 {P:List Q2} {a b:Q2} (hP:Ring P) (oP:iw P) (aD:a≠b) (h:dD P (a,b)=[]):dD P (b,a)=P:=by
 have c:=Fq hP;have hn:dD P (b,a)≠[]:=fun e=>by have x:=xD hP aD h c; have y:=xD hP (Ne.symm aD) e c; rw [Dh] at y; grind
 obtain ⟨g1,g2,g3⟩:=xk hP hn;refine Nb g1 g2 hP oP fun p=>?_
 rw [g3 p];refine ⟨fun h=>h.1,fun hp=>⟨hp,?_⟩⟩
 have:=YO (f:=cU a b) (fun v hv=>Decidable.byContradiction fun hn=>?_) hp
 ·rw [m7] at this; rw [Dh]; grind
 ·obtain ⟨q,hq,J⟩:=adE (f:=cU a b) hP (.lH hv) (by grind)
  have:=xD hP aD h ((Hi hP).2 hq);rw [m7] at J;grind
theorem OT {P:List Q2} {a b:Q2} (hP:Ring P) (oP:iw P) (aD:a≠b) (sP:∀ v∈P,Q2.sz 12 v) (sa:Q2.sz 12 a) (sb:Q2.sz 12 b):(dD P (a,b)).length≤P.length+1∧∀ v∈dD P (a,b),Q2.sz 602 v:=by
 have hm:pK (·∈qK P++[cU a b]) P:=.inr ⟨hP,oP,fun e he=>(NO hP e he).mono fun m hm=>List.mem_append_left _ hm⟩
 have hs:=MX (e:=(a,b)) aD (List.mem_append_right _ (List.mem_singleton.2 rfl)) hm;have ht:Q3.sz 75 (cU a b):=by
  have:=Ct (P:=[a,b]) (k:=12) (fun v hv=>by
   rcases List.mem_cons.1 hv with rfl | hv
   ·exact sa
   ·rw [List.mem_singleton.1 hv]; exact sb) (cU a b) (List.mem_map.2 ⟨(a,b),List.mem_cons_self ..,rfl⟩)
  exact this
 obtain ⟨h1,J⟩:=Md (k:=75) (fun m hm=>(List.mem_append.1 hm).elim (Ct sP m) (fun h=>by rw [List.mem_singleton.1 h]; exact ht)) hs
 rw [List.length_append,Gc] at h1;exact ⟨h1,J⟩
theorem HK {A:List PV} {a b:PV} (hA:bo A=0) (ca:a.canon) (cb:b.canon) (aD:a≠b):dp A a b=lY (dD (aR A) (a.p,b.p)):=OL ⟨hA,ca,cb⟩ aD rfl rfl
theorem VZ {a b:PV} (ca:a.canon) (cb:b.canon) (h:a.p=b.p):a=b:=by
 have e:∀ v:PV,v.canon→v=cc v.p:=fun v hv=>Prod.ext hv.1 hv.2
 rw [e a ca,e b cb,h]
theorem N4 {P:List Q2} {a b:Q2} (hP:Ring P) (h:dD P (a,b)≠[]) (hl:(dD P (a,b)).length≤64):bo (aC (dD P (a,b)))=0:=by
 obtain ⟨h1,J,_⟩:=xk hP h;have:=h1.three;exact Yt (by rw [r4]; omega) Na (by rw [kc]; exact h1) (by rw [kc]; exact J)
theorem YU {A:List PV} {a b:PV} {L R:List Q2} (hA:bo A=0) (lA:A.length≤10) (sA:∀ v∈A,v.sz 12) (sa:a.sz 12) (sb:b.sz 12) (ca:a.canon) (cb:b.canon) (aD:a≠b) (hL:L=dD (aR A) (a.p,b.p)) (hR:R=dD (aR A) (b.p,a.p)) :
  (dp A a b=lY L∧dp A b a=lY R)∧(L.length≤11∧R.length≤11)∧((∀ v∈aC L,v.sz 1024)∧∀ v∈aC R,v.sz 1024)∧cQ L+cQ R=cQ (aR A)∧(L=[]→R=aR A)∧(L=[]→R≠[]) ∧
   (L≠[]→bo (aC L)=0∧dp (aC L) a b=lY L)∧(R≠[]→bo (aC R)=0) ∧
   ∀ p,fp (aR A) p=1→((L≠[]→(0≤fp L p↔0≤ao a.p b.p p))∧(L=[]→ao a.p b.p p < 0)∧(R≠[]→(0≤fp R p↔ao a.p b.p p≤0))∧(R=[]→0 < ao a.p b.p p)):=by
 have z:=nQ hA;have hP:=z.2.2.1;have oP:=z.2.2.2;have pU:a.p≠b.p:=fun e=>aD (VZ ca cb e)
 have qa:=PV.cL sa (by decide)
 have qb:=PV.cL sb (by decide)
 obtain ⟨l1,l2⟩:=OT hP oP pU (sK sA (by decide)) qa qb
 obtain ⟨r1,r2⟩:=OT hP oP (Ne.symm pU) (sK sA (by decide)) qb qa
 rw [← hL] at l1 l2;rw [← hR] at r1 r2;rw [c0] at l1 r1;refine ⟨⟨by rw [HK hA ca cb aD,hL],by rw [HK hA cb ca (Ne.symm aD),hR]⟩,⟨by omega,by omega⟩,⟨PA l2 (by decide),PA r2 (by decide)⟩,by rw [hL,hR]; exact TE pU hP.eP,fun e=>?_,fun e e2=>?_,fun h=>?_,fun h=>?_,fun p hp=>⟨fun h=>?_,fun e=>?_,fun h=>?_,fun e=>?_⟩⟩
 ·rw [hR]; exact N3 hP oP pU (hL ▸ e)
 ·have:=N3 hP oP pU (hL ▸ e);rw [← hR,e2] at this;have t:=hP.three;rw [← this] at t;simp at t
 ·rw [hL] at h;have hk:=N4 hP h (by rw [← hL]; omega)
  refine ⟨hL ▸ hk,?_⟩;rw [hL,HK hk ca cb aD,kc,UQ hP pU h]
 ·rw [hR] at h;have hk:=N4 hP h (by rw [← hR]; omega)
  exact hR ▸ hk
 ·rw [hL] at h;obtain ⟨h1,_,h3⟩:=xk hP h;rw [hL,qh h1,h3 p];exact ⟨fun h=>h.2,fun h=>⟨(qh hP).1 (by rw [hp]; decide),h⟩⟩
 ·exact xD hP pU (hL ▸ e) hp
 ·rw [hR] at h;obtain ⟨h1,_,h3⟩:=xk hP h;rw [hR,qh h1,h3 p,Dh];exact ⟨fun h=>by have:=h.2; grind,fun h=>⟨(qh hP).1 (by rw [hp]; decide),by grind⟩⟩
 ·have:=xD hP (Ne.symm pU) (hR ▸ e) hp;rw [Dh] at this;grind
theorem OU {k:Nat}:∀ l:List (Q2 × Q2),(∀ e∈l,Q2.sz k e.1∧Q2.sz k e.2)→QB (iN l) (l.length*(4*k+2)+1)
 | [],_=>by have:=RT (k:=1) (Nat.le_refl 1); exact this.mono (by simp)
 | e::l,h=>by
  have a:=OU l fun x hx=>h x (List.mem_cons_of_mem _ hx)
  have b:=h e (List.mem_cons_self ..);have c:=uC b.1 b.2;show QB (bT e.1 e.2+iN l) _
  refine (c.add a).mono ?_;rw [List.length_cons,Nat.add_mul];omega
theorem Hj {k n:Nat} {L:List Q2} (h:∀ v∈L,Q2.sz k v) (hn:L.length≤n):QB (cQ L) (n*(4*k+2)+1):=by
 have:=OU (aY L) fun e he=>⟨h _ (lu he).1,h _ (lu he).2⟩
 rw [ll] at this;exact this.mono (Nat.add_le_add_right (Nat.mul_le_mul_right _ hn) 1)
theorem Di {L:List Q2} (h:L≠[]) (hl:L.length≤64):lY L=(L,0):=Df (fun e=>h (List.eq_nil_of_length_eq_zero e)) (by omega)
theorem N5:c4=RV.of 0:=RV.ko (by rw [RV.ae5,afm])
open Go Go.RowKit
section
variable {P:Program} {w:World} {r:Reach} {base:Nat} {t:TypeId} {v:Value}
theorem Ng (ht:P.underlying t=some .bool) (h:Cell.okWide P w r base t v):∃ b,v=.bool b:=by
 simp only [Cell.okWide,ht] at h;cases v <;> simp_all [Cell.ok]
theorem BO (ht:P.underlying t=some .string) (h:Cell.okWide P w r base t v):∃ s,v=.string s:=by
 simp only [Cell.okWide,ht] at h;cases v <;> simp_all [Cell.ok]
theorem UR {fs:Array Field} (ht:P.underlying t=some (.struct fs)) {ts:List TypeId} (oF:P.cellTypes P.depth t=some ts) (h:Value.okWide P w r base t v) :
  ∃ l:List Value,v=.agg ⟨l⟩∧l.length=P.cellsOf t∧∀ i x,l[i]?=some x→∃ u,ts[i % ts.length]?=some u∧Cell.okWide P w r base u x:=by
 simp only [Value.okWide,ht] at h;obtain ⟨cs,rfl,J,ts',h3,_,h5⟩:=h;rw [oF] at h3;cases h3;exact ⟨cs.toList,rfl,J,fun i x hx=>h5 i x (by simpa using hx)⟩
theorem YV {fs:Array Field} (ht:P.underlying t=some (.struct fs)) {b s:TypeId} (oF:P.cellTypes P.depth t=some [b,s,s,b,s,s]) (hn:P.cellsOf t=6) (hb:P.underlying b=some .bool) (hs:P.underlying s=some .string)
  (h:Value.okWide P w r base t v):∃ p:PV,v=p.v:=by
 obtain ⟨l,rfl,hl,hc⟩:=UR ht oF h;rw [hn] at hl
 match l,hl with
 | [x,y,z,x',y',z'],_ =>
  obtain ⟨u,hu,h0⟩:=hc 0 x rfl;obtain ⟨u1,vO,h1⟩:=hc 1 y rfl;obtain ⟨u2,tQ,J⟩:=hc 2 z rfl;obtain ⟨u3,hu3,h3⟩:=hc 3 x' rfl;obtain ⟨u4,hu4,h4⟩:=hc 4 y' rfl;obtain ⟨u5,hu5,h5⟩:=hc 5 z' rfl;cases hu; cases vO; cases tQ; cases hu3; cases hu4; cases hu5;obtain ⟨b0,rfl⟩:=Ng hb h0;obtain ⟨s1,rfl⟩:=BO hs h1;obtain ⟨s2,rfl⟩:=BO hs J;obtain ⟨b3,rfl⟩:=Ng hb h3;obtain ⟨s4,rfl⟩:=BO hs h4;obtain ⟨s5,rfl⟩:=BO hs h5;exact ⟨((b0,s1,s2),(b3,s4,s5)),rfl⟩
end
open Go Go.RowKit Go.ChangeShapes Go.WideShapes Go.ChangeAt
theorem SO {P:Program} {f:FuncId} {S:cl} (h:di P f S) {i:S.ι} (hp:S.pre i) {J6:List Value} {ν:Nu} {w:World} (ha:bf ν (S.args i) J6) (hH:bU ν ((S.ah i).map some) w)
  (hν:∀ id,(S.ah i).length≤id→ν id=none) {b:Bool} (hv:S.val i=.bool b) :
  Calls P f ⟨J6⟩ w fun e w'=>e=.returned (.bool b)∧Below w.heap.size w w':=by
 have h1:=h.calls i hp ν J6 w 0 ha hH hν;rw [callsIn_wide] at h1;refine h1.mono fun e w' ⟨v',ak,he,hq⟩=>⟨?_,hq.below⟩
 have hr:=hq.val;rw [hv] at hr;rw [he,hr.j7]
section
variable {H:Type} {enc:TypeId × Value→H} {P:Program} {w:World} {base:Nat} {spare:Nat→Bool} {held:Bool}
structure D5 (P:Program) (tr tp b s:TypeId):Prop where
 rat:∃ f0 f1 f2,P.underlying tr=some (.struct #[f0,f1,f2])∧(f0.type=b∧f0.offset=0)∧(f1.type=s∧f1.offset=1)∧f2.type=s∧f2.offset=2
 pt:∃ f0 f1,P.underlying tp=some (.struct #[f0,f1])∧(f0.type=tr∧f0.offset=0)∧f1.type=tr∧f1.offset=3
 bool:P.underlying b=some .bool
 str:P.underlying s=some .string
 cr:P.cellsOf tr=3
 cp:P.cellsOf tp=6
 cb:P.cellsOf b=1
 cs:P.cellsOf s=1
theorem N6 {tr tp b s:TypeId} (T:D5 P tr tp b s) {n:Nat} {l:List Value} {y:DataW H × List MemPlace} (h:DataW.trod enc P w base spare held n tr l=some y):∃ i:RV,l=i.cells:=by
 obtain ⟨f0,f1,f2,hu,⟨t0,o0⟩,⟨t1,o1⟩,t2,o2⟩:=T.rat;obtain ⟨y0,y1,y2,m,_,hl,h0,h1,J⟩:=Deep.trod_struct3 hu h;rw [T.cr] at hl;rw [t0,o0,T.cb] at h0;rw [t1,o1,T.cs] at h1;rw [t2,o2,T.cs] at J
 match l,hl with
 | [x,y,z],_ =>
  obtain ⟨b,e0,_⟩:=DataW.trod_bool T.bool h0;obtain ⟨s1,e1,_⟩:=DataW.trod_string T.str h1;obtain ⟨s2,e2,_⟩:=DataW.trod_string T.str J;simp at e0 e1 e2;subst e0; subst e1; subst e2;exact ⟨(b,s1,s2),rfl⟩
theorem YW {tr tp b s:TypeId} (T:D5 P tr tp b s) {n:Nat} {l:List Value} {y:DataW H × List MemPlace} (h:DataW.trod enc P w base spare held n tp l=some y):∃ p:PV,l=p.cells:=by
 obtain ⟨f0,f1,hu,⟨t0,o0⟩,t1,o1⟩:=T.pt;obtain ⟨y0,y1,m,_,hl,h0,h1⟩:=trod_struct2 hu h;rw [T.cp] at hl;rw [t0,o0,T.cr] at h0;rw [t1,o1,T.cr] at h1;obtain ⟨i,e0⟩:=N6 T h0;obtain ⟨j,e1⟩:=N6 T h1
 match l,hl with
 | [x,y,z,x',y',z'],_ =>
  have e0:[x,y,z]=i.cells:=e0;have e1:[x',y',z']=j.cells:=e1;refine ⟨(i,j),?_⟩;show [x,y,z]++[x',y',z']=i.cells++j.cells
  rw [e0,e1]
end
open Go Go.RowKit Go.ChangeShapes Go.WideShapes Go.ChangeAt
section
variable {P:Program} {w:World} {r:Reach} {base:Nat} {t:TypeId} {v:Value}
end
structure afQ (P:Program) (tr tn:TypeId):Prop where
 ln:∃ f0 f1 f2,P.underlying tn=some (.struct #[f0,f1,f2])∧(f0.type=tr∧f0.offset=0)∧(f1.type=tr∧f1.offset=3)∧f2.type=tr∧f2.offset=6
 cn:P.cellsOf tn=9
section
variable {H:Type} {enc:TypeId × Value→H} {P:Program} {w:World} {base:Nat} {spare:Nat→Bool} {held:Bool}
end
open Go Go.RowKit Go.ChangeShapes Go.WideShapes Go.ChangeAt
section
variable {H:Type} {enc:TypeId × Value→H} {P:Program} {w:World} {base:Nat} {spare:Nat→Bool} {held:Bool}
theorem S9 {tl tr tp b s:TypeId} (T:D5 P tr tp b s) (ht:P.underlying tl=some (.slice tp)) {v:Value} {d:DataW H} {ps:List MemPlace} {r:Reach} {b0:Nat} (hv:Value.okWide P w r b0 tl v)
  (h:DataW.Trod enc P w base (fun _=>true) held tl v d ps) :
  ∃ (i:PL) (ν:Nu),i.list.length≤9223372036854775807∧(∀ B m,(∀ elems spare,d=.slice elems spare→(elems.length+spare.length)*B≤m)→i.list.length*B≤m)∧au ν i.val v∧bU ν (i.ah.map some) w∧∀ id,i.ah.length≤id→ν id=none:=by
 obtain ⟨a0,pM,afn,rfl⟩:=okWide_slice ht hv;obtain ⟨fuel,hf⟩:=h;rcases Deep.open_slice ht hf with ⟨A7,_⟩ | ⟨a,len,cap,m,n,D,Pl,A7,hb,hl,hm,mS,hd,hx⟩
 ·simp [Value.cells] at A7;obtain ⟨rfl,rfl,rfl⟩:=A7;refine ⟨none,fun _=>none,Nat.zero_le _,fun B m _=>by show 0*B≤m; omega,.ju,⟨fun id b h=>by simp [PL.ah] at h,fun i j bi bj li lj h=>by simp [PL.ah] at h⟩,fun _ _=>rfl⟩
 ·simp [Value.cells] at A7;obtain ⟨rfl,rfl,rfl⟩:=A7;have mS:m=afn:=mS;subst mS;simp only [Value.okWide,ht,Cell.okWide,Cell.ok] at hv;obtain ⟨_,_,_,rO,row,cells,HL,_⟩:=hv;have HT:a.block < w.heap.size:=by
   unfold World.shape? at HL
   split at HL
   ·rename_i hh;exact (Array.getElem?_eq_some_iff.1 hh).1
   ·cases HL
  obtain ⟨V,hV⟩:=Deep.choose_lt (α:=PV) (n:=m) (p:=fun i p=>∀ j,j < 6→w.cell? ((a.add (i*6)).add j)=p.cells[j]?) (fun i hi=>by
   obtain ⟨eU,h1,J⟩:=hx i hi;rw [T.cp] at h1;obtain ⟨p,rfl⟩:=YW T J;obtain ⟨_,_,hc⟩:=World.cells?_some h1;exact ⟨p,hc⟩)
  have hlm:pM≤m:=hl;refine ⟨some ((List.range pM).map V,aI),fun id=>if id=0 then some ⟨a.block,a.off,6,m⟩ else none,?_,?_,?_,⟨fun id b bm=>?_,fun i j bi bj li lj h1 J h3 h4=>?_⟩,fun id bm=>?_⟩
  ·show ((List.range pM).map V).length≤_
   have bN:m≤9223372036854775807:=hm;rw [List.length_map,List.length_range];omega
  ·intro B M hB;have hd:=hB _ _ (congrArg Prod.fst hd);show ((List.range pM).map V).length*B≤M
   rw [List.length_map,List.length_range];refine Nat.le_trans (Nat.mul_le_mul_right _ ?_) hd;simp
  ·have e:a=Loc.at ⟨a.block,a.off,6,m⟩ 0 0:=by
    obtain ⟨b0,o0,s0⟩:=a;have:s0=none:=rO;subst this;simp [Loc.at]
   have:=au.slice (ν:=fun id=>if id=0 then some ⟨a.block,a.off,6,m⟩ else none) 0 0 pM aI m ⟨a.block,a.off,6,m⟩ rfl (.inr rfl) hlm (by simp)
   rw [← e] at this;show au _ (.slice (some ⟨0,0,none⟩) ((List.range pM).map V).length aI) _
   rw [List.length_map,List.length_range];exact this
  ·cases id with
   | succ id=>simp [PL.ah] at bm
   | zero =>
    simp [PL.ah] at bm;subst bm;refine ⟨_,rfl,⟨rfl,fun r hr=>rfl,fun r hr j v yD=>?_,fun _ r hr v hv=>?_,fun r hr v hv=>?_,fun h=>(by cases h),(fun r h=>by cases h),HT⟩⟩
    ·have fk:r < pM:=hr;have hr:r < ((List.range pM).map V).length:=by rw [List.length_map,List.length_range]; exact fk
     obtain ⟨p,hp,_,a8⟩:=r9 hr;have hpV:V r=p:=by
      rw [List.getElem?_map,List.getElem?_range fk] at hp
      simpa using hp
     have yD:(cW ((List.range pM).map V) r)[j]?=some v:=yD;rw [a8] at yD;have hj:j < 6:=(List.getElem?_eq_some_iff.1 yD).1;have hc:=hV r (by omega) j hj
     rw [hpV,yD] at hc;refine ⟨v,?_,?_⟩
     ·rw [← hc]
      congr 1
      obtain ⟨b0,o0,s0⟩:=a;have:s0=none:=rO;subst this;by_cases J:r*6=0
      ·have h3:r=0:=by omega
       by_cases h1:j=0 <;> simp [Loc.at,Addr.add,h1,h3]
      ·by_cases h1:j=0 <;> simp [Loc.at,Addr.add,h1,J,Nat.add_assoc]
     ·have hs:mG p.cells=true:=rfl;exact au.kH (dI hs v (List.mem_of_getElem? yD))
    ·exact dI (L5 _ r) v hv
    ·have:=dI (L5 ((List.range pM).map V) r) v hv;cases v <;> first | rfl | simp [cG] at this
  ·cases i with
   | succ i=>simp [PL.ah] at h1
   | zero =>
    cases j with
    | zero=>exact absurd rfl h3
    | succ j=>simp [PL.ah] at J
  ·have:id≠0:=by
    intro e; subst e;have bm:1≤0:=bm;omega
   simp [this]
end
end Go.Ae
