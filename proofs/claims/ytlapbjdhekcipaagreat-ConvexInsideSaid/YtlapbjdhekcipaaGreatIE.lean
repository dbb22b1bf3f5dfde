import Derived.WalkKit
import Derived.ProofKit
import Derived.OpenShut
import Derived.ShutString
import Derived.ChangeOld
import Derived.Below
import Derived.Deep.Slices
import Derived.Deep.Strs
import Derived.SizedLaws
import Derived.Test.YtlapbjdhekcipaaGreatID
set_option linter.unusedVariables false
set_option linter.unusedSimpArgs false
namespace Go.Ae
open Go
theorem wP (a b p:Q2):ba (eg a b) p=ao a b p:=by simp only [kl,eV,eg]; grind
theorem Mw {a b:Q2} (h:a≠b):mj (eg a b):=fun e=>h (Prod.ext (by have:=e.2; unfold eg at this; grind) (by have:=e.1; unfold eg at this; grind))
theorem Vn {m:Q3} {x y z:Q2} (hx:ba m x=0) (hy:ba m y=0) (aH:x≠y) (h:ao x y z=0):ba m z=0:=by
 rw [kl] at *;rw [eV] at h;by_cases h0:y.1 - x.1=0
 ·have h1:y.2 - x.2≠0:=fun e=>aH (Prod.ext (by grind) (by grind))
  have:(y.2 - x.2)*(m.1*z.1+m.2.1*z.2 - m.2.2)=0:=by grind
  exact (Rat.mul_eq_zero.1 this).resolve_left h1
 ·have:(y.1 - x.1)*(m.1*z.1+m.2.1*z.2 - m.2.2)=0:=by grind
  exact (Rat.mul_eq_zero.1 this).resolve_left h0
theorem Ni {m:Q3} (hm:mj m) {a b c:Q2} (ha:ba m a=0) (hb:ba m b=0) (hc:ba m c=0):ao a b c=0 :=
 BJ (P:=[a,b,c]) ⟨m,hm,fun v hv=>by simp at hv; rcases hv with rfl | rfl | rfl <;> assumption⟩ (by simp) (by simp) (by simp)
theorem SJ {P:List Q2} {v:Q2} (h:v∈P) (hw:∃ w∈P,w≠v):∃ y,(v,y)∈bd P∧v≠y:=by
 obtain ⟨w,hw,aH⟩:=hw;obtain ⟨A,B,rfl⟩:=List.append_of_mem h;obtain ⟨y,h1,J⟩:=leave (v:=v) (B++A) ⟨w,by
  rcases List.mem_append.1 hw with h | h
  ·exact List.mem_append_right _ h
  ·rcases List.mem_cons.1 h with h | h
   ·exact absurd h aH
   ·exact List.mem_append_left _ h,aH⟩
 exact ⟨y,Bb (A:=v::B) (Km (m:=[v]) h1),J⟩
theorem SL {P:List Q2} (hT:bD P):(Flat P∧fu P=[])∨(¬ Flat P∧Ring (fu P)∧kW (fu P)∧ie (fu P) P∧∀ v∈fu P,v∈P):=by
 by_cases hF:Flat P
 ·exact .inl ⟨hF,(TZ hF).1⟩
 ·have hc:=KY hT hF;rw [(Wn hT hF).1];refine .inr ⟨hF,T1 hc,fun i h0 hi=>?_,(ie.oo fun v=>tC).trans (EB hT hF).1,fun v hv=>(E9 P).subset (tC.1 hv)⟩
  have:=RL hc hi h0;have hle:g0 (an (eD (fi P)) 0) (an (eD (fi P)) i):=tL.2 (by omega)
  have aH:an (eD (fi P)) 0≠an (eD (fi P)) i:=fun e=>by rw [e,n9.2 rfl] at this; omega
  rcases hle with h | ⟨h,h'⟩
  ·exact .inl h
  ·exact .inr ⟨h,Rat.lt_of_le_of_ne h' fun e=>aH (Prod.ext h e)⟩
theorem Wt {S:Q3→Prop} {P C:List Q2} (hT:bD P) (hC:Ring C) (hs:ie C P) (HN:∀ v∈C,v∈P) (h:∀ e∈bd P,ml S e):∀ e∈bd C,ml S e:=by
 rintro ⟨x,y⟩ he
 have qJ:x≠y:=hC.ne _ he;obtain ⟨x',h1,J⟩:=SJ (HN x (o7 he).1) ⟨y,HN y (o7 he).2,Ne.symm qJ⟩;have a:=kg hT h1 (HN y (o7 he).2);have b:=E7 hC.eL he ((hs x').2 (.oo (o7 h1).2));rw [yi] at b;obtain ⟨m,hm,hl,v1,v2⟩:=h _ h1;exact ⟨m,hm,hl,v1,Vn v1 v2 J (by grind)⟩
theorem Wu {α:Type} [DecidableEq α]:∀ (n:Nat) (S:List α) (f:Nat→α),(∀ k,k < n→f k∈S)→(∀ i j,i < n→j < n→f i=f j→i=j)→n≤S.length:=by
 intro n
 induction n with
 | zero=>intro S f _ _; omega
 | succ n ih =>
  intro S f h1 J;have hn:=h1 n (by omega)
  have:=ih (S.erase (f n)) f (fun k hk=>(List.mem_erase_of_ne fun e=>by have:=J k n (by omega) (by omega) e; omega).2 (h1 k (by omega))) (fun i j hi hj=>J i j (by omega) (by omega))
  rw [List.length_erase_of_mem hn] at this;have:0 < S.length:=List.length_pos_of_mem hn;omega
theorem Vo {S:List Q3} {C:List Q2} (hC:Ring C) (h:∀ e∈bd C,ml (·∈S) e):C.length≤S.length:=by
 have h3:=hC.three;have hf:∀ k,∃ m:Q3,k < C.length→m∈S∧mj m∧ba m (an C k)=0∧ba m (an C (aN C.length k))=0:=fun k=>by
  by_cases hk:k < C.length
  ·obtain ⟨m,h⟩:=h _ (jq hk);exact ⟨m,fun _=>h⟩
  ·exact ⟨(0,0,0),fun h=>absurd h hk⟩
 obtain ⟨f,hf⟩:=Classical.axiomOfChoice hf;refine Wu C.length S f (fun k hk=>(hf k hk).1) fun i j hi hj e=>Decidable.byContradiction fun aH=>?_
 obtain ⟨_,hl,i1,i2⟩:=hf i hi;obtain ⟨_,_,j1,j2⟩:=hf j hj;rw [← e] at j1 j2;have hx:∀ a b c,a < C.length→b < C.length→c < C.length→a≠b→a≠c→b≠c→ba (f i) (an C a)=0→ba (f i) (an C b)=0→ba (f i) (an C c)=0→False:=fun a b c ha hb hc dQ Aa oK va vb vc =>
  xL (hC.ext.1 (c5 ha)) (hC.ext.1 (c5 hb)) (hC.ext.1 (c5 hc)) (fun e=>dQ (tM hC.nodup ha hb e)) (fun e=>Aa (tM hC.nodup ha hc e)) (fun e=>oK (tM hC.nodup hb hc e)) (Ni hl va vb vc)
 by_cases h1:aN C.length i=j
 ·subst h1;refine hx i _ _ hi hj (ck hj) aH (fun e=>?_) (Ne.symm (rG hj (by omega))) i1 i2 j2
  unfold aN at e;rcases Nat.lt_or_ge (i+1) C.length with h | h
  ·rw [Nat.mod_eq_of_lt h] at e;rcases Nat.lt_or_ge (i+1+1) C.length with h' | h'
   ·rw [Nat.mod_eq_of_lt h'] at e; omega
   ·rw [show i+1+1=C.length by omega,Nat.mod_self] at e; omega
  ·rw [show i+1=C.length by omega,Nat.mod_self,Nat.mod_eq_of_lt (by omega)] at e; omega
 ·exact hx i j _ hi hj (ck hi) aH (Ne.symm (rG hi (by omega))) (Ne.symm h1) i1 j1 i2
theorem Wv {k:Nat} {C:List Q2} (hC:Ring C) (h:∀ e∈bd C,ml (Q3.sz k) e):∀ v∈C,Q2.sz (8*k+2) v:=by
 intro v hv;obtain ⟨i,hi,rfl⟩:=tK hv;obtain ⟨l,sl,hl,l1,l2⟩:=h _ (rk hi);obtain ⟨m,sm,hm,m1,m2⟩:=h _ (jq hi);have l2:ba l (an C i)=0:=l2;have m1:ba m (an C i)=0:=m1;have hd:p7 l m≠0:=Zi hl l1 l2 (fun e=>by
  have hc:=hC.tW i hi;rw [Ni hm (e.trans m1) m1 m2] at hc;grind)
 rw [Zh l2 m1 hd];exact Q2.mono (Zg sl sm) (by omega)
def CB (P:List Q2) (e:Q2 × Q2):List Q2:=fu (eY (eg e.1 e.2) P)
def CC (P B:List Q2):List Q2:=(bd B).foldl CB P
def iS (P B:List Q2) (j:Nat):List Q2:=((bd B).take j).foldl CB P
theorem SM {P B:List Q2} {j:Nat} {e:Q2 × Q2} (h:(bd B)[j]?=some e):iS P B (j+1)=CB (iS P B j) e:=by
 unfold iS;rw [List.take_add_one,h,List.foldl_append]; rfl
theorem T4 (P B:List Q2):iS P B B.length=CC P B:=by
 unfold iS CC;rw [← mw B,List.take_length]
def p8 (S:Q3→Prop) (P:List Q2):Prop:=P=[]∨(Ring P∧kW P∧∀ e∈bd P,ml S e)
theorem T5 {S:Q3→Prop} {P:List Q2} {e:Q2 × Q2} (aH:e.1≠e.2) (hS:S (eg e.1 e.2)) (h:p8 S P):p8 S (CB P e):=by
 rcases h with rfl | ⟨hR,ho,Dz⟩
 ·exact .inl rfl
 ·have hT:=Va (m:=eg e.1 e.2) hR.eL;rcases SL hT with ⟨_,h⟩ | ⟨_,h1,J,h3,h4⟩
  ·exact .inl h
  ·exact .inr ⟨h1,J,Wt hT h1 h3 h4 (Zj hS (Mw aH) Dz)⟩
theorem SN {S:Q3→Prop} {P B:List Q2} (hB:∀ e∈bd B,e.1≠e.2∧S (eg e.1 e.2)) (h:p8 S P) (j:Nat):p8 S (iS P B j):=by
 unfold iS;have hl:∀ e∈(bd B).take j,e.1≠e.2∧S (eg e.1 e.2):=fun e he=>hB e (List.mem_of_mem_take he)
 revert hl;generalize (bd B).take j=l;intro hl
 induction l generalizing P with
 | nil=>exact h
 | cons e l ih=>exact ih (T5 (hl e (List.mem_cons_self ..)).1 (hl e (List.mem_cons_self ..)).2 h) fun x hx=>hl x (List.mem_cons_of_mem _ hx)
theorem SO {S:List Q3} {k:Nat} {P:List Q2} (hk:∀ m∈S,Q3.sz k m) (h:p8 (·∈S) P):P.length≤S.length∧∀ v∈P,Q2.sz (8*k+2) v:=by
 rcases h with rfl | ⟨hR,_,Dz⟩
 ·exact ⟨Nat.zero_le _,fun v hv=>nomatch hv⟩
 ·exact ⟨Vo hR Dz,Wv hR fun e he=>(Dz e he).imp fun m hm=>⟨hk m hm.1,hm.2⟩⟩
def rH (P:List Q2):List Q3:=(bd P).map fun e=>eg e.1 e.2
theorem LH (P:List Q2):(rH P).length=P.length:=by unfold rH; rw [List.length_map,mw]
theorem LI {P:List Q2} {e:Q2 × Q2} (h:e∈bd P):eg e.1 e.2∈rH P:=List.mem_map_of_mem (f:=fun e:Q2 × Q2=>eg e.1 e.2) h
theorem Vp {P:List Q2} (h:Ring P):∀ e∈bd P,ml (·∈rH P) e:=fun e he=>⟨_,LI he,Mw (h.ne e he),by rw [wP,oc],by rw [wP,od]⟩
theorem Mx {P:List Q2} {k:Nat} (h:∀ v∈P,Q2.sz k v):∀ m∈rH P,Q3.sz (6*k+3) m:=fun m hm=>by
 obtain ⟨e,he,rfl⟩:=List.mem_map.1 hm;have:=o7 he;exact Q3.mono (NQ (h _ this.1) (h _ this.2)) (by omega)
theorem ml.mono {S T:Q3→Prop} {e:Q2 × Q2} (h:ml S e) (hs:∀ m,S m→T m):ml T e:=h.imp fun m hm=>⟨hs m hm.1,hm.2⟩
theorem p8.mono {S T:Q3→Prop} {P:List Q2} (h:p8 S P) (hs:∀ m,S m→T m):p8 T P:=h.imp id fun h=>⟨h.1,h.2.1,fun e he=>(h.2.2 e he).mono hs⟩
def NW (P B:List Q2):Prop:=∀ j,j≤B.length→(iS P B j).length≤1073741824∧∀ v∈iS P B j,Q2.sz 2048 v
theorem Ww {S:List Q3} {P B:List Q2} (hB:Ring B) (hk:∀ m∈S,Q3.sz 255 m) (hl:∀ m∈rH B,Q3.sz 255 m) (hn:S.length+B.length≤1073741824) (h:p8 (·∈S) P):NW P B:=fun j hj=>by
 have hm:=SN (S:=(·∈S++rH B)) (B:=B) (fun e he=>⟨hB.ne e he,List.mem_append_right _ (LI he)⟩) (h.mono fun m hm=>List.mem_append_left _ hm) j
 obtain ⟨h1,J⟩:=SO (k:=255) (fun m hm=>(List.mem_append.1 hm).elim (hk m) (hl m)) hm
 rw [List.length_append,LH] at h1;exact ⟨by omega,fun v hv=>Q2.mono (J v hv) (by decide)⟩
open Go
def dz (l:List PV):Bool:=l.any fun p=>decide (¬ p.canon)
instance (a b:Q2):Decidable (im a b):=inferInstanceAs (Decidable (_∨_))
def C1 (Q:List Q2):Bool:=(List.range Q.length).all fun i=>decide (i=0∨im (an Q 0) (an Q i))
instance (Q:List Q2) (i:Nat):Decidable (oq Q i):=inferInstanceAs (Decidable (_∨_))
def CD (Q:List Q2):Bool:=(List.range Q.length).all fun i=>decide (¬ oq Q i)
theorem Br {Q:List Q2}:C1 Q=true↔kW Q:=by
 unfold C1 kW;rw [List.all_eq_true];constructor
 ·intro h i h0 hi;exact (of_decide_eq_true (h i (List.mem_range.2 hi))).resolve_left (by omega)
 ·intro h i hi;by_cases h0:i=0
  ·exact decide_eq_true (.inl h0)
  ·exact decide_eq_true (.inr (h i (by omega) (List.mem_range.1 hi)))
theorem Fe {Q:List Q2} (h3:3≤Q.length) (ho:kW Q):CD Q=true↔Ring Q:=by
 rw [yk h3 ho];unfold CD;rw [List.all_eq_true];exact ⟨fun h i hi=>of_decide_eq_true (h i (List.mem_range.2 hi)),fun h i hi=>decide_eq_true (h i (List.mem_range.1 hi))⟩
def bz (L:List PV):Int :=
 if L.length < 3∨64 < L.length then 4 else if dz L=true then 1 else if C1 (aU L)=true then (if CD (aU L)=true then 0 else 15) else 8
theorem o9 {L:List PV} (h:bz L=0):(3≤L.length∧L.length≤64)∧(∀ p∈L,p.canon)∧Ring (aU L)∧kW (aU L):=by
 unfold bz at h
 split at h
 ·cases h
 ·rename_i h1
  split at h
  ·cases h
  ·rename_i J
   split at h
   ·rename_i h3
    split at h
    ·rename_i h4;have ho:=Br.1 h3;exact ⟨by omega,fun p hp=>Decidable.byContradiction fun e=>J (List.any_eq_true.2 ⟨p,hp,decide_eq_true e⟩),(Fe (by rw [c4]; omega) ho).1 h4,ho⟩
    ·cases h
   ·cases h
def zl (p:Q2) (o:Int) (e:Q2 × Q2):Int:=if aV (ao e.1 e.2 p) 0 < o then aV (ao e.1 e.2 p) 0 else o
def eK (Q:List Q2) (p:Q2):Int:=(bd Q).foldl (zl p) 1
def p9 (L:List PV) (p:PV):Int × Int:=if bz L=0∧p.canon then (eK (aU L) p.p,0) else (0,1)
def uI (R:List Q2):List Q2 × Int:=if R.length=0 then ([],11) else if 64 < R.length then ([],4) else (R,0)
def gI (A B:List PV):List Q2 × Int:=if bz A=0∧bz B=0 then uI (CC (aU A) (aU B)) else ([],1)
def qO (s:Bool) (o:Int):Bool:=if s then decide (o≤0) else decide (o < 0)
def gW (s:Bool) (A B:List Q2):Option (Q2 × Q2):=(bd A).find? fun e=>B.all fun x=>qO s (aV (ao e.1 e.2 x) 0)
def jX (s:Bool) (A B:List Q2):Option (Q2 × Q2):=match gW s A B with
 | some e=>some e
 | none=>gW s B A
def Pf (s:Bool) (A B:List PV):Bool × Int:=if bz A=0∧bz B=0 then ((jX s (aU A) (aU B)).isNone,0) else (false,1)
def Qa (e:Q2 × Q2):XV:=(bW e.1,bW e.2)
def mS (A B:List PV):XV × Int:=if bz A=0∧bz B=0 then (match jX true (aU A) (aU B) with | some e=>(Qa e,0) | none=>(mL,6)) else (mL,1)
def xp (a b:Q2) (st:Option (Rat × Rat)) (e:Q2 × Q2):Option (Rat × Rat) :=
 match st with
 | none=>none
 | some (lo,hi) =>
  if ao e.1 e.2 b - ao e.1 e.2 a=0 then (if ao e.1 e.2 a≤0 then none else some (lo,hi))
  else if 0 < ao e.1 e.2 b - ao e.1 e.2 a then some (lh lo (-ao e.1 e.2 a / (ao e.1 e.2 b - ao e.1 e.2 a)),hi)
  else some (lo,ll hi (-ao e.1 e.2 a / (ao e.1 e.2 b - ao e.1 e.2 a)))
def qe (Q:List Q2) (a b:Q2):Option (Rat × Rat):=match (bd Q).foldl (xp a b) (some (0,1)) with
 | none=>none
 | some (lo,hi)=>if hi≤lo then none else some (lo,hi)
def gE (L:List PV) (s:XV):(RV × RV) × Bool × Int :=
 if bz L=0∧s.1.canon∧s.2.canon then (match qe (aU L) s.1.p s.2.p with | some (lo,hi)=>((RV.of lo,RV.of hi),true,0) | none=>((cX,cX),false,0)) else ((cX,cX),false,1)
abbrev QL:=Option (List Q2 × Nat)
def QL.val:QL→Value
 | none=>.slice none 0 0
 | some i=>.slice (some ⟨0,0,none⟩) i.1.length i.2
def QL.aj:QL→List ah
 | none=>[]
 | some i=>[.flat false i.1.length 6 (bS i.1)]
def QL.list:QL→List Q2
 | none=>[]
 | some i=>i.1
def cQ (R:List Q2):Option ah:=match R.length with
 | 0=>none
 | n+1=>some (.flat true (n+1) 6 (bS R))
def RV.c1 (x:RV):List Value:=[.bool x.1,.string x.2.1,.string x.2.2]
def PL.fit (i:PL):Prop:=i.list.length≤1099511627776∧∀ v∈i.list,v.sz 2048
def CE:bu:={ ι:=PV,args:=fun i=>[i.v],pre:=fun i=>i.sz 2048,val:=fun i=>.bool (decide (¬ i.canon)) }
def dU:cE:={ ι:=PL,args:=fun i=>[i.val],aj:=PL.aj,pre:=PL.fit,val:=fun i=>.bool (!dz i.list),new:=fun _=>none }
def bm:cE:={ ι:=PL,args:=fun i=>[i.val],aj:=PL.aj,pre:=PL.fit,val:=fun i=>.int .i64 (bz i.list),new:=fun _=>none }
def mD:cE:={ ι:=PL × PV,args:=fun i=>[i.1.val,i.2.v],aj:=fun i=>i.1.aj,pre:=fun i=>i.1.fit∧i.2.sz 2048,val:=fun i=>.int .i64 (eK (aU i.1.list) i.2.p),new:=fun _=>none }
def kh:cE:={ ι:=PL × PV,args:=fun i=>[i.1.val,i.2.v],aj:=fun i=>i.1.aj,pre:=fun i=>i.1.fit∧i.2.sz 2048,val:=fun i=>ZE.v (p9 i.1.list i.2),new:=fun _=>none }
def pE:bu:={ ι:=xE,args:=fun i=>[i.1.v,i.2.1.v,i.2.2.v],pre:=CY,val:=fun i=>(RV.of (ao i.1.p i.2.1.p i.2.2.p)).v }
def e9:cE:={ ι:=QL,args:=fun i=>[i.val],aj:=QL.aj,pre:=fun i=>i.list.length≤549755813888∧∀ v∈i.list,Q2.sz 262144 v,val:=fun i=>ef i.aj.length (fu i.list).length,new:=fun i=>cQ (fu i.list) }
def qM.fit (i:qM):Prop:=(i.1.fit∧i.2.fit)
def C2 (A B:List PV):Prop:=bz A=0→bz B=0→NW (aU A) (aU B)
def iT:cE:={ ι:=qM,args:=fun i=>[i.1.val,i.2.Cz i.1.aj.length],aj:=fun i=>i.1.aj++i.2.aj,pre:=fun i=>qM.fit i∧C2 i.1.list i.2.list,val:=fun i=>.tuple ⟨[ef (i.1.aj++i.2.aj).length (gI i.1.list i.2.list).1.length,.int .i64 (gI i.1.list i.2.list).2]⟩,new:=fun i=>cQ (gI i.1.list i.2.list).1 }
def Ov (s:Bool):cE:={ ι:=qM,args:=fun i=>[i.1.val,i.2.Cz i.1.aj.length],aj:=fun i=>i.1.aj++i.2.aj,pre:=qM.fit,val:=fun i=>.tuple ⟨[.bool (Pf s i.1.list i.2.list).1,.int .i64 (Pf s i.1.list i.2.list).2]⟩,new:=fun _=>none }
def mf:cE:={ ι:=qM,args:=fun i=>[i.1.val,i.2.Cz i.1.aj.length],aj:=fun i=>i.1.aj++i.2.aj,pre:=qM.fit,val:=fun i=>.tuple ⟨[(mS i.1.list i.2.list).1.v,.int .i64 (mS i.1.list i.2.list).2]⟩,new:=fun _=>none }
def lU:cE:={ ι:=PL × XV,args:=fun i=>[i.1.val,i.2.v],aj:=fun i=>i.1.aj,pre:=fun i=>i.1.fit∧i.2.1.sz 2048∧i.2.2.sz 2048,val:=fun i=>.tuple ⟨[(gE i.1.list i.2).1.1.v,(gE i.1.list i.2).1.2.v,.bool (gE i.1.list i.2).2.1,.int .i64 (gE i.1.list i.2).2.2]⟩,new:=fun _=>none }
def sf (a b p:PV):Bool:=decide (p≠a∧p≠b∧aV (ao a.p b.p p.p) 0≤0)
def rR:cE:={ ι:=xE,args:=fun i=>[i.2.2.v,.pointer (some ⟨0,0,none⟩),.pointer (some ⟨1,0,none⟩)],aj:=fun i=>[.flat false 1 6 (fun _=>i.1.cells),.flat false 1 6 (fun _=>i.2.1.cells)],pre:=fun i=>i.1.sz 2048∧i.2.1.sz 2048∧i.2.2.sz 2048,val:=fun i=>.bool (sf i.1 i.2.1 i.2.2),new:=fun _=>none }
def uo (L:List PV) (i:Nat):Prop:=∀ p∈L.take i,p.canon
theorem Kn (L:List PV):uo L 0:=fun p hp=>by simp at hp
theorem K1 {L:List PV} {i:Nat} {p:PV} (h:uo L i) (hp:L[i]?=some p) (hc:p.canon):uo L (i+1):=fun q hq=>by
 rw [List.take_add_one,hp] at hq;simp only [Option.toList_some,List.mem_append,List.mem_singleton] at hq;rcases hq with hq | rfl
 ·exact h q hq
 ·exact hc
theorem LJ {L:List PV} (h:uo L L.length):dz L=false:=by
 cases e:dz L
 ·rfl
 ·obtain ⟨p,hp,hg⟩:=List.any_eq_true.1 e;rw [uo,List.take_length] at h;exact absurd (h p hp) (of_decide_eq_true hg)
theorem pf {L:List PV} {n j:Nat} (hn:n=L.length) (h:j < n):∃ a b:PV,c6 L j=a.cells∧c6 L (aN n j)=b.cells∧(a∈L∧b∈L)∧(bd (aU L))[j]?=some (a.p,b.p)∧aN n j < n∧a=g7 L j∧b=g7 L (aN n j):=by
 have hl:=ck h;refine ⟨g7 L j,g7 L (aN n j),o8 (by omega),o8 (by omega),⟨nj (by omega),nj (by omega)⟩,?_,hl,rfl,rfl⟩
 rw [jz (by omega),jz (by omega)]
 exact rh (gk (by rw [c4]; omega)) (by rw [c4,← hn]; exact gk (by rw [c4]; show aN n j < _; omega))
theorem Ff {α β:Type} {f:β→α→β} {l:List α} {z:β} {j:Nat} {e:α} (h:l[j]?=some e):(l.take (j+1)).foldl f z=f ((l.take j).foldl f z) e:=by
 rw [List.take_add_one,h,List.foldl_append]; rfl
theorem SP (L:List PV):(bd (aU L)).take L.length=bd (aU L):=by
 rw [← c4 L,← mw (aU L),List.take_length]
def rI (Q:List Q2) (p:Q2) (j:Nat):Int:=((bd Q).take j).foldl (zl p) 1
theorem Ko {Q:List Q2} {p a b:Q2} {j:Nat} (h:(bd Q)[j]?=some (a,b)):rI Q p (j+1)=if aV (ao a b p) 0 < rI Q p j then aV (ao a b p) 0 else rI Q p j:=by
 unfold rI;rw [Ff h];simp only [zl]
theorem K2 {L:List PV} {p:Q2}:rI (aU L) p L.length=eK (aU L) p:=by unfold rI; rw [SP]; rfl
theorem BL {L:List PV} (h:L.length < 3∨64 < L.length):bz L=4:=if_pos h
theorem Nj {L:List PV} (h:¬ (L.length < 3∨64 < L.length)) (J:dz L=true):bz L=1:=by unfold bz; rw [if_neg h,if_pos J]
theorem Nk {L:List PV} (h:¬ (L.length < 3∨64 < L.length)) (J:dz L=false) (h3:¬ kW (aU L)):bz L=8:=by unfold bz; rw [if_neg h,if_neg (by rw [J]; decide),if_neg (fun e=>h3 (Br.1 e))]
theorem Gh {L:List PV} (h:¬ (L.length < 3∨64 < L.length)) (J:dz L=false) (h3:kW (aU L)) (h4:¬ Ring (aU L)):bz L=15:=by
 unfold bz;rw [if_neg h,if_neg (by rw [J]; decide),if_pos (Br.2 h3),if_neg (fun e=>h4 ((Fe (by rw [c4]; omega) h3).1 e))]
theorem My {L:List PV} (h:¬ (L.length < 3∨64 < L.length)) (J:dz L=false) (h3:kW (aU L)) (h4:Ring (aU L)):bz L=0:=by
 unfold bz;rw [if_neg h,if_neg (by rw [J]; decide),if_pos (Br.2 h3),if_pos ((Fe (by rw [c4]; omega) h3).2 h4)]
theorem x7 {L:List PV} (h:dz L=false) {p:PV} (hp:p∈L):p=bW p.p:=by
 have hc:p.canon:=Decidable.byContradiction fun e=>by
  have:dz L=true:=List.any_eq_true.2 ⟨p,hp,decide_eq_true e⟩;rw [h] at this; cases this
 exact Prod.ext hc.1 hc.2
def xf (Q:List Q2) (i:Nat):Prop:=∀ k,0 < k→k≤i→im (an Q 0) (an Q k)
theorem Kp (Q:List Q2):xf Q 0:=fun k h0 h=>by omega
theorem K3 {Q:List Q2} {i:Nat} (h:xf Q i) (J:im (an Q 0) (an Q (i+1))):xf Q (i+1):=fun k h0 hk=>by
 rcases Nat.lt_or_eq_of_le hk with e | e
 ·exact h k h0 (by omega)
 ·rw [e]; exact J
theorem LK {Q:List Q2} {i:Nat} (h:xf Q i) (hi:i+1=Q.length):kW Q:=fun k h0 hk=>h k h0 (by omega)
theorem NX {a b:Q2}:im a b↔0 < fk b a:=by
 rw [← yr];have h1:=KU a b;have J:=KU b a;have h3:=SH (p:=a) (q:=b);have h4:=tL (a:=a) (b:=b);have h5:=tL (a:=b) (b:=a);have h6:fk a b < 0↔im a b:=yr;have h7:fk b a < 0↔im b a:=yr;have h8:¬ (im a b∧im b a):=fun ⟨x,y⟩=>by unfold im at x y; grind
 constructor
 ·intro h;have:¬ fk b a < 0:=fun e=>h8 ⟨h6.1 h,h7.1 e⟩
  omega
 ·intro h;refine Decidable.byContradiction fun hc=>?_
  have h9:g0 b a:=h5.2 hc;have IM:g0 a b:=h4.2 (by omega)
  have:a=b:=Mt IM h9;have:=h3.2 (n9.2 this);omega
theorem Zo {L:List PV} {j:Nat} {a b:PV} (h:j < L.length) (ha:a=g7 L j) (hb:b=g7 L (aN L.length j)) (J:L.any (sf a b)=false):¬ yJ (aU L) j:=by
 rintro ⟨q,hq,h3,h4,h5⟩
 obtain ⟨p,hp,rfl⟩:=List.mem_map.1 hq;rw [c4] at h4 h5;rw [← jz h,← ha] at h3 h5;rw [← jz (ck h),← hb] at h4 h5;have:L.any (sf a b)=true:=List.any_eq_true.2 ⟨p,hp,decide_eq_true ⟨fun e=>h3 (by rw [e]),fun e=>h4 (by rw [e]),Int.not_lt.1 fun e=>Rat.not_lt.2 h5 (tx.1 e)⟩⟩
 rw [J] at this; cases this
theorem Wx {L:List PV} {j:Nat} {a b p:PV} (hc:dz L=false) (h:j < L.length) (ha:a=g7 L j) (hb:b=g7 L (aN L.length j)) (hp:p∈L) (J:sf a b p=true):yJ (aU L) j:=by
 obtain ⟨h3,h4,h5⟩:=of_decide_eq_true J;have ca:=x7 hc (p:=a) (by rw [ha]; exact nj h)
 have cb:=x7 hc (p:=b) (by rw [hb]; exact nj (ck h))
 have cp:=x7 hc hp;refine ⟨p.p,List.mem_map_of_mem hp,?_,?_,?_⟩
 ·rw [← jz h,← ha]; exact fun e=>h3 (by rw [cp,ca,e])
 ·rw [c4,← jz (ck h),← hb]; exact fun e=>h4 (by rw [cp,cb,e])
 ·rw [c4,← jz h,← ha,← jz (ck h),← hb]; exact Rat.not_lt.1 fun e=>by have:=tx.2 e; omega
theorem adm {p:PV} (h:true=dz [p]):p.canon→False:=fun hc=>by
 unfold dz at h;simp [hc] at h
theorem abC {p:PV} (h:false=dz [p]):p.canon:=Decidable.byContradiction fun hc=>by
 unfold dz at h;simp [hc] at h
theorem adn {p q:PV} (h:true=dz [p,q]):p.canon→q.canon→False:=fun h1 J=>by
 unfold dz at h;simp [h1,J] at h
theorem abD {p q:PV} (h:false=dz [p,q]):p.canon∧q.canon:=by
 unfold dz at h;simp at h;exact h
theorem NY {L:List PV} {p:PV} (h:¬ (bz L=0∧p.canon)):p9 L p=(0,1):=if_neg h
theorem Nl {L:List PV} {p:PV} (h:bz L=0∧p.canon):p9 L p=(eK (aU L) p.p,0):=if_pos h
def uJ:bu:={ ι:=xE,args:=fun i=>[i.1.v,i.2.1.v,i.2.2.v],pre:=CY,val:=fun i=>.bool (decide (i.2.1≠i.2.2)) }
def uK:bu:={ ι:=xE,args:=fun i=>[i.1.v,i.2.1.v,i.2.2.v],pre:=CY,val:=fun i=>.bool (decide (aV (ao i.1.p i.2.1.p i.2.2.p) 0≠0)) }
def rS (b:Bool) (Q:List Q2):List Q2:=match b with
 | false=>gi Q
 | true=>jm Q
def jT (f g:FuncId):cE:={ ι:=QL × Bool,args:=fun i=>[i.1.val,.func (.func (match i.2 with | false=>f | true=>g)) #[] #[]],aj:=fun i=>i.1.aj,pre:=fun i=>i.1.list.length≤549755813888∧∀ v∈i.1.list,Q2.sz 262144 v,val:=fun i=>ef i.1.aj.length (rS i.2 i.1.list).length,new:=fun i=>cQ (rS i.2 i.1.list) }
theorem Bs {R:List Q2} {B:ah} (h:cQ R=some B):B.jr=true:=by
 unfold cQ at h
 split at h
 ·cases h
 ·cases h; rfl
def pS (Q:List Q2) (j:Nat):List Q2:=((bd Q).take j).flatMap mN
def rT (Q:List Q2) (j:Nat):List Q2:=(List.range j).flatMap (nw Q)
theorem SQ {Q:List Q2} {j:Nat} {a b:PV} (h:j < Q.length) (ha:a=bW (an Q j)) (hb:b=bW (an Q (aN Q.length j))):pS Q (j+1)=pS Q j++if a≠b then [an Q j] else []:=by
 unfold pS;rw [LG (rh (gk h) (gk (ck h)))]
 congr 1
 show (if fk (an Q j) (an Q (aN Q.length j))≠0 then [an Q j] else [])=_
 by_cases e:an Q j=an Q (aN Q.length j)
 ·rw [if_neg (fun h=>h (n9.2 e)),if_neg (fun h=>h (by rw [ha,hb,e]))]
 ·rw [if_pos (fun h=>e (n9.1 h)),if_pos (fun h=>e ((Wp ha hb).1 h))]
theorem SR {Q:List Q2} {j:Nat} {a b c:Q2} (ha:a=an Q (dY Q.length j)) (hb:b=an Q j) (hc:c=an Q (aN Q.length j)):rT Q (j+1)=rT Q j++if aV (ao a b c) 0≠0 then [b] else []:=by
 unfold rT;rw [List.range_succ,List.flatMap_append,List.flatMap_singleton,Vk ha hb hc rfl]
theorem LM (Q:List Q2):pS Q Q.length=gi Q:=by unfold pS gi; rw [← mw Q,List.take_length]
theorem Vq (Q:List Q2) (j:Nat):(pS Q j).length≤Q.length:=Wr Q j
theorem Vr (Q:List Q2) (j:Nat):(rT Q j).length≤j:=Ws Q j
theorem Mz {L:List Q2} {n j:Nat} {a b d:PV} (hn:n=L.length) (h:j < n) (ha:a.p=an L (dY n j)) (hb:b=bW (an L j)) (hd:d=bW (an L (aN n j))):∃ z:Bool,uJ.val (a,b,d)=.bool z∧pS L (j+1)=pS L j++if z=true then [an L j] else []:=by
 refine ⟨decide (b≠d),rfl,?_⟩;rw [SQ (a:=b) (b:=d) (by omega) hb (by rw [← hn]; exact hd)]
 by_cases e:b=d
 ·rw [if_neg (fun h=>h e),if_neg (by rw [decide_eq_false (fun h=>h e)]; decide)]
 ·rw [if_pos e,if_pos (decide_eq_true e)]
theorem MA {L:List Q2} {n j:Nat} {a b d:PV} (hn:n=L.length) (h:j < n) (ha:a.p=an L (dY n j)) (hb:b=bW (an L j)) (hd:d=bW (an L (aN n j))):∃ z:Bool,uK.val (a,b,d)=.bool z∧rT L (j+1)=rT L j++if z=true then [an L j] else []:=by
 have eb:b.p=an L j:=by rw [hb,gQ]
 have ed:d.p=an L (aN n j):=by rw [hd,gQ]
 refine ⟨decide (aV (ao a.p b.p d.p) 0≠0),rfl,?_⟩;rw [SR (a:=a.p) (b:=b.p) (c:=d.p) (by rw [← hn]; exact ha) eb (by rw [← hn]; exact ed),eb]
 by_cases e:aV (ao a.p (an L j) d.p) 0=0
 ·rw [if_neg (fun h=>h e),if_neg (by rw [decide_eq_false (fun h=>h e)]; decide)]
 ·rw [if_pos e,if_pos (decide_eq_true e)]
theorem LN (Q:List Q2):rT Q Q.length=jm Q:=rfl
theorem T6 (Q:List Q2):fu Q=if (rS true (rS false Q)).length < 3 then [] else eD (rS true (rS false Q)):=rfl
theorem Wy {R:List Q2} {n:Nat} (h:R.length=n) (h0:0 < n):cQ R=some (.flat true n 6 (bS R)):=by
 unfold cQ;rw [h];cases n with
 | zero=>omega
 | succ n=>rfl
theorem Wz {k n:Nat} (h0:0 < n):ef k n=.slice (some ⟨k,0,none⟩) n aJ:=by
 cases n with
 | zero=>omega
 | succ n=>rfl
def HO (f:FuncId):cE:={ ι:=QL × mi,args:=fun i=>[.func (.func f) #[] #[.pointer (some ⟨i.1.aj.length,0,none⟩),.pointer (some ⟨i.1.aj.length+1,0,none⟩),.pointer (some ⟨i.1.aj.length+2,0,none⟩)]],aj:=fun i=>i.1.aj++[.aL false 1 [[i.1.val]],.aL false 6 [i.2.1.cells], .aL false 6 [i.2.2.cells]],pre:=fun i=>i.1.list.length≤1073741824∧(∀ v∈i.1.list,Q2.sz 2048 v)∧i.2.1.sz 2048∧i.2.2.sz 2048,val:=fun i=>ef (i.1.aj.length+3) (eY (eg i.2.1.p i.2.2.p) i.1.list).length,new:=fun i=>cQ (eY (eg i.2.1.p i.2.2.p) i.1.list) }
theorem xg {a b p:Q2} {k l m:Nat} (ha:Q2.sz k a) (hb:Q2.sz l b) (hp:Q2.sz m p):QB (ao a b p) (l+k+1+(m+k+1)+(l+k+1+(m+k+1))+1):=yg (om hb ha) (om hp ha)
theorem LO {m:Q3} {L:List Q2} {j:Nat} {a b w:PV} {O:List Q2} {x y:Rat} (fI:(bd L)[j]?=some (a.p,b.p)) (hO:O=((bd L).take j).flatMap (mR m)) (hx:x=ba m a.p) (hy:y=ba m b.p) (hw:w.p=atR a.p b.p (x / (x - y))) :
  ((bd L).take (j+1)).flatMap (mR m)=O++((if aV x 0 ≥ 0 then [a.p] else [])++if aV x 0*aV y 0 < 0 then [w.p] else []):=by
 rw [LG fI,← hO,mR];subst hx; subst hy
 congr 1
 unfold mM gu iR;rw [hw]
theorem MB (m:Q3) (L:List Q2):((bd L).take L.length).flatMap (mR m)=eY m L:=by rw [Nf,← mw L,List.take_length]
theorem WA (m:Q3) (L:List Q2) (j:Nat):(((bd L).take j).flatMap (mR m)).length≤2*L.length:=by
 have:=Fc m ((bd L).take j);rw [List.length_take,mw] at this;omega
theorem WB {L:List PV} (h:dz L=false):bE (aU L)=L:=by
 unfold bE aU;rw [List.map_map];refine (List.map_congr_left (fun p hp=>?_)).trans (List.map_id L)
 exact (x7 h hp).symm
theorem MC {L:List PV} (h:bz L=0):dz L=false:=by
 cases e:dz L
 ·rfl
 ·obtain ⟨p,hp,hc⟩:=List.any_eq_true.1 e;exact absurd ((o9 h).2.1 p hp) (of_decide_eq_true hc)
theorem FL {L:List PV} (h:bz L=0):bS (aU L)=c6 L:=by unfold bS; rw [WB (MC h)]
theorem WC {R:List Q2} (h:R.length=0):uI R=([],11):=if_pos h
theorem WD {R:List Q2} (h:64 < R.length):uI R=([],4):=by unfold uI; rw [if_neg (by omega),if_pos h]
theorem NZ {R:List Q2} (h:¬ R.length=0) (J:¬ 64 < R.length):uI R=(R,0):=by unfold uI; rw [if_neg h,if_neg J]
theorem WE {k:Nat} {m:Q3} {P:List Q2} (sm:Q3.sz k m) (hP:∀ v∈P,Q2.sz 2048 v) (hk:k≤12291):∀ v∈eY m P,Q2.sz 262144 v:=by
 intro v hv;rcases Wi hv with ⟨h1,_⟩ | ⟨e,he,hx⟩
 ·exact Q2.mono (hP v h1) (by decide)
 ·have hx:=xR hx;rw [hx.2.1];have h1:=hP _ (o7 he).1;have J:=hP _ (o7 he).2;have s1:=NR sm h1;have s2:=NR sm J;have:=um h1 J (s1.div (s1.sub s2) (by omega))
  exact Q2.mono this (by omega)
theorem FM {P:List Q2} {a b:Q2} (hl:P.length≤1073741824) (hP:∀ v∈P,Q2.sz 2048 v) (ha:Q2.sz 2048 a) (hb:Q2.sz 2048 b):(eY (eg a b) P).length≤549755813888∧∀ v∈eY (eg a b) P,Q2.sz 262144 v :=
 ⟨by have:=Vj (eg a b) P; omega,WE (k:=12291) (Q3.mono (NQ ha hb) (by decide)) hP (Nat.le_refl _)⟩
def ado (v:Value) (q:Nat):Nat→Value
 | 0=>v
 | _+1=>ef 5 q
def adp (F:Nat→List Value) (q:Nat):Nat→ay
 | 0=>[]
 | _+1=>zj 6 F q
theorem Hd {A B:List PV} (h:¬ (bz A=0∧bz B=0)):gI A B=([],1):=if_neg h
theorem N0 {A B:List PV} {R:List Q2} (h:bz A=0∧bz B=0) (hR:R=iS (aU A) (aU B) B.length):gI A B=uI R:=by
 unfold gI;rw [if_pos h,hR,← c4 B,T4]
theorem EF {P Q C R:List Q2} {j:Nat} {a b:Q2} (fI:(bd Q)[j]?=some (a,b)) (hC:C=eY (eg a b) (iS P Q j)) (hR:R=fu C):R=iS P Q (j+1):=by
 rw [SM fI,hR,hC]; rfl
def qf (s:Bool):bu:={ ι:=Int,args:=fun z=>[.int .i64 z],pre:=fun _=>True,val:=fun z=>.bool (qO s z) }
abbrev SI:=((List Q2 × Nat) × (List Q2 × Nat)) × FuncId × Bool
def gq (o:Option (Q2 × Q2)):XV × Bool:=match o with
 | some e=>(Qa e,true)
 | none=>(mL,false)
def SI.ok (f1 f2 f3:FuncId) (i:SI):Prop:=(i.2=(f1,true)∨i.2=(f2,false)∨i.2=(f3,true))∧(i.1.1.1.length≤1073741824∧∀ v∈i.1.1.1,Q2.sz 2048 v)∧i.1.2.1.length≤1073741824∧∀ v∈i.1.2.1,Q2.sz 2048 v
def xq (f1 f2 f3:FuncId) (V:Bool→List Q2→List Q2→Option (Q2 × Q2)):cE:={ ι:=SI,args:=fun i=>[.slice (some ⟨0,0,none⟩) i.1.1.1.length i.1.1.2,.slice (some ⟨1,0,none⟩) i.1.2.1.length i.1.2.2,.func (.func i.2.1) #[] #[]],aj:=fun i=>[.flat false i.1.1.1.length 6 (bS i.1.1.1),.flat false i.1.2.1.length 6 (bS i.1.2.1)],pre:=SI.ok f1 f2 f3,val:=fun i=>.tuple ⟨[(gq (V i.2.2 i.1.1.1 i.1.2.1)).1.v,.bool (gq (V i.2.2 i.1.1.1 i.1.2.1)).2]⟩,new:=fun _=>none }
def mT (s:Bool) (B:List Q2) (e:Q2 × Q2):Bool:=B.all fun x=>qO s (aV (ao e.1 e.2 x) 0)
def si (s:Bool) (a b x:Q2):Bool:=!qO s (aV (ao a b x) 0)
theorem WG {s:Bool} {B:List Q2} {a b:Q2} (h:B.any (si s a b)=false):mT s B (a,b)=true:=by
 unfold mT;rw [List.all_eq_true];intro x hx;cases e:qO s (aV (ao a b x) 0)
 ·have:B.any (si s a b)=true:=List.any_eq_true.2 ⟨x,hx,by unfold si; rw [e]; rfl⟩
  rw [h] at this; cases this
 ·rfl
theorem Gi {s:Bool} {B:List Q2} {a b x:Q2} (hx:x∈B) (h:si s a b x=true):mT s B (a,b)=false:=by
 unfold mT;cases e:B.all fun x=>qO s (aV (ao (a,b).1 (a,b).2 x) 0)
 ·rfl
 ·have:=List.all_eq_true.1 e x hx;unfold si at h;rw [show qO s (aV (ao a b x) 0)=true from this] at h
  cases h
theorem Vs {s:Bool} {A B:List Q2} {j:Nat} {e:Q2 × Q2} (h:nq (mT s B) (bd A) j) (he:(bd A)[j]?=some e) (J:mT s B e=true):gW s A B=some e:=by
 unfold gW;rw [show (fun e:Q2 × Q2=>B.all fun x=>qO s (aV (ao e.1 e.2 x) 0))=mT s B from rfl]
 have hj:=(List.getElem?_eq_some_iff.1 he).1;rw [← List.take_append_drop j (bd A),List.find?_append,List.find?_eq_none.2,List.drop_eq_getElem_cons hj]
 ·rw [List.find?_cons,(List.getElem?_eq_some_iff.1 he).2,J]; rfl
 ·intro x hx hc;have:((bd A).take j).any (mT s B)=true:=List.any_eq_true.2 ⟨x,hx,hc⟩;rw [show ((bd A).take j).any (mT s B)=false from h] at this
  cases this
theorem Vt {s:Bool} {A B:List Q2} {n:Nat} (hn:n=A.length) (h:nq (mT s B) (bd A) n):gW s A B=none:=by
 unfold gW;rw [List.find?_eq_none];intro x hx hc;rw [hn,← mw A] at h;have:=ED h;have J:(bd A).any (mT s B)=true:=List.any_eq_true.2 ⟨x,hx,hc⟩;rw [this] at J;cases J
theorem WH {s:Bool} {A B:List Q2} {x:XV} (h:gq (gW s A B)=(x,true)):gq (jX s A B)=(x,true):=by
 unfold jX;cases e:gW s A B with
 | none=>rw [e] at h; cases h
 | some y=>rw [e] at h; exact h
theorem WI {s:Bool} {A B:List Q2} {x:XV} (h:gq (gW s A B)=(x,false)):gq (jX s A B)=gq (gW s B A):=by
 unfold jX;cases e:gW s A B with
 | none=>rfl
 | some y=>rw [e] at h; cases h
theorem Ch {A B:List PV} (h:¬ (bz A=0∧bz B=0)):mS A B=(mL,1):=if_neg h
theorem WJ {A B:List PV} {x:XV} {z:Bool} (h:bz A=0∧bz B=0) (J:gq (jX true (aU A) (aU B))=(x,z)):mS A B=if z=true then (x,0) else (mL,6):=by
 unfold mS;rw [if_pos h];cases e:jX true (aU A) (aU B) with
 | none=>rw [e] at J; cases J; rfl
 | some y=>rw [e] at J; cases J; rfl
def nG:bu:={ ι:=PV,args:=fun i=>[i.v],pre:=fun _=>True,val:=fun i=>.bool (decide (¬ i.sz 12)) }
def mE (L:List PV):Bool:=decide ((10 < L.length∧L.length < 63)∨66 < L.length) || tV 12 L
def km:cE:={ ι:=PL,args:=fun i=>[i.val],aj:=PL.aj,pre:=fun i=>i.list.length≤9223372036854775807,val:=fun i=>.bool (mE i.list),new:=fun _=>none }
theorem K4 {L:List PV} (h:(10 < L.length∧L.length < 63)∨66 < L.length):mE L=true:=by unfold mE; rw [decide_eq_true h]; rfl
theorem SS {L:List PV} (h:¬ ((10 < L.length∧L.length < 63)∨66 < L.length)):mE L=tV 12 L:=by unfold mE; rw [decide_eq_false h]; rfl
theorem LP {L:List PV} (h:mE L=false):(L.length≤10∨(63≤L.length∧L.length≤66))∧∀ p∈L,p.sz 12:=by
 unfold mE at h;rw [Bool.or_eq_false_iff] at h;have h1:=of_decide_eq_false h.1;exact ⟨by omega,Rf h.2⟩
theorem BM {n1 n2:Bool} {a1 b1 a2 b2:ByteArray} (h:12 < a1.size∨12 < b1.size∨12 < a2.size∨12 < b2.size):Value.bool true=nG.val ((n1,a1,b1),(n2,a2,b2)):=by
 have hn:¬ PV.sz 12 ((n1,a1,b1),(n2,a2,b2)):=fun e=>by
  have e:(a1.size≤12∧b1.size≤12)∧a2.size≤12∧b2.size≤12:=e;omega
 exact congrArg Value.bool (decide_eq_true hn).symm
theorem Zp {n1 n2:Bool} {a1 b1 a2 b2:ByteArray} (h:¬ (12 < a1.size∨12 < b1.size∨12 < a2.size∨12 < b2.size)):Value.bool false=nG.val ((n1,a1,b1),(n2,a2,b2)):=by
 refine (congrArg Value.bool (decide_eq_false fun e=>e ?_)).symm
 show (a1.size≤12∧b1.size≤12)∧a2.size≤12∧b2.size≤12
 omega
open Go
open Go
def zm (a b:Q2) (st:Option (Rat × Rat)) (e:Q2 × Q2):Option (Rat × Rat) :=
 match st with
 | none=>none
 | some (lo,hi) =>
  if ao e.1 e.2 a≤0∧ao e.1 e.2 b≤0 then none
  else if 0 < ao e.1 e.2 a∧0 < ao e.1 e.2 b then some (lo,hi)
  else if 0 < ao e.1 e.2 b then some (lh lo (ao e.1 e.2 a / (ao e.1 e.2 a - ao e.1 e.2 b)),hi)
  else some (lo,ll hi (ao e.1 e.2 a / (ao e.1 e.2 a - ao e.1 e.2 b)))
def sj (st:Option (Rat × Rat)):Option (Rat × Rat):=match st with
 | none=>none
 | some (lo,hi)=>if hi≤lo then none else some (lo,hi)
theorem WK (Q:List Q2) (a b:Q2):qe Q a b=sj ((bd Q).foldl (xp a b) (some (0,1))):=rfl
theorem max_le (x y:Rat):x≤lh x y∧y≤lh x y:=by unfold lh; split <;> grind
theorem min_le (x y:Rat):ll x y≤x∧ll x y≤y:=by unfold ll; split <;> grind
theorem max_eq {x y:Rat} (h:y≤x):lh x y=x:=by unfold lh; rw [if_neg (by grind)]
theorem min_eq {x y:Rat} (h:x≤y):ll x y=x:=by unfold ll; rw [if_neg (by grind)]
theorem FN {a b:Q2}:∀ l:List (Q2 × Q2),l.foldl (xp a b) none=none
 | []=>rfl
 | e::l=>by rw [List.foldl_cons]; exact FN l
theorem ym {a b:Q2}:∀ l:List (Q2 × Q2),l.foldl (zm a b) none=none
 | []=>rfl
 | e::l=>by rw [List.foldl_cons]; exact ym l
theorem LQ (a b:Q2) (lo hi:Rat) (e:Q2 × Q2):xp a b (some (lo,hi)) e=if ao e.1 e.2 b - ao e.1 e.2 a=0 then (if ao e.1 e.2 a≤0 then none else some (lo,hi))
  else if 0 < ao e.1 e.2 b - ao e.1 e.2 a then some (lh lo (-ao e.1 e.2 a / (ao e.1 e.2 b - ao e.1 e.2 a)),hi)
  else some (lo,ll hi (-ao e.1 e.2 a / (ao e.1 e.2 b - ao e.1 e.2 a))):=rfl
theorem LR (a b:Q2) (lo hi:Rat) (e:Q2 × Q2):zm a b (some (lo,hi)) e=if ao e.1 e.2 a≤0∧ao e.1 e.2 b≤0 then none
  else if 0 < ao e.1 e.2 a∧0 < ao e.1 e.2 b then some (lo,hi)
  else if 0 < ao e.1 e.2 b then some (lh lo (ao e.1 e.2 a / (ao e.1 e.2 a - ao e.1 e.2 b)),hi)
  else some (lo,ll hi (ao e.1 e.2 a / (ao e.1 e.2 a - ao e.1 e.2 b))):=rfl
theorem MD {a b:Q2}:∀ (l:List (Q2 × Q2)) (lo hi:Rat),hi≤lo→sj (l.foldl (xp a b) (some (lo,hi)))=none:=by
 intro l
 induction l with
 | nil=>intro lo hi h; unfold sj; simp only [List.foldl_nil]; rw [if_pos h]
 | cons e l ih =>
  intro lo hi h;rw [List.foldl_cons,LQ]
  split
  ·split
   ·rw [FN]; rfl
   ·exact ih _ _ h
  ·split
   ·refine ih _ _ ?_;have:=(max_le lo (-ao e.1 e.2 a / (ao e.1 e.2 b - ao e.1 e.2 a))).1;grind
   ·refine ih _ _ ?_;have:=(min_le hi (-ao e.1 e.2 a / (ao e.1 e.2 b - ao e.1 e.2 a))).1;grind
theorem WL {x y:Rat} (h:y - x≠0):(-x / (y - x))*(y - x)=-x∧-x / (y - x)=x / (x - y):=by
 refine ⟨by rw [Rat.div_def]; grind,?_⟩
 have J:x - y≠0:=by grind
 have e1:(-x / (y - x))*(y - x)=-x:=by rw [Rat.div_def]; grind
 have e2:(x / (x - y))*(x - y)=x:=by rw [Rat.div_def]; grind
 have:(y - x)*(-x / (y - x) - x / (x - y))=0:=by grind
 have:=(Rat.mul_eq_zero.1 this).resolve_left h;grind
theorem Bd {a b k:Rat} (hk:0 < k) (h:a*k≤b*k):a≤b:=by
 by_cases h1:a≤b
 ·exact h1
 ·have:=Rat.mul_pos (show 0 < a - b by grind) hk
  grind
theorem Nm {a b:Q2}:∀ (l:List (Q2 × Q2)) (lo hi:Rat),0≤lo→hi≤1→sj (l.foldl (zm a b) (some (lo,hi)))=sj (l.foldl (xp a b) (some (lo,hi))):=by
 intro l
 induction l with
 | nil=>intro lo hi _ _; rfl
 | cons e l ih =>
  intro lo hi h0 h1;rw [List.foldl_cons,List.foldl_cons,LQ,LR];generalize ao e.1 e.2 a=x;generalize ao e.1 e.2 b=y;by_cases hs:y - x=0
  ·rw [if_pos hs];by_cases hx:x≤0
   ·rw [if_pos ⟨hx,by grind⟩,if_pos hx,ym,FN]
   ·rw [if_neg (fun e=>hx e.1),if_pos ⟨by grind,by grind⟩,if_neg hx]
    exact ih _ _ h0 h1
  ·obtain ⟨ht,te⟩:=WL hs;rw [if_neg hs,te];rw [te] at ht;generalize x / (x - y)=t at ht;by_cases hp:0 < y - x
   ·rw [if_pos hp];by_cases hy:y≤0
    ·rw [if_pos ⟨by grind,hy⟩,ym,MD]
     ·rfl
     ·have J:1≤t:=Bd hp (by grind)
      have:=(max_le lo t).2;grind
    ·rw [if_neg (fun e=>hy e.2)]
     by_cases hx:0 < x
     ·rw [if_pos ⟨hx,by grind⟩]
      have J:t≤0:=Bd hp (by grind)
      rw [max_eq (by grind)]
      exact ih _ _ h0 h1
     ·rw [if_neg (fun e=>hx e.1),if_pos (by grind)]
      exact ih _ _ (by have:=(max_le lo t).1; grind) h1
   ·have hn:0 < x - y:=by grind
    rw [if_neg hp];by_cases hx:x≤0
    ·rw [if_pos ⟨hx,by grind⟩,ym,MD]
     ·rfl
     ·have J:t≤0:=Bd hn (by grind)
      have:=(min_le hi t).2;grind
    ·rw [if_neg (fun e=>hx e.1)]
     by_cases hy:0 < y
     ·rw [if_pos ⟨by grind,hy⟩]
      have J:1≤t:=Bd hn (by grind)
      rw [min_eq (by grind)]
      exact ih _ _ h0 h1
     ·rw [if_neg (fun e=>hy e.2),if_neg hy]
      exact ih _ _ h0 (by have:=(min_le hi t).1; grind)
def uq (Q:List Q2) (a b:Q2) (j:Nat):Option (Rat × Rat):=((bd Q).take j).foldl (zm a b) (some (0,1))
theorem SU {Q:List Q2} {a b p q:Q2} {j:Nat} {lo hi x y:Rat} (h:uq Q a b j=some (lo,hi)) (he:(bd Q)[j]?=some (p,q)) (hx:x=ao p q a) (hy:y=ao p q b) :
  uq Q a b (j+1)=if x≤0∧y≤0 then none else if 0 < x∧0 < y then some (lo,hi) else if 0 < y then some (lh lo (x / (x - y)),hi) else some (lo,ll hi (x / (x - y))):=by
 unfold uq at *;rw [Ff he,h,LR];subst hx; subst hy;simp only
theorem SV {Q:List Q2} {a b:Q2} {j:Nat} (h:uq Q a b j=none):qe Q a b=none:=by
 rw [WK,← Nm _ _ _ (by grind) (by grind)]
 have e:bd Q=(bd Q).take j++(bd Q).drop j:=(List.take_append_drop ..).symm;rw [e,List.foldl_append,show List.foldl (zm a b) (some (0,1)) ((bd Q).take j)=none from h,ym]
 rfl
theorem T7 {Q:List Q2} {a b:Q2} {n:Nat} (hn:n=Q.length):sj (uq Q a b n)=qe Q a b:=by
 unfold uq;rw [hn,← mw Q,List.take_length,Nm _ _ _ (by grind) (by grind)]
 rfl
theorem N1 {L:List PV} {s:XV} (h:¬ (bz L=0∧s.1.canon∧s.2.canon)):gE L s=((cX,cX),false,1):=if_neg h
theorem Nn {L:List PV} {s:XV} (h:bz L=0∧s.1.canon∧s.2.canon) (J:qe (aU L) s.1.p s.2.p=none):gE L s=((cX,cX),false,0):=by unfold gE; rw [if_pos h,J]
theorem WM {L:List PV} {s:XV} {lo hi:Rat} (h:bz L=0∧s.1.canon∧s.2.canon) (J:qe (aU L) s.1.p s.2.p=some (lo,hi)):gE L s=((RV.of lo,RV.of hi),true,0):=by unfold gE; rw [if_pos h,J]
theorem Vu {lo hi:Rat} (h:hi≤lo):sj (some (lo,hi))=none:=if_pos h
theorem Vv {lo hi:Rat} (h:¬ hi≤lo):sj (some (lo,hi))=some (lo,hi):=if_neg h
theorem WN {L:List PV} {p q:PV} {lo hi:RV} (h:bz L=0∧p.canon∧q.canon) (J:qe (aU L) p.p q.p=some (lo.q,hi.q)) (c1:lo=RV.of lo.q) (c2:hi=RV.of hi.q):gE L (p,q)=((lo,hi),true,0):=by
 have:=WM (s:=(p,q)) h J;rw [← c1,← c2] at this;exact this
open Go
open Go
abbrev II:=List (Int × Int)
def iq (x:Int × Int):Q2:=((x.1:Rat),(x.2:Rat))
def bn (l:II):List Q2:=l.map iq
def qP (l:II) (k:Nat):Int × Int:=l.getD k (0,0)
def mO (l:II) (r:Nat):List Value:=[.int .i64 (if r % 2=0 then (qP l (r / 2)).1 else (qP l (r / 2)).2)]
def gP:cE:={ ι:=II,args:=fun i=>[.slice (some ⟨0,0,none⟩) (2*i.length) (2*i.length)],aj:=fun i=>[.flat false (2*i.length) 1 (mO i)],pre:=fun i=>(0 < i.length∧i.length≤1000000)∧∀ x∈i,x.1.natAbs < 256∧x.2.natAbs < 256,val:=fun i=>.slice (some ⟨1,0,none⟩) i.length aJ,new:=fun i=>some (.flat true i.length 6 (bS (bn i))) }
theorem ME {l:II} {j:Nat} {x:Int × Int} (h:x=qP l j):mO l (2*j)=[.int .i64 x.1]:=by
 unfold mO;rw [if_pos (by omega),show 2*j / 2=j by omega,h]
theorem MF {l:II} {j:Nat} {x:Int × Int} (h:x=qP l j):mO l (2*j+1)=[.int .i64 x.2]:=by
 unfold mO;rw [if_neg (by omega),show (2*j+1) / 2=j by omega,h]
theorem No {l:II} {j:Nat} (h:j < l.length):qP l j∈l∧l[j]?=some (qP l j):=by
 unfold qP;rw [List.getD_eq_getElem?_getD,List.getElem?_eq_getElem h];exact ⟨List.getElem_mem h,rfl⟩
theorem MG {l:II} {j:Nat} {x:Int × Int} (h:l[j]?=some x):bn (l.take (j+1))=bn (l.take j)++[iq x]:=by
 unfold bn;rw [List.take_add_one,h,List.map_append]
 rfl
theorem Bt (l:II) (rows:List (List Value)) (h:rows=(List.range (2*l.length)).map (mO l)):aP (.flat false (2*l.length) 1 (mO l)) (.aL true 1 rows) :=
 FE (by rw [h]; simp) (fun r hr=>by
  rw [h,List.getD_eq_getElem?_getD,List.getElem?_map,List.getElem?_range hr]
  rfl) (fun r hr=>rfl)
theorem x8 (x:Q2):(bW x).canon:=⟨by show RV.of x.1=RV.of (RV.of x.1).q; rw [RV.gV],by show RV.of x.2=RV.of (RV.of x.2).q; rw [RV.gV]⟩
def dc:II:=[(0,0),(4,0),(4,4),(0,4)]
def jh:II:=[(3,3),(7,3),(3,7)]
def jI:II:=[(4,1),(6,1),(4,3)]
def ji:II:=[(3,3),(4,3),(4,4),(3,4)]
theorem wD (L:List Q2):aU (bE L)=L:=by
 unfold bE aU;rw [List.map_map];refine (List.map_congr_left (fun p hp=>?_)).trans (List.map_id L)
 exact gQ p
theorem T8 {L:List Q2}:∀ p∈bE L,p.canon:=fun p hp=>by
 obtain ⟨x,_,rfl⟩:=List.mem_map.1 hp;exact x8 x
theorem GI {l:II} (h1:3≤l.length∧l.length≤64) (J:C1 (bn l)=true) (h3:CD (bn l)=true):bz (bE (bn l))=0:=by
 unfold bz;rw [if_neg (by rw [KZ]; unfold bn; rw [List.length_map]; omega),if_neg (fun e=>by obtain ⟨p,hp,hc⟩:=List.any_eq_true.1 e; exact of_decide_eq_true hc (T8 p hp)),wD,if_pos J,if_pos h3]
theorem Gj:bz (bE (bn dc))=0:=GI (by decide) (by decide +kernel) (by decide +kernel)
theorem WO:bz (bE (bn jh))=0:=GI (by decide) (by decide +kernel) (by decide +kernel)
theorem WQ:bz (bE (bn jI))=0:=GI (by decide) (by decide +kernel) (by decide +kernel)
theorem Vw:CC (bn dc) (bn jh)=bn ji:=by decide +kernel
theorem Ow:gI (bE (bn dc)) (bE (bn jh))=(bn ji,0):=by
 unfold gI;rw [if_pos ⟨Gj,WO⟩,wD,wD,Vw];exact NZ (by decide) (by decide)
theorem Zq:mS (bE (bn dc)) (bE (bn jI))=((bW (iq (4,0)),bW (iq (4,4))),0):=by
 unfold mS;rw [if_pos ⟨Gj,WQ⟩,wD,wD,show jX true (bn dc) (bn jI)=some (iq (4,0),iq (4,4)) by decide +kernel]
 rfl
theorem Zr:gE (bE (bn dc)) (bW (iq (-2,1)),bW (iq (6,1)))=((RV.of (1 / 4),RV.of (3 / 4)),true,0):=by
 unfold gE;rw [if_pos ⟨Gj,x8 _,x8 _⟩,wD];show (match qe (bn dc) (bW (iq (-2,1))).p (bW (iq (6,1))).p with | some (lo,hi)=>((RV.of lo,RV.of hi),true,(0:Int)) | none=>((cX,cX),false,0))=_
 rw [gQ,gQ,show qe (bn dc) (iq (-2,1)) (iq (6,1))=some (1 / 4,3 / 4) by decide +kernel]
theorem abE {A B:List PV} (hA:∀ v∈A,v.sz 12) (hB:∀ v∈B,v.sz 12):C2 A B:=fun h1 J=>by
 have a:=o9 h1;have b:=o9 J;refine Ww (S:=rH (aU A)) b.2.2.1 (fun m hm=>Q3.mono (Mx (k:=12) (BK hA (by decide)) m hm) (by decide)) (fun m hm=>Q3.mono (Mx (k:=12) (BK hB (by decide)) m hm) (by decide)) (by rw [LH,c4,c4]; omega) (.inr ⟨a.2.2.1,a.2.2.2,Vp a.2.2.1⟩)
theorem He {l:II} (h:∀ x∈l,x.1.natAbs < 256∧x.2.natAbs < 256):∀ v∈bE (bn l),v.sz 12:=fun v hv=>by
 obtain ⟨x,hx,rfl⟩:=List.mem_map.1 hv;obtain ⟨y,hy,rfl⟩:=List.mem_map.1 hx;exact rE (uG y.1 y.2 (h y hy).1 (h y hy).2) (by decide)
theorem qi {L:List PV} (h:∀ v∈L,v.sz 12):∀ v∈L,v.sz 2048:=fun v hv=>PV.aR (h v hv) (by decide)
theorem GJ {l:II} {c:Nat} (h:∀ x∈l,x.1.natAbs < 256∧x.2.natAbs < 256) (hl:l.length≤1000):PL.fit (some (bE (bn l),c)):=⟨by show (bE (bn l)).length≤_; rw [KZ]; unfold bn; rw [List.length_map]; omega,qi (He h)⟩
theorem MH {c:Nat}:iT.val (some (bE (bn dc),c),some (bE (bn jh),c))=.tuple ⟨[.slice (some ⟨2,0,none⟩) 4 aJ,.int .i64 0]⟩∧iT.new (some (bE (bn dc),c),some (bE (bn jh),c))=some (.flat true 4 6 (bS (bn ji))):=by
 refine ⟨?_,?_⟩
 ·show Value.tuple ⟨[ef 2 (gI (bE (bn dc)) (bE (bn jh))).1.length,.int .i64 (gI (bE (bn dc)) (bE (bn jh))).2]⟩=_
  rw [Ow]; rfl
 ·show cQ (gI (bE (bn dc)) (bE (bn jh))).1=_
  rw [Ow]; rfl
theorem WR {c:Nat} {a b:PV} (ha:a=bW (iq (4,0))) (hb:b=bW (iq (4,4))):mf.val (some (bE (bn dc),c),some (bE (bn jI),c))=.tuple ⟨[XV.v (a,b),.int .i64 0]⟩:=by
 show Value.tuple ⟨[(mS (bE (bn dc)) (bE (bn jI))).1.v,.int .i64 (mS (bE (bn dc)) (bE (bn jI))).2]⟩=_
 rw [Zq,ha,hb]
theorem WS {c:Nat} {a b:PV} {x y:RV} (ha:a=bW (iq (-2,1))) (hb:b=bW (iq (6,1))) (hx:x=RV.of (1 / 4)) (hy:y=RV.of (3 / 4)):lU.val (some (bE (bn dc),c),(a,b))=.tuple ⟨[x.v,y.v,.bool true,.int .i64 0]⟩:=by
 show Value.tuple ⟨[(gE (bE (bn dc)) (a,b)).1.1.v,(gE (bE (bn dc)) (a,b)).1.2.v,.bool (gE (bE (bn dc)) (a,b)).2.1,.int .i64 (gE (bE (bn dc)) (a,b)).2.2]⟩=_
 rw [ha,hb,Zr,hx,hy]
open Go
open Go
theorem K5 {α:Type} (f:α→Int) (k:Int):∀ (l:List α) (o:Int),k≤l.foldl (fun o e=>min o (f e)) o↔k≤o∧∀ e∈l,k≤f e
 | [],o=>by simp
 | e::l,o=>by
  rw [List.foldl_cons,K5 f k l];simp only [List.mem_cons,forall_eq_or_imp];rw [Int.le_min,and_assoc]
theorem BN {Q:List Q2} {p:Q2} {k:Int}:k≤eK Q p↔k≤1∧∀ e∈bd Q,k≤aV (ao e.1 e.2 p) 0:=by
 have:=K5 (fun e:Q2 × Q2=>aV (ao e.1 e.2 p) 0) k (bd Q) 1
 rw [← this];have e:zl p=fun (o:Int) (e:Q2 × Q2)=>min o (aV (ao e.1 e.2 p) 0):=by
  funext o e
  simp only [zl];rw [Int.min_def]
  split <;> split <;> omega
 rw [← e]; rfl
theorem AZ (Q:List Q2) (p:Q2):eK Q p=-1∨eK Q p=0∨eK Q p=1:=by
 have h1:-1≤eK Q p:=BN.2 ⟨by decide,fun e _=>by have:=o5 (ao e.1 e.2 p) 0; omega⟩
 have J:=(BN (Q:=Q) (p:=p) (k:=eK Q p)).1 (Int.le_refl _);omega
theorem MI {x:Rat}:1≤aV x 0↔0 < x:=by
 have:=o5 x 0;rw [← tx]; omega
theorem wi {Q:List Q2} {p:Q2}:eK Q p=1↔∀ e∈bd Q,0 < ao e.1 e.2 p:=by
 have h:=BN (Q:=Q) (p:=p) (k:=1);have:=AZ Q p;constructor
 ·intro e x hx;exact MI.1 ((h.1 (by omega)).2 x hx)
 ·intro e;have:=h.2 ⟨Int.le_refl _,fun x hx=>MI.2 (e x hx)⟩
  omega
theorem AR {Q:List Q2} {p:Q2}:0≤eK Q p↔∀ e∈bd Q,0≤ao e.1 e.2 p:=by
 rw [BN];exact ⟨fun h e he=>ob.1 (h.2 e he),fun h=>⟨by decide,fun e he=>ob.2 (h e he)⟩⟩
theorem LS {Q:List Q2} {p:Q2} (h0:∀ e∈bd Q,0≤ao e.1 e.2 p) (h1:∃ e∈bd Q,ao e.1 e.2 p=0):eK Q p=0:=by
 have a:=AR.2 h0;have:=AZ Q p;obtain ⟨e,he,J⟩:=h1;have:eK Q p≠1:=fun e2=>by have:=wi.1 e2 e he; rw [J] at this; exact absurd this (by decide)
 omega
def Db (Q:List Q2) (p:Q2):Prop:=∀ e∈bd Q,0 < ao e.1 e.2 p
theorem T9 {Q:List Q2} (h:Ring Q) {v:Q2} (hv:v∈Q):eK Q v=0:=by
 obtain ⟨k,hk,rfl⟩:=tK hv;exact LS (fun e he=>kg h.eL he hv) ⟨_,jq hk,by rw [oc]⟩
theorem Ua {Q:List Q2} (h:Ring Q) {k:Nat} (hk:k < Q.length) {t:Rat} (h0:0≤t) (h1:t≤1):eK Q (atR (an Q k) (an Q (aN Q.length k)) t)=0:=by
 refine LS (fun e he=>?_) ⟨_,jq hk,?_⟩
 ·rw [tB];exact o6 h0 h1 (kg h.eL he (c5 hk)) (kg h.eL he (c5 (ck hk)))
 ·rw [tB,oc,od]; grind
theorem SW {Q:List Q2} (h:Ring Q) (h3:3 < Q.length) {k:Nat} (hk:k < Q.length) {t:Rat} (h0:0 < t) (h1:t < 1):eK Q (atR (an Q k) (an Q (aN Q.length (aN Q.length k))) t)=1:=by
 have hn:=ck hk;have eO:=ck hn;have kI:=h.nodup;have ne:∀ {i j},i < Q.length→j < Q.length→i≠j→an Q i≠an Q j:=fun hi hj sL e=>sL (tM kI hi hj e)
 have IZ:aN Q.length (aN Q.length k)≠k∧aN Q.length (aN Q.length (aN Q.length k))≠k:=by
  unfold aN;rcases Nat.lt_or_ge (k+1) Q.length with a | a
  ·rw [Nat.mod_eq_of_lt a];rcases Nat.lt_or_ge (k+1+1) Q.length with b | b
   ·rw [Nat.mod_eq_of_lt b];rcases Nat.lt_or_ge (k+1+1+1) Q.length with c | c
    ·rw [Nat.mod_eq_of_lt c]; omega
    ·rw [show k+1+1+1=Q.length by omega,Nat.mod_self]; omega
   ·rw [show k+1+1=Q.length by omega,Nat.mod_self,Nat.mod_eq_of_lt (by omega)]; omega
  ·rw [show k+1=Q.length by omega,Nat.mod_self,Nat.mod_eq_of_lt (show 0+1 < Q.length by omega),Nat.mod_eq_of_lt (show 0+1+1 < Q.length by omega)]; omega
 refine wi.2 fun e he=>?_
 obtain ⟨j,hj,rfl⟩:=yj he;have I0:=ck hj;rw [tB];have a:=kg h.eL (jq hj) (c5 hk);have b:=kg h.eL (jq hj) (c5 eO)
 -- one of them does not lie on the edge's line
 have off:∀ {i},i < Q.length→i≠j→i≠aN Q.length j→ao (an Q j) (an Q (aN Q.length j)) (an Q i)≠0:=fun hi h1 J =>
  xL (h.ext.1 (c5 hj)) (h.ext.1 (c5 I0)) (h.ext.1 (c5 hi)) (ne hj I0 (Ne.symm (rG hj (by omega)))) (ne hj hi (Ne.symm h1)) (ne I0 hi (Ne.symm J))
 have key:ao (an Q j) (an Q (aN Q.length j)) (an Q k)≠0∨ao (an Q j) (an Q (aN Q.length j)) (an Q (aN Q.length (aN Q.length k)))≠0:=by
  by_cases c1:k=j
  ·right
   refine off eO (by rw [← c1]; exact IZ.1) ?_
   rw [← c1]; exact rG hn (by omega)
  ·by_cases c2:k=aN Q.length j
   ·right
    refine off eO (fun e=>IZ.2 (by rw [e]; exact c2.symm)) ?_
    rw [← c2]; exact IZ.1
   ·left; exact off hk c1 c2
 rcases key with c | c
 ·have:=Rat.mul_pos (show 0 < 1 - t by grind) (show 0 < ao (an Q j) (an Q (aN Q.length j)) (an Q k) by grind)
  have:=Rat.mul_nonneg (show 0≤t by grind) b
  grind
 ·have:=Rat.mul_pos h0 (show 0 < ao (an Q j) (an Q (aN Q.length j)) (an Q (aN Q.length (aN Q.length k))) by grind)
  have:=Rat.mul_nonneg (show 0≤1 - t by grind) a
  grind
theorem Vx {Q:List Q2} {p q:Q2} {t:Rat} (h0:0 < t) (h1:t < 1):(eK Q p=1→eK Q q=1→eK Q (atR p q t)=1)∧(0≤eK Q p→0≤eK Q q→0≤eK Q (atR p q t)):=by
 rw [wi,wi,wi,AR,AR,AR];refine ⟨fun a b e he=>?_,fun a b e he=>?_⟩
 ·rw [tB];have:=Rat.mul_pos (show 0 < 1 - t by grind) (a e he)
  have:=Rat.mul_pos h0 (b e he);grind
 ·rw [tB]; exact o6 (by grind) (by grind) (a e he) (b e he)
def uL (Q:List Q2):Q2:=Q.foldl (fun s v=>oE s v) (0,0)
theorem Zs (a b:Q2):∀ (Q:List Q2) (s:Q2) (m:Rat),(∀ v∈Q,0≤ao a b v)→∀ k:Rat,(b.1 - a.1)*(s.2 - k*a.2) - (b.2 - a.2)*(s.1 - k*a.1)=m →
  ∃ d:Rat,(b.1 - a.1)*((Q.foldl (fun s v=>oE s v) s).2 - (k+Q.length)*a.2) - (b.2 - a.2)*((Q.foldl (fun s v=>oE s v) s).1 - (k+Q.length)*a.1)=m+d∧0≤d∧((∃ v∈Q,0 < ao a b v)→0 < d):=by
 intro Q
 induction Q with
 | nil =>
  intro s m _ k h;refine ⟨0,?_,by grind,fun ⟨v,hv,_⟩=>nomatch hv⟩
  simp only [List.foldl_nil,List.length_nil];grind
 | cons v Q ih =>
  intro s m hQ k h;have hv:=hQ v (List.mem_cons_self ..);obtain ⟨d,h1,J,h3⟩:=ih (oE s v) (m+ao a b v) (fun u hu=>hQ u (List.mem_cons_of_mem _ hu)) (k+1) (by rw [eV]; unfold oE; grind)
  refine ⟨ao a b v+d,?_,by grind,?_⟩
  ·rw [List.foldl_cons,List.length_cons];have:(k+1+((Q.length:Nat):Rat))=k+((Q.length+1:Nat):Rat):=by rw [Rat.natCast_add]; grind
   rw [this] at h1;rw [h1]; grind
  ·rintro ⟨u,hu,hp⟩
   rcases List.mem_cons.1 hu with rfl | hu
   ·grind
   ·have:=h3 ⟨u,hu,hp⟩;grind
theorem RM {Q:List Q2} (h:Ring Q):eK Q (Du (1 / (Q.length:Rat)) (uL Q))=1:=by
 refine wi.2 fun e he=>?_
 obtain ⟨j,hj,rfl⟩:=yj he;have h3:=h.three;obtain ⟨d,h1,J,h4⟩:=Zs (an Q j) (an Q (aN Q.length j)) Q (0,0) 0 (fun v hv=>kg h.eL (jq hj) hv) 0 (by grind)
 have hd:0 < d:=h4 ⟨_,c5 (ck (ck hj)),RK h hj⟩;have hn:(0:Rat) < (Q.length:Rat):=by
  have:((0:Nat):Rat) < (Q.length:Rat):=Rat.natCast_lt_natCast.2 (by omega)
  exact this
 have hi:(1 / (Q.length:Rat))*(Q.length:Rat)=1:=by rw [Rat.div_def]; grind
 have fA:0 < 1 / (Q.length:Rat):=by
  by_cases h1:0 < 1 / (Q.length:Rat)
  ·exact h1
  ·have:=Rat.mul_nonneg (show 0≤-(1 / (Q.length:Rat)) by grind) (show 0≤(Q.length:Rat) by grind)
   grind
 have:=Rat.mul_pos fA hd;have e:ao (an Q j) (an Q (aN Q.length j)) (Du (1 / (Q.length:Rat)) (uL Q))=(1 / (Q.length:Rat))*d:=by
  rw [eV];unfold Du uL;generalize List.foldl (fun s v=>oE s v) (0,0) Q=S at h1 ⊢
  generalize (1 / (Q.length:Rat))=i at hi ⊢;simp only;have h1:(an Q (aN Q.length j)).1*S.2 - (an Q j).1*S.2 - ((an Q (aN Q.length j)).2*S.1 - (an Q j).2*S.1) - (Q.length:Rat)*((an Q (aN Q.length j)).1*(an Q j).2 - (an Q (aN Q.length j)).2*(an Q j).1)=d:=by grind
  grind
 rw [e];exact this
open Go
def kX (L:List PV):Bool:=mE L || decide (10 < L.length) || decide (bz L≠0)
def kq:cE:={ ι:=PL,args:=fun i=>[i.val],aj:=PL.aj,pre:=fun i=>i.list.length≤9223372036854775807,val:=fun i=>.bool (kX i.list),new:=fun _=>none }
theorem WT {L:List PV} (h:kX L=false):L.length≤10∧(∀ p∈L,p.sz 12)∧bz L=0:=by
 unfold kX at h;rw [Bool.or_eq_false_iff,Bool.or_eq_false_iff] at h;have J:=of_decide_eq_false h.1.2;have h3:=of_decide_eq_false h.2;exact ⟨by omega,(LP h.1.1).2,by simpa using h3⟩
theorem WU {L:List PV} (h:mE L=true):kX L=true:=by unfold kX; rw [h]; rfl
theorem Vy {L:List PV} (h:10 < L.length):kX L=true:=by unfold kX; rw [decide_eq_true h,Bool.or_true,Bool.true_or]
theorem Vz {L:List PV} (h:bz L≠0):kX L=true:=by unfold kX; rw [decide_eq_true h,Bool.or_true]
theorem WV {L:List PV} (h:mE L=false) (J:¬ 10 < L.length) (h3:bz L=0):kX L=false:=by unfold kX; rw [h,decide_eq_false J,h3]; rfl
def zn:bu:={ ι:=PV,args:=fun i=>[i.v],pre:=fun _=>True,val:=fun i=>.bool (decide (i.sz 12∧i.canon)) }
def jY (L:List PV) (p:PV):Int:=if (p9 L p).2≠0 then 5 else (p9 L p).1
theorem WW {L:List PV} {p:PV} (h:bz L=0) (hp:p.canon):jY L p=eK (aU L) p.p:=by
 unfold jY;rw [Nl ⟨h,hp⟩]
 rfl
def dt:cE:={ ι:=PL × PV,args:=fun i=>[i.1.val,i.2.v],aj:=fun i=>i.1.aj,pre:=fun i=>i.1.fit∧i.2.sz 2048,val:=fun i=>.int .i64 (jY i.1.list i.2),new:=fun _=>none }
def ur:Rat:=1 / 2
def xr:bu:={ ι:=mi,args:=fun i=>[i.1.v,i.2.v],pre:=fun i=>i.1.sz 512∧i.2.sz 512,val:=fun i=>(bW (atR i.1.p i.2.p ur)).v }
theorem WX:QB ur 1:=⟨fh (show _ < C ^ 1 by decide +kernel),fh (show _ < C ^ 1 by decide +kernel)⟩
theorem GK {a b:Q2} {k l:Nat} (ha:Q2.sz k a) (hb:Q2.sz l b):Q2.sz (k+(l+k+1+1)+1) (atR a b ur):=um ha hb WX
theorem wE:0 < ur∧ur < 1:=by unfold ur; exact ⟨by decide +kernel,by decide +kernel⟩
theorem MJ {Q:List Q2} {j:Nat} {v:Q2} (h:Q[j]?=some v):uL (Q.take (j+1))=oE (uL (Q.take j)) v:=by
 unfold uL;rw [Ff h]
theorem VA {n:Nat} (h0:0 < n) (h:n≤10):QB (1 / (n:Rat)) 1:=by
 rw [Rat.div_def,show (1:Rat)*(n:Rat)⁻¹=(n:Rat)⁻¹ by grind]
 refine QB.inv ?_ (Nat.le_refl 1);have:=QB.of_int (n:=(n:Int)) (k:=1) (fh (show Int.natAbs (n:Int) < C ^ 1 by show _ < 256 ^ 1; omega)) (Nat.le_refl 1)
 rw [show (((n:Nat):Int):Rat)=(n:Rat) from Rat.intCast_natCast n] at this
 exact this
theorem WY {n:Nat} (h0:0 < n):iH 1 (n:Int)=.tuple ⟨[bG (1 / (n:Rat)),.int .i64 0]⟩:=by
 unfold iH;rw [if_neg (by omega),Rat.divInt_eq_div]
 congr 5
def uM:cE:={ ι:=PL × mi,args:=fun i=>[i.1.val,i.2.1.v,i.2.2.v],aj:=fun i=>i.1.aj,pre:=fun i=>i.1.list.length*80≤140737488351232,val:=fun _=>.bool true,new:=fun _=>none }
open Go Go.RowKit
section
variable {P:Program} {w:World} {r:Reach} {base:Nat} {t:TypeId} {v:Value}
theorem LU (ht:P.underlying t=some .bool) (h:Cell.okWide P w r base t v):∃ b,v=.bool b:=by
 simp only [Cell.okWide,ht] at h;cases v <;> simp_all [Cell.ok]
theorem AS (ht:P.underlying t=some .string) (h:Cell.okWide P w r base t v):∃ s,v=.string s:=by
 simp only [Cell.okWide,ht] at h;cases v <;> simp_all [Cell.ok]
theorem SX {fs:Array Field} (ht:P.underlying t=some (.struct fs)) {ts:List TypeId} (I3:P.cellTypes P.depth t=some ts) (h:Value.okWide P w r base t v) :
  ∃ l:List Value,v=.agg ⟨l⟩∧l.length=P.cellsOf t∧∀ i x,l[i]?=some x→∃ u,ts[i % ts.length]?=some u∧Cell.okWide P w r base u x:=by
 simp only [Value.okWide,ht] at h;obtain ⟨cs,rfl,J,ts',h3,_,h5⟩:=h;rw [I3] at h3;cases h3;exact ⟨cs.toList,rfl,J,fun i x hx=>h5 i x (by simpa using hx)⟩
theorem WZ {fs:Array Field} (ht:P.underlying t=some (.struct fs)) {b s:TypeId} (I3:P.cellTypes P.depth t=some [b,s,s,b,s,s]) (hn:P.cellsOf t=6) (hb:P.underlying b=some .bool) (hs:P.underlying s=some .string)
  (h:Value.okWide P w r base t v):∃ p:PV,v=p.v:=by
 obtain ⟨l,rfl,hl,hc⟩:=SX ht I3 h;rw [hn] at hl
 match l,hl with
 | [x,y,z,x',y',z'],_ =>
  obtain ⟨u,hu,h0⟩:=hc 0 x rfl;obtain ⟨u1,uU,h1⟩:=hc 1 y rfl;obtain ⟨u2,oQ,J⟩:=hc 2 z rfl;obtain ⟨u3,hu3,h3⟩:=hc 3 x' rfl;obtain ⟨u4,hu4,h4⟩:=hc 4 y' rfl;obtain ⟨u5,hu5,h5⟩:=hc 5 z' rfl;cases hu; cases uU; cases oQ; cases hu3; cases hu4; cases hu5;obtain ⟨b0,rfl⟩:=LU hb h0;obtain ⟨s1,rfl⟩:=AS hs h1;obtain ⟨s2,rfl⟩:=AS hs J;obtain ⟨b3,rfl⟩:=LU hb h3;obtain ⟨s4,rfl⟩:=AS hs h4;obtain ⟨s5,rfl⟩:=AS hs h5;exact ⟨((b0,s1,s2),(b3,s4,s5)),rfl⟩
end
open Go Go.RowKit Go.ChangeShapes Go.WideShapes Go.ChangeAt
theorem QX {P:Program} {f:FuncId} {S:cE} (h:c7 P f S) {i:S.ι} (hp:S.pre i) {I5:List Value} {ν:Nu} {w:World} (ha:a9 ν (S.args i) I5) (hH:bQ ν ((S.aj i).map some) w)
  (hν:∀ id,(S.aj i).length≤id→ν id=none) {b:Bool} (hv:S.val i=.bool b) :
  Calls P f ⟨I5⟩ w fun e w'=>e=.returned (.bool b)∧Below w.heap.size w w':=by
 have h1:=h.calls i hp ν I5 w 0 ha hH hν;rw [callsIn_wide] at h1;refine h1.mono fun e w' ⟨v',ai,he,hq⟩=>⟨?_,hq.below⟩
 have hr:=hq.val;rw [hv] at hr;rw [he,hr.jK]
section
variable {H:Type} {enc:TypeId × Value→H} {P:Program} {w:World} {base:Nat} {spare:Nat→Bool} {held:Bool}
structure C3 (P:Program) (tr tp b s:TypeId):Prop where
 rat:∃ f0 f1 f2,P.underlying tr=some (.struct #[f0,f1,f2])∧(f0.type=b∧f0.offset=0)∧(f1.type=s∧f1.offset=1)∧f2.type=s∧f2.offset=2
 pt:∃ f0 f1,P.underlying tp=some (.struct #[f0,f1])∧(f0.type=tr∧f0.offset=0)∧f1.type=tr∧f1.offset=3
 bool:P.underlying b=some .bool
 str:P.underlying s=some .string
 cr:P.cellsOf tr=3
 cp:P.cellsOf tp=6
 cb:P.cellsOf b=1
 cs:P.cellsOf s=1
theorem MK {tr tp b s:TypeId} (T:C3 P tr tp b s) {n:Nat} {l:List Value} {y:DataW H × List MemPlace} (h:DataW.trod enc P w base spare held n tr l=some y):∃ i:RV,l=i.cells:=by
 obtain ⟨f0,f1,f2,hu,⟨t0,o0⟩,⟨t1,o1⟩,t2,o2⟩:=T.rat;obtain ⟨y0,y1,y2,m,_,hl,h0,h1,J⟩:=Deep.trod_struct3 hu h;rw [T.cr] at hl;rw [t0,o0,T.cb] at h0;rw [t1,o1,T.cs] at h1;rw [t2,o2,T.cs] at J
 match l,hl with
 | [x,y,z],_ =>
  obtain ⟨b,e0,_⟩:=DataW.trod_bool T.bool h0;obtain ⟨s1,e1,_⟩:=DataW.trod_string T.str h1;obtain ⟨s2,e2,_⟩:=DataW.trod_string T.str J;simp at e0 e1 e2;subst e0; subst e1; subst e2;exact ⟨(b,s1,s2),rfl⟩
theorem W0 {tr tp b s:TypeId} (T:C3 P tr tp b s) {n:Nat} {l:List Value} {y:DataW H × List MemPlace} (h:DataW.trod enc P w base spare held n tp l=some y):∃ p:PV,l=p.cells:=by
 obtain ⟨f0,f1,hu,⟨t0,o0⟩,t1,o1⟩:=T.pt;obtain ⟨y0,y1,m,_,hl,h0,h1⟩:=trod_struct2 hu h;rw [T.cp] at hl;rw [t0,o0,T.cr] at h0;rw [t1,o1,T.cr] at h1;obtain ⟨i,e0⟩:=MK T h0;obtain ⟨j,e1⟩:=MK T h1
 match l,hl with
 | [x,y,z,x',y',z'],_ =>
  have e0:[x,y,z]=i.cells:=e0;have e1:[x',y',z']=j.cells:=e1;refine ⟨(i,j),?_⟩;show [x,y,z]++[x',y',z']=i.cells++j.cells
  rw [e0,e1]
end
open Go Go.RowKit Go.ChangeShapes Go.WideShapes Go.ChangeAt
section
variable {P:Program} {w:World} {r:Reach} {base:Nat} {t:TypeId} {v:Value}
end
structure adU (P:Program) (tr tn:TypeId):Prop where
 ln:∃ f0 f1 f2,P.underlying tn=some (.struct #[f0,f1,f2])∧(f0.type=tr∧f0.offset=0)∧(f1.type=tr∧f1.offset=3)∧f2.type=tr∧f2.offset=6
 cn:P.cellsOf tn=9
section
variable {H:Type} {enc:TypeId × Value→H} {P:Program} {w:World} {base:Nat} {spare:Nat→Bool} {held:Bool}
end
open Go Go.RowKit Go.ChangeShapes Go.WideShapes Go.ChangeAt
section
variable {H:Type} {enc:TypeId × Value→H} {P:Program} {w:World} {base:Nat} {spare:Nat→Bool} {held:Bool}
theorem Ri {tl tr tp b s:TypeId} (T:C3 P tr tp b s) (ht:P.underlying tl=some (.slice tp)) {v:Value} {d:DataW H} {ps:List MemPlace} {r:Reach} {b0:Nat} (hv:Value.okWide P w r b0 tl v)
  (h:DataW.Trod enc P w base (fun _=>true) held tl v d ps) :
  ∃ (i:PL) (ν:Nu),i.list.length≤9223372036854775807∧(∀ B m,(∀ elems spare,d=.slice elems spare→(elems.length+spare.length)*B≤m)→i.list.length*B≤m)∧ar ν i.val v∧bQ ν (i.aj.map some) w∧∀ id,i.aj.length≤id→ν id=none:=by
 obtain ⟨a0,oG,adq,rfl⟩:=okWide_slice ht hv;obtain ⟨fuel,hf⟩:=h;rcases Deep.open_slice ht hf with ⟨Ac,_⟩ | ⟨a,len,cap,m,n,D,Pl,Ac,hb,hl,hm,mn,hd,hx⟩
 ·simp [Value.cells] at Ac;obtain ⟨rfl,rfl,rfl⟩:=Ac;refine ⟨none,fun _=>none,Nat.zero_le _,fun B m _=>by show 0*B≤m; omega,.iW,⟨fun id b h=>by simp [PL.aj] at h,fun i j bi bj li lj h=>by simp [PL.aj] at h⟩,fun _ _=>rfl⟩
 ·simp [Value.cells] at Ac;obtain ⟨rfl,rfl,rfl⟩:=Ac;have mn:m=adq:=mn;subst mn;simp only [Value.okWide,ht,Cell.okWide,Cell.ok] at hv;obtain ⟨_,_,_,qQ,row,cells,GL,_⟩:=hv;have GU:a.block < w.heap.size:=by
   unfold World.shape? at GL
   split at GL
   ·rename_i hh;exact (Array.getElem?_eq_some_iff.1 hh).1
   ·cases GL
  obtain ⟨V,hV⟩:=Deep.choose_lt (α:=PV) (n:=m) (p:=fun i p=>∀ j,j < 6→w.cell? ((a.add (i*6)).add j)=p.cells[j]?) (fun i hi=>by
   obtain ⟨dV,h1,J⟩:=hx i hi;rw [T.cp] at h1;obtain ⟨p,rfl⟩:=W0 T J;obtain ⟨_,_,hc⟩:=World.cells?_some h1;exact ⟨p,hc⟩)
  have hlm:oG≤m:=hl;refine ⟨some ((List.range oG).map V,aJ),fun id=>if id=0 then some ⟨a.block,a.off,6,m⟩ else none,?_,?_,?_,⟨fun id b bh=>?_,fun i j bi bj li lj h1 J h3 h4=>?_⟩,fun id bh=>?_⟩
  ·show ((List.range oG).map V).length≤_
   have dg:m≤9223372036854775807:=hm;rw [List.length_map,List.length_range];omega
  ·intro B M hB;have hd:=hB _ _ (congrArg Prod.fst hd);show ((List.range oG).map V).length*B≤M
   rw [List.length_map,List.length_range];refine Nat.le_trans (Nat.mul_le_mul_right _ ?_) hd;simp
  ·have e:a=Loc.at ⟨a.block,a.off,6,m⟩ 0 0:=by
    obtain ⟨b0,o0,s0⟩:=a;have:s0=none:=qQ;subst this;simp [Loc.at]
   have:=ar.slice (ν:=fun id=>if id=0 then some ⟨a.block,a.off,6,m⟩ else none) 0 0 oG aJ m ⟨a.block,a.off,6,m⟩ rfl (.inr rfl) hlm (by simp)
   rw [← e] at this;show ar _ (.slice (some ⟨0,0,none⟩) ((List.range oG).map V).length aJ) _
   rw [List.length_map,List.length_range];exact this
  ·cases id with
   | succ id=>simp [PL.aj] at bh
   | zero =>
    simp [PL.aj] at bh;subst bh;refine ⟨_,rfl,⟨rfl,fun r hr=>rfl,fun r hr j v xG=>?_,fun _ r hr v hv=>?_,fun r hr v hv=>?_,fun h=>(by cases h),(fun r h=>by cases h),GU⟩⟩
    ·have eU:r < oG:=hr;have hr:r < ((List.range oG).map V).length:=by rw [List.length_map,List.length_range]; exact eU
     obtain ⟨p,hp,_,aW⟩:=re hr;have hpV:V r=p:=by
      rw [List.getElem?_map,List.getElem?_range eU] at hp
      simpa using hp
     have xG:(c6 ((List.range oG).map V) r)[j]?=some v:=xG;rw [aW] at xG;have hj:j < 6:=(List.getElem?_eq_some_iff.1 xG).1;have hc:=hV r (by omega) j hj
     rw [hpV,xG] at hc;refine ⟨v,?_,?_⟩
     ·rw [← hc]
      congr 1
      obtain ⟨b0,o0,s0⟩:=a;have:s0=none:=qQ;subst this;by_cases J:r*6=0
      ·have h3:r=0:=by omega
       by_cases h1:j=0 <;> simp [Loc.at,Addr.add,h1,h3]
      ·by_cases h1:j=0 <;> simp [Loc.at,Addr.add,h1,J,Nat.add_assoc]
     ·have hs:lY p.cells=true:=rfl;exact ar.kf (dp hs v (List.mem_of_getElem? xG))
    ·exact dp (KT _ r) v hv
    ·have:=dp (KT ((List.range oG).map V) r) v hv;cases v <;> first | rfl | simp [cC] at this
  ·cases i with
   | succ i=>simp [PL.aj] at h1
   | zero =>
    cases j with
    | zero=>exact absurd rfl h3
    | succ j=>simp [PL.aj] at J
  ·have:id≠0:=by
    intro e; subst e;have bh:1≤0:=bh;omega
   simp [this]
end
end Go.Ae
