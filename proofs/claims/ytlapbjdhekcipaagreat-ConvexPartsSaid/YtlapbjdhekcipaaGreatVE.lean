import Derived.WalkKit
import Derived.ProofKit
import Derived.OpenShut
import Derived.ShutString
import Derived.ChangeOld
import Derived.Below
import Derived.Deep.Slices
import Derived.Deep.Strs
import Derived.SizedLaws
import Derived.Test.YtlapbjdhekcipaaGreatVD
set_option linter.unusedVariables false
set_option linter.unusedSimpArgs false
namespace Go.Ae
open Go
theorem xi (a b p:Q2):bd (eL a b) p=an a b p:=by simp only [kV,fC,eL]; grind
theorem Mz {a b:Q2} (h:a≠b):mP (eL a b):=fun e=>h (Prod.ext (by have:=e.2; unfold eL at this; grind) (by have:=e.1; unfold eL at this; grind))
theorem Vt {m:Q3} {x y z:Q2} (hx:bd m x=0) (hy:bd m y=0) (aH:x≠y) (h:an x y z=0):bd m z=0:=by
 rw [kV] at *;rw [fC] at h;by_cases h0:y.1 - x.1=0
 ·have h1:y.2 - x.2≠0:=fun e=>aH (Prod.ext (by grind) (by grind))
  have:(y.2 - x.2)*(m.1*z.1+m.2.1*z.2 - m.2.2)=0:=by grind
  exact (Rat.mul_eq_zero.1 this).resolve_left h1
 ·have:(y.1 - x.1)*(m.1*z.1+m.2.1*z.2 - m.2.2)=0:=by grind
  exact (Rat.mul_eq_zero.1 this).resolve_left h0
theorem Nl {m:Q3} (hm:mP m) {a b c:Q2} (ha:bd m a=0) (hb:bd m b=0) (hc:bd m c=0):an a b c=0 :=
 BP (P:=[a,b,c]) ⟨m,hm,fun v hv=>by simp at hv; rcases hv with rfl | rfl | rfl <;> assumption⟩ (by simp) (by simp) (by simp)
theorem SP {P:List Q2} {v:Q2} (h:v∈P) (hw:∃ w∈P,w≠v):∃ y,(v,y)∈a8 P∧v≠y:=by
 obtain ⟨w,hw,aH⟩:=hw;obtain ⟨A,B,rfl⟩:=List.append_of_mem h;obtain ⟨y,h1,J⟩:=leave (v:=v) (B++A) ⟨w,by
  rcases List.mem_append.1 hw with h | h
  ·exact List.mem_append_right _ h
  ·rcases List.mem_cons.1 h with h | h
   ·exact absurd h aH
   ·exact List.mem_append_left _ h,aH⟩
 exact ⟨y,Bf (A:=v::B) (Kt (m:=[v]) h1),J⟩
theorem SQ {P:List Q2} (hT:bG P):(Flat P∧fL P=[])∨(¬ Flat P∧Ring (fL P)∧lR (fL P)∧iF (fL P) P∧∀ v∈fL P,v∈P):=by
 by_cases hF:Flat P
 ·exact .inl ⟨hF,(T5 hF).1⟩
 ·have hc:=K4 hT hF;rw [(Ws hT hF).1];refine .inr ⟨hF,T7 hc,fun i h0 hi=>?_,(iF.o6 fun v=>tW).trans (EC hT hF).1,fun v hv=>(Fa P).subset (tW.1 hv)⟩
  have:=RQ hc hi h0;have hle:iz (aC (eM (fE P)) 0) (aC (eM (fE P)) i):=ud.2 (by omega)
  have aH:aC (eM (fE P)) 0≠aC (eM (fE P)) i:=fun e=>by rw [e,oR.2 rfl] at this; omega
  rcases hle with h | ⟨h,h'⟩
  ·exact .inl h
  ·exact .inr ⟨h,Rat.lt_of_le_of_ne h' fun e=>aH (Prod.ext h e)⟩
theorem Wx {S:Q3→Prop} {P C:List Q2} (hT:bG P) (hC:Ring C) (hs:iF C P) (HU:∀ v∈C,v∈P) (h:∀ e∈a8 P,mQ S e):∀ e∈a8 C,mQ S e:=by
 rintro ⟨x,y⟩ he
 have kc:x≠y:=hC.ne _ he;obtain ⟨x',h1,J⟩:=SP (HU x (nS he).1) ⟨y,HU y (nS he).2,Ne.symm kc⟩;have a:=pX hT h1 (HU y (nS he).2);have b:=E8 hC.gx he ((hs x').2 (.o6 (nS h1).2));rw [yr] at b;obtain ⟨m,hm,hl,v1,v2⟩:=h _ h1;exact ⟨m,hm,hl,v1,Vt v1 v2 J (by grind)⟩
theorem Wy {α:Type} [DecidableEq α]:∀ (n:Nat) (S:List α) (f:Nat→α),(∀ k,k < n→f k∈S)→(∀ i j,i < n→j < n→f i=f j→i=j)→n≤S.length:=by
 intro n
 induction n with
 | zero=>intro S f _ _; omega
 | succ n ih =>
  intro S f h1 J;have hn:=h1 n (by omega)
  have:=ih (S.erase (f n)) f (fun k hk=>(List.mem_erase_of_ne fun e=>by have:=J k n (by omega) (by omega) e; omega).2 (h1 k (by omega))) (fun i j hi hj=>J i j (by omega) (by omega))
  rw [List.length_erase_of_mem hn] at this;have:0 < S.length:=List.length_pos_of_mem hn;omega
theorem Vu {S:List Q3} {C:List Q2} (hC:Ring C) (h:∀ e∈a8 C,mQ (·∈S) e):C.length≤S.length:=by
 have h3:=hC.three;have hf:∀ k,∃ m:Q3,k < C.length→m∈S∧mP m∧bd m (aC C k)=0∧bd m (aC C (bg C.length k))=0:=fun k=>by
  by_cases hk:k < C.length
  ·obtain ⟨m,h⟩:=h _ (m6 hk);exact ⟨m,fun _=>h⟩
  ·exact ⟨(0,0,0),fun h=>absurd h hk⟩
 obtain ⟨f,hf⟩:=Classical.axiomOfChoice hf;refine Wy C.length S f (fun k hk=>(hf k hk).1) fun i j hi hj e=>Decidable.byContradiction fun aH=>?_
 obtain ⟨_,hl,i1,i2⟩:=hf i hi;obtain ⟨_,_,j1,j2⟩:=hf j hj;rw [← e] at j1 j2;have hx:∀ a b c,a < C.length→b < C.length→c < C.length→a≠b→a≠c→b≠c→bd (f i) (aC C a)=0→bd (f i) (aC C b)=0→bd (f i) (aC C c)=0→False:=fun a b c ha hb hc ef Ah pH va vb vc =>
  AE (hC.ext.1 (fa ha)) (hC.ext.1 (fa hb)) (hC.ext.1 (fa hc)) (fun e=>ef (wV hC.nodup ha hb e)) (fun e=>Ah (wV hC.nodup ha hc e)) (fun e=>pH (wV hC.nodup hb hc e)) (Nl hl va vb vc)
 by_cases h1:bg C.length i=j
 ·subst h1;refine hx i _ _ hi hj (cV hj) aH (fun e=>?_) (Ne.symm (xf hj (by omega))) i1 i2 j2
  unfold bg at e;rcases Nat.lt_or_ge (i+1) C.length with h | h
  ·rw [Nat.mod_eq_of_lt h] at e;rcases Nat.lt_or_ge (i+1+1) C.length with h' | h'
   ·rw [Nat.mod_eq_of_lt h'] at e; omega
   ·rw [show i+1+1=C.length by omega,Nat.mod_self] at e; omega
  ·rw [show i+1=C.length by omega,Nat.mod_self,Nat.mod_eq_of_lt (by omega)] at e; omega
 ·exact hx i j _ hi hj (cV hi) aH (Ne.symm (xf hi (by omega))) (Ne.symm h1) i1 j1 i2
theorem Wz {k:Nat} {C:List Q2} (hC:Ring C) (h:∀ e∈a8 C,mQ (Q3.sz k) e):∀ v∈C,Q2.sz (8*k+2) v:=by
 intro v hv;obtain ⟨i,hi,rfl⟩:=wU hv;obtain ⟨l,sl,hl,l1,l2⟩:=h _ (rU hi);obtain ⟨m,sm,hm,m1,m2⟩:=h _ (m6 hi);have l2:bd l (aC C i)=0:=l2;have m1:bd m (aC C i)=0:=m1;have hd:qT l m≠0:=Zk hl l1 l2 (fun e=>by
  have hc:=hC.xg i hi;rw [Nl hm (e.trans m1) m1 m2] at hc;grind)
 rw [Zj l2 m1 hd];exact Q2.mono (Zi sl sm) (by omega)
def CD (P:List Q2) (e:Q2 × Q2):List Q2:=fL (fh (eL e.1 e.2) P)
def CE (P B:List Q2):List Q2:=(a8 B).foldl CD P
def jq (P B:List Q2) (j:Nat):List Q2:=((a8 B).take j).foldl CD P
theorem SR {P B:List Q2} {j:Nat} {e:Q2 × Q2} (h:(a8 B)[j]?=some e):jq P B (j+1)=CD (jq P B j) e:=by
 unfold jq;rw [List.take_add_one,h,List.foldl_append]; rfl
theorem Ua (P B:List Q2):jq P B B.length=CE P B:=by
 unfold jq CE;rw [← mX B,List.take_length]
def qU (S:Q3→Prop) (P:List Q2):Prop:=P=[]∨(Ring P∧lR P∧∀ e∈a8 P,mQ S e)
theorem Ub {S:Q3→Prop} {P:List Q2} {e:Q2 × Q2} (aH:e.1≠e.2) (hS:S (eL e.1 e.2)) (h:qU S P):qU S (CD P e):=by
 rcases h with rfl | ⟨hR,ho,DC⟩
 ·exact .inl rfl
 ·have hT:=Vg (m:=eL e.1 e.2) hR.gx;rcases SQ hT with ⟨_,h⟩ | ⟨_,h1,J,h3,h4⟩
  ·exact .inl h
  ·exact .inr ⟨h1,J,Wx hT h1 h3 h4 (Zl hS (Mz aH) DC)⟩
theorem SS {S:Q3→Prop} {P B:List Q2} (hB:∀ e∈a8 B,e.1≠e.2∧S (eL e.1 e.2)) (h:qU S P) (j:Nat):qU S (jq P B j):=by
 unfold jq;have hl:∀ e∈(a8 B).take j,e.1≠e.2∧S (eL e.1 e.2):=fun e he=>hB e (List.mem_of_mem_take he)
 revert hl;generalize (a8 B).take j=l;intro hl
 induction l generalizing P with
 | nil=>exact h
 | cons e l ih=>exact ih (Ub (hl e (List.mem_cons_self ..)).1 (hl e (List.mem_cons_self ..)).2 h) fun x hx=>hl x (List.mem_cons_of_mem _ hx)
theorem SU {S:List Q3} {k:Nat} {P:List Q2} (hk:∀ m∈S,Q3.sz k m) (h:qU (·∈S) P):P.length≤S.length∧∀ v∈P,Q2.sz (8*k+2) v:=by
 rcases h with rfl | ⟨hR,_,DC⟩
 ·exact ⟨Nat.zero_le _,fun v hv=>nomatch hv⟩
 ·exact ⟨Vu hR DC,Wz hR fun e he=>(DC e he).imp fun m hm=>⟨hk m hm.1,hm.2⟩⟩
def si (P:List Q2):List Q3:=(a8 P).map fun e=>eL e.1 e.2
theorem LN (P:List Q2):(si P).length=P.length:=by unfold si; rw [List.length_map,mX]
theorem LO {P:List Q2} {e:Q2 × Q2} (h:e∈a8 P):eL e.1 e.2∈si P:=List.mem_map_of_mem (f:=fun e:Q2 × Q2=>eL e.1 e.2) h
theorem Vv {P:List Q2} (h:Ring P):∀ e∈a8 P,mQ (·∈si P) e:=fun e he=>⟨_,LO he,Mz (h.ne e he),by rw [xi,r8],by rw [xi,qf]⟩
theorem MA {P:List Q2} {k:Nat} (h:∀ v∈P,Q2.sz k v):∀ m∈si P,Q3.sz (6*k+3) m:=fun m hm=>by
 obtain ⟨e,he,rfl⟩:=List.mem_map.1 hm;have:=nS he;exact Q3.mono (NS (h _ this.1) (h _ this.2)) (by omega)
theorem mQ.mono {S T:Q3→Prop} {e:Q2 × Q2} (h:mQ S e) (hs:∀ m,S m→T m):mQ T e:=h.imp fun m hm=>⟨hs m hm.1,hm.2⟩
theorem qU.mono {S T:Q3→Prop} {P:List Q2} (h:qU S P) (hs:∀ m,S m→T m):qU T P:=h.imp id fun h=>⟨h.1,h.2.1,fun e he=>(h.2.2 e he).mono hs⟩
def NX (P B:List Q2):Prop:=∀ j,j≤B.length→(jq P B j).length≤1073741824∧∀ v∈jq P B j,Q2.sz 2048 v
theorem WA {S:List Q3} {P B:List Q2} (hB:Ring B) (hk:∀ m∈S,Q3.sz 255 m) (hl:∀ m∈si B,Q3.sz 255 m) (hn:S.length+B.length≤1073741824) (h:qU (·∈S) P):NX P B:=fun j hj=>by
 have hm:=SS (S:=(·∈S++si B)) (B:=B) (fun e he=>⟨hB.ne e he,List.mem_append_right _ (LO he)⟩) (h.mono fun m hm=>List.mem_append_left _ hm) j
 obtain ⟨h1,J⟩:=SU (k:=255) (fun m hm=>(List.mem_append.1 hm).elim (hk m) (hl m)) hm
 rw [List.length_append,LN] at h1;exact ⟨by omega,fun v hv=>Q2.mono (J v hv) (by decide)⟩
open Go
def dH (l:List PV):Bool:=l.any fun p=>decide (¬ p.canon)
instance (a b:Q2):Decidable (iK a b):=inferInstanceAs (Decidable (_∨_))
def C3 (Q:List Q2):Bool:=(List.range Q.length).all fun i=>decide (i=0∨iK (aC Q 0) (aC Q i))
instance (Q:List Q2) (i:Nat):Decidable (o7 Q i):=inferInstanceAs (Decidable (_∨_))
def CF (Q:List Q2):Bool:=(List.range Q.length).all fun i=>decide (¬ o7 Q i)
theorem Bv {Q:List Q2}:C3 Q=true↔lR Q:=by
 unfold C3 lR;rw [List.all_eq_true];constructor
 ·intro h i h0 hi;exact (of_decide_eq_true (h i (List.mem_range.2 hi))).resolve_left (by omega)
 ·intro h i hi;by_cases h0:i=0
  ·exact decide_eq_true (.inl h0)
  ·exact decide_eq_true (.inr (h i (by omega) (List.mem_range.1 hi)))
theorem Ff {Q:List Q2} (h3:3≤Q.length) (ho:lR Q):CF Q=true↔Ring Q:=by
 rw [yt h3 ho];unfold CF;rw [List.all_eq_true];exact ⟨fun h i hi=>of_decide_eq_true (h i (List.mem_range.2 hi)),fun h i hi=>decide_eq_true (h i (List.mem_range.1 hi))⟩
def bC (L:List PV):Int :=
 if L.length < 3∨64 < L.length then 4 else if dH L=true then 1 else if C3 (aV L)=true then (if CF (aV L)=true then 0 else 15) else 8
theorem pY {L:List PV} (h:bC L=0):(3≤L.length∧L.length≤64)∧(∀ p∈L,p.canon)∧Ring (aV L)∧lR (aV L):=by
 unfold bC at h
 split at h
 ·cases h
 ·rename_i h1
  split at h
  ·cases h
  ·rename_i J
   split at h
   ·rename_i h3
    split at h
    ·rename_i h4;have ho:=Bv.1 h3;exact ⟨by omega,fun p hp=>Decidable.byContradiction fun e=>J (List.any_eq_true.2 ⟨p,hp,decide_eq_true e⟩),(Ff (by rw [dp]; omega) ho).1 h4,ho⟩
    ·cases h
   ·cases h
def zw (p:Q2) (o:Int) (e:Q2 × Q2):Int:=if aN (an e.1 e.2 p) 0 < o then aN (an e.1 e.2 p) 0 else o
def fe (Q:List Q2) (p:Q2):Int:=(a8 Q).foldl (zw p) 1
def qV (L:List PV) (p:PV):Int × Int:=if bC L=0∧p.canon then (fe (aV L) p.p,0) else (0,1)
def u0 (R:List Q2):List Q2 × Int:=if R.length=0 then ([],11) else if 64 < R.length then ([],4) else (R,0)
def gZ (A B:List PV):List Q2 × Int:=if bC A=0∧bC B=0 then u0 (CE (aV A) (aV B)) else ([],1)
def rz (s:Bool) (o:Int):Bool:=if s then decide (o≤0) else decide (o < 0)
def ik (s:Bool) (A B:List Q2):Option (Q2 × Q2):=(a8 A).find? fun e=>B.all fun x=>rz s (aN (an e.1 e.2 x) 0)
def kE (s:Bool) (A B:List Q2):Option (Q2 × Q2):=match ik s A B with
 | some e=>some e
 | none=>ik s B A
def Pm (s:Bool) (A B:List PV):Bool × Int:=if bC A=0∧bC B=0 then ((kE s (aV A) (aV B)).isNone,0) else (false,1)
def Qg (e:Q2 × Q2):XV:=(cA e.1,cA e.2)
def nz (A B:List PV):XV × Int:=if bC A=0∧bC B=0 then (match kE true (aV A) (aV B) with | some e=>(Qg e,0) | none=>(np,6)) else (np,1)
def lz (a b:Q2) (st:Option (Rat × Rat)) (e:Q2 × Q2):Option (Rat × Rat) :=
 match st with
 | none=>none
 | some (lo,hi) =>
  if an e.1 e.2 b - an e.1 e.2 a=0 then (if an e.1 e.2 a≤0 then none else some (lo,hi))
  else if 0 < an e.1 e.2 b - an e.1 e.2 a then some (iX lo (-an e.1 e.2 a / (an e.1 e.2 b - an e.1 e.2 a)),hi)
  else some (lo,iY hi (-an e.1 e.2 a / (an e.1 e.2 b - an e.1 e.2 a)))
def kF (Q:List Q2) (a b:Q2):Option (Rat × Rat):=match (a8 Q).foldl (lz a b) (some (0,1)) with
 | none=>none
 | some (lo,hi)=>if hi≤lo then none else some (lo,hi)
def dY (L:List PV) (s:XV):(RV × RV) × Bool × Int :=
 if bC L=0∧s.1.canon∧s.2.canon then (match kF (aV L) s.1.p s.2.p with | some (lo,hi)=>((RV.of lo,RV.of hi),true,0) | none=>((aZ,aZ),false,0)) else ((aZ,aZ),false,1)
abbrev QL:=Option (List Q2 × Nat)
def QL.val:QL→Value
 | none=>.slice none 0 0
 | some i=>.slice (some ⟨0,0,none⟩) i.1.length i.2
def QL.aj:QL→List ah
 | none=>[]
 | some i=>[.flat false i.1.length 6 (bW i.1)]
def QL.list:QL→List Q2
 | none=>[]
 | some i=>i.1
def cX (R:List Q2):Option ah:=match R.length with
 | 0=>none
 | n+1=>some (.flat true (n+1) 6 (bW R))
def RV.c1 (x:RV):List Value:=[.bool x.1,.string x.2.1,.string x.2.2]
def PL.fit (i:PL):Prop:=i.list.length≤1099511627776∧∀ v∈i.list,v.sz 2048
def CG:bD:={ ι:=PV,args:=fun i=>[i.v],pre:=fun i=>i.sz 2048,val:=fun i=>.bool (decide (¬ i.canon)) }
def eE:cI:={ ι:=PL,args:=fun i=>[i.val],aj:=PL.aj,pre:=PL.fit,val:=fun i=>.bool (!dH i.list),new:=fun _=>none }
def bt:cI:={ ι:=PL,args:=fun i=>[i.val],aj:=PL.aj,pre:=PL.fit,val:=fun i=>.int .i64 (bC i.list),new:=fun _=>none }
def nc:cI:={ ι:=PL × PV,args:=fun i=>[i.1.val,i.2.v],aj:=fun i=>i.1.aj,pre:=fun i=>i.1.fit∧i.2.sz 2048,val:=fun i=>.int .i64 (fe (aV i.1.list) i.2.p),new:=fun _=>none }
def kT:cI:={ ι:=PL × PV,args:=fun i=>[i.1.val,i.2.v],aj:=fun i=>i.1.aj,pre:=fun i=>i.1.fit∧i.2.sz 2048,val:=fun i=>ZE.v (qV i.1.list i.2),new:=fun _=>none }
def qh:bD:={ ι:=xS,args:=fun i=>[i.1.v,i.2.1.v,i.2.2.v],pre:=C0,val:=fun i=>(RV.of (an i.1.p i.2.1.p i.2.2.p)).v }
def fk:cI:={ ι:=QL,args:=fun i=>[i.val],aj:=QL.aj,pre:=fun i=>i.list.length≤549755813888∧∀ v∈i.list,Q2.sz 262144 v,val:=fun i=>eK i.aj.length (fL i.list).length,new:=fun i=>cX (fL i.list) }
def rn.fit (i:rn):Prop:=(i.1.fit∧i.2.fit)
def C4 (A B:List PV):Prop:=bC A=0→bC B=0→NX (aV A) (aV B)
def jr:cI:={ ι:=rn,args:=fun i=>[i.1.val,i.2.CA i.1.aj.length],aj:=fun i=>i.1.aj++i.2.aj,pre:=fun i=>rn.fit i∧C4 i.1.list i.2.list,val:=fun i=>.tuple ⟨[eK (i.1.aj++i.2.aj).length (gZ i.1.list i.2.list).1.length,.int .i64 (gZ i.1.list i.2.list).2]⟩,new:=fun i=>cX (gZ i.1.list i.2.list).1 }
def Oy (s:Bool):cI:={ ι:=rn,args:=fun i=>[i.1.val,i.2.CA i.1.aj.length],aj:=fun i=>i.1.aj++i.2.aj,pre:=rn.fit,val:=fun i=>.tuple ⟨[.bool (Pm s i.1.list i.2.list).1,.int .i64 (Pm s i.1.list i.2.list).2]⟩,new:=fun _=>none }
def mL:cI:={ ι:=rn,args:=fun i=>[i.1.val,i.2.CA i.1.aj.length],aj:=fun i=>i.1.aj++i.2.aj,pre:=rn.fit,val:=fun i=>.tuple ⟨[(nz i.1.list i.2.list).1.v,.int .i64 (nz i.1.list i.2.list).2]⟩,new:=fun _=>none }
def gN:cI:={ ι:=PL × XV,args:=fun i=>[i.1.val,i.2.v],aj:=fun i=>i.1.aj,pre:=fun i=>i.1.fit∧i.2.1.sz 2048∧i.2.2.sz 2048,val:=fun i=>.tuple ⟨[(dY i.1.list i.2).1.1.v,(dY i.1.list i.2).1.2.v,.bool (dY i.1.list i.2).2.1,.int .i64 (dY i.1.list i.2).2.2]⟩,new:=fun _=>none }
def sT (a b p:PV):Bool:=decide (p≠a∧p≠b∧aN (an a.p b.p p.p) 0≤0)
def sH:cI:={ ι:=xS,args:=fun i=>[i.2.2.v,.pointer (some ⟨0,0,none⟩),.pointer (some ⟨1,0,none⟩)],aj:=fun i=>[.flat false 1 6 (fun _=>i.1.cells),.flat false 1 6 (fun _=>i.2.1.cells)],pre:=fun i=>i.1.sz 2048∧i.2.1.sz 2048∧i.2.2.sz 2048,val:=fun i=>.bool (sT i.1 i.2.1 i.2.2),new:=fun _=>none }
def uL (L:List PV) (i:Nat):Prop:=∀ p∈L.take i,p.canon
theorem Ku (L:List PV):uL L 0:=fun p hp=>by simp at hp
theorem K7 {L:List PV} {i:Nat} {p:PV} (h:uL L i) (hp:L[i]?=some p) (hc:p.canon):uL L (i+1):=fun q hq=>by
 rw [List.take_add_one,hp] at hq;simp only [Option.toList_some,List.mem_append,List.mem_singleton] at hq;rcases hq with hq | rfl
 ·exact h q hq
 ·exact hc
theorem LP {L:List PV} (h:uL L L.length):dH L=false:=by
 cases e:dH L
 ·rfl
 ·obtain ⟨p,hp,hg⟩:=List.any_eq_true.1 e;rw [uL,List.take_length] at h;exact absurd (h p hp) (of_decide_eq_true hg)
theorem tN {L:List PV} {n j:Nat} (hn:n=L.length) (h:j < n):∃ a b:PV,dq L j=a.cells∧dq L (bg n j)=b.cells∧(a∈L∧b∈L)∧(a8 (aV L))[j]?=some (a.p,b.p)∧bg n j < n∧a=jd L j∧b=jd L (bg n j):=by
 have hl:=cV h;refine ⟨jd L j,jd L (bg n j),rR (by omega),rR (by omega),⟨oW (by omega),oW (by omega)⟩,?_,hl,rfl,rfl⟩
 rw [ky (by omega),ky (by omega)]
 exact rQ (hJ (by rw [dp]; omega)) (by rw [dp,← hn]; exact hJ (by rw [dp]; show bg n j < _; omega))
theorem LQ {α β:Type} {f:β→α→β} {l:List α} {z:β} {j:Nat} {e:α} (h:l[j]?=some e):(l.take (j+1)).foldl f z=f ((l.take j).foldl f z) e:=by
 rw [List.take_add_one,h,List.foldl_append]; rfl
theorem SV (L:List PV):(a8 (aV L)).take L.length=a8 (aV L):=by
 rw [← dp L,← mX (aV L),List.take_length]
def ur (Q:List Q2) (p:Q2) (j:Nat):Int:=((a8 Q).take j).foldl (zw p) 1
theorem RR {Q:List Q2} {p a b:Q2} {j:Nat} (h:(a8 Q)[j]?=some (a,b)):ur Q p (j+1)=if aN (an a b p) 0 < ur Q p j then aN (an a b p) 0 else ur Q p j:=by
 unfold ur;rw [LQ h];simp only [zw]
theorem SW {L:List PV} {p:Q2}:ur (aV L) p L.length=fe (aV L) p:=by unfold ur; rw [SV]; rfl
theorem BQ {L:List PV} (h:L.length < 3∨64 < L.length):bC L=4:=if_pos h
theorem Nm {L:List PV} (h:¬ (L.length < 3∨64 < L.length)) (J:dH L=true):bC L=1:=by unfold bC; rw [if_neg h,if_pos J]
theorem Nn {L:List PV} (h:¬ (L.length < 3∨64 < L.length)) (J:dH L=false) (h3:¬ lR (aV L)):bC L=8:=by unfold bC; rw [if_neg h,if_neg (by rw [J]; decide),if_neg (fun e=>h3 (Bv.1 e))]
theorem Gj {L:List PV} (h:¬ (L.length < 3∨64 < L.length)) (J:dH L=false) (h3:lR (aV L)) (h4:¬ Ring (aV L)):bC L=15:=by
 unfold bC;rw [if_neg h,if_neg (by rw [J]; decide),if_pos (Bv.2 h3),if_neg (fun e=>h4 ((Ff (by rw [dp]; omega) h3).1 e))]
theorem MB {L:List PV} (h:¬ (L.length < 3∨64 < L.length)) (J:dH L=false) (h3:lR (aV L)) (h4:Ring (aV L)):bC L=0:=by
 unfold bC;rw [if_neg h,if_neg (by rw [J]; decide),if_pos (Bv.2 h3),if_pos ((Ff (by rw [dp]; omega) h3).2 h4)]
theorem Bh {L:List PV} (h:dH L=false) {p:PV} (hp:p∈L):p=cA p.p:=by
 have hc:p.canon:=Decidable.byContradiction fun e=>by
  have:dH L=true:=List.any_eq_true.2 ⟨p,hp,decide_eq_true e⟩;rw [h] at this; cases this
 exact Prod.ext hc.1 hc.2
def xA (Q:List Q2) (i:Nat):Prop:=∀ k,0 < k→k≤i→iK (aC Q 0) (aC Q k)
theorem Kv (Q:List Q2):xA Q 0:=fun k h0 h=>by omega
theorem K8 {Q:List Q2} {i:Nat} (h:xA Q i) (J:iK (aC Q 0) (aC Q (i+1))):xA Q (i+1):=fun k h0 hk=>by
 rcases Nat.lt_or_eq_of_le hk with e | e
 ·exact h k h0 (by omega)
 ·rw [e]; exact J
theorem LR {Q:List Q2} {i:Nat} (h:xA Q i) (hi:i+1=Q.length):lR Q:=fun k h0 hk=>h k h0 (by omega)
theorem NY {a b:Q2}:iK a b↔0 < fF b a:=by
 rw [← yB];have h1:=K0 a b;have J:=K0 b a;have h3:=SO (p:=a) (q:=b);have h4:=ud (a:=a) (b:=b);have h5:=ud (a:=b) (b:=a);have h6:fF a b < 0↔iK a b:=yB;have h7:fF b a < 0↔iK b a:=yB;have h8:¬ (iK a b∧iK b a):=fun ⟨x,y⟩=>by unfold iK at x y; grind
 constructor
 ·intro h;have:¬ fF b a < 0:=fun e=>h8 ⟨h6.1 h,h7.1 e⟩
  omega
 ·intro h;refine Decidable.byContradiction fun hc=>?_
  have h9:iz b a:=h5.2 hc;have IU:iz a b:=h4.2 (by omega)
  have:a=b:=Mw IU h9;have:=h3.2 (oR.2 this);omega
theorem Zr {L:List PV} {j:Nat} {a b:PV} (h:j < L.length) (ha:a=jd L j) (hb:b=jd L (bg L.length j)) (J:L.any (sT a b)=false):¬ yR (aV L) j:=by
 rintro ⟨q,hq,h3,h4,h5⟩
 obtain ⟨p,hp,rfl⟩:=List.mem_map.1 hq;rw [dp] at h4 h5;rw [← ky h,← ha] at h3 h5;rw [← ky (cV h),← hb] at h4 h5;have:L.any (sT a b)=true:=List.any_eq_true.2 ⟨p,hp,decide_eq_true ⟨fun e=>h3 (by rw [e]),fun e=>h4 (by rw [e]),Int.not_lt.1 fun e=>Rat.not_lt.2 h5 (tV.1 e)⟩⟩
 rw [J] at this; cases this
theorem WB {L:List PV} {j:Nat} {a b p:PV} (hc:dH L=false) (h:j < L.length) (ha:a=jd L j) (hb:b=jd L (bg L.length j)) (hp:p∈L) (J:sT a b p=true):yR (aV L) j:=by
 obtain ⟨h3,h4,h5⟩:=of_decide_eq_true J;have ca:=Bh hc (p:=a) (by rw [ha]; exact oW h)
 have cb:=Bh hc (p:=b) (by rw [hb]; exact oW (cV h))
 have cp:=Bh hc hp;refine ⟨p.p,List.mem_map_of_mem hp,?_,?_,?_⟩
 ·rw [← ky h,← ha]; exact fun e=>h3 (by rw [cp,ca,e])
 ·rw [dp,← ky (cV h),← hb]; exact fun e=>h4 (by rw [cp,cb,e])
 ·rw [dp,← ky h,← ha,← ky (cV h),← hb]; exact Rat.not_lt.1 fun e=>by have:=tV.2 e; omega
theorem adp {p:PV} (h:true=dH [p]):p.canon→False:=fun hc=>by
 unfold dH at h;simp [hc] at h
theorem abG {p:PV} (h:false=dH [p]):p.canon:=Decidable.byContradiction fun hc=>by
 unfold dH at h;simp [hc] at h
theorem adq {p q:PV} (h:true=dH [p,q]):p.canon→q.canon→False:=fun h1 J=>by
 unfold dH at h;simp [h1,J] at h
theorem abH {p q:PV} (h:false=dH [p,q]):p.canon∧q.canon:=by
 unfold dH at h;simp at h;exact h
theorem NZ {L:List PV} {p:PV} (h:¬ (bC L=0∧p.canon)):qV L p=(0,1):=if_neg h
theorem No {L:List PV} {p:PV} (h:bC L=0∧p.canon):qV L p=(fe (aV L) p.p,0):=if_pos h
def u6:bD:={ ι:=xS,args:=fun i=>[i.1.v,i.2.1.v,i.2.2.v],pre:=C0,val:=fun i=>.bool (decide (i.2.1≠i.2.2)) }
def u7:bD:={ ι:=xS,args:=fun i=>[i.1.v,i.2.1.v,i.2.2.v],pre:=C0,val:=fun i=>.bool (decide (aN (an i.1.p i.2.1.p i.2.2.p) 0≠0)) }
def sI (b:Bool) (Q:List Q2):List Q2:=match b with
 | false=>gC Q
 | true=>jO Q
def kz (f g:FuncId):cI:={ ι:=QL × Bool,args:=fun i=>[i.1.val,.func (.func (match i.2 with | false=>f | true=>g)) #[] #[]],aj:=fun i=>i.1.aj,pre:=fun i=>i.1.list.length≤549755813888∧∀ v∈i.1.list,Q2.sz 262144 v,val:=fun i=>eK i.1.aj.length (sI i.2 i.1.list).length,new:=fun i=>cX (sI i.2 i.1.list) }
theorem Bw {R:List Q2} {B:ah} (h:cX R=some B):B.jR=true:=by
 unfold cX at h
 split at h
 ·cases h
 ·cases h; rfl
def qJ (Q:List Q2) (j:Nat):List Q2:=((a8 Q).take j).flatMap nr
def sJ (Q:List Q2) (j:Nat):List Q2:=(List.range j).flatMap (n5 Q)
theorem SX {Q:List Q2} {j:Nat} {a b:PV} (h:j < Q.length) (ha:a=cA (aC Q j)) (hb:b=cA (aC Q (bg Q.length j))):qJ Q (j+1)=qJ Q j++if a≠b then [aC Q j] else []:=by
 unfold qJ;rw [LM (rQ (hJ h) (hJ (cV h)))]
 congr 1
 show (if fF (aC Q j) (aC Q (bg Q.length j))≠0 then [aC Q j] else [])=_
 by_cases e:aC Q j=aC Q (bg Q.length j)
 ·rw [if_neg (fun h=>h (oR.2 e)),if_neg (fun h=>h (by rw [ha,hb,e]))]
 ·rw [if_pos (fun h=>e (oR.1 h)),if_pos (fun h=>e ((Wu ha hb).1 h))]
theorem SY {Q:List Q2} {j:Nat} {a b c:Q2} (ha:a=aC Q (eJ Q.length j)) (hb:b=aC Q j) (hc:c=aC Q (bg Q.length j)):sJ Q (j+1)=sJ Q j++if aN (an a b c) 0≠0 then [b] else []:=by
 unfold sJ;rw [List.range_succ,List.flatMap_append,List.flatMap_singleton,Vq ha hb hc rfl]
theorem LS (Q:List Q2):qJ Q Q.length=gC Q:=by unfold qJ gC; rw [← mX Q,List.take_length]
theorem Vw (Q:List Q2) (j:Nat):(qJ Q j).length≤Q.length:=Wv Q j
theorem Vx (Q:List Q2) (j:Nat):(sJ Q j).length≤j:=Ww Q j
theorem MC {L:List Q2} {n j:Nat} {a b d:PV} (hn:n=L.length) (h:j < n) (ha:a.p=aC L (eJ n j)) (hb:b=cA (aC L j)) (hd:d=cA (aC L (bg n j))):∃ z:Bool,u6.val (a,b,d)=.bool z∧qJ L (j+1)=qJ L j++if z=true then [aC L j] else []:=by
 refine ⟨decide (b≠d),rfl,?_⟩;rw [SX (a:=b) (b:=d) (by omega) hb (by rw [← hn]; exact hd)]
 by_cases e:b=d
 ·rw [if_neg (fun h=>h e),if_neg (by rw [decide_eq_false (fun h=>h e)]; decide)]
 ·rw [if_pos e,if_pos (decide_eq_true e)]
theorem MD {L:List Q2} {n j:Nat} {a b d:PV} (hn:n=L.length) (h:j < n) (ha:a.p=aC L (eJ n j)) (hb:b=cA (aC L j)) (hd:d=cA (aC L (bg n j))):∃ z:Bool,u7.val (a,b,d)=.bool z∧sJ L (j+1)=sJ L j++if z=true then [aC L j] else []:=by
 have eb:b.p=aC L j:=by rw [hb,ie]
 have ed:d.p=aC L (bg n j):=by rw [hd,ie]
 refine ⟨decide (aN (an a.p b.p d.p) 0≠0),rfl,?_⟩;rw [SY (a:=a.p) (b:=b.p) (c:=d.p) (by rw [← hn]; exact ha) eb (by rw [← hn]; exact ed),eb]
 by_cases e:aN (an a.p (aC L j) d.p) 0=0
 ·rw [if_neg (fun h=>h e),if_neg (by rw [decide_eq_false (fun h=>h e)]; decide)]
 ·rw [if_pos e,if_pos (decide_eq_true e)]
theorem LU (Q:List Q2):sJ Q Q.length=jO Q:=rfl
theorem Uc (Q:List Q2):fL Q=if (sI true (sI false Q)).length < 3 then [] else eM (sI true (sI false Q)):=rfl
theorem WC {R:List Q2} {n:Nat} (h:R.length=n) (h0:0 < n):cX R=some (.flat true n 6 (bW R)):=by
 unfold cX;rw [h];cases n with
 | zero=>omega
 | succ n=>rfl
theorem WD {k n:Nat} (h0:0 < n):eK k n=.slice (some ⟨k,0,none⟩) n aK:=by
 cases n with
 | zero=>omega
 | succ n=>rfl
def HV (f:FuncId):cI:={ ι:=QL × nO,args:=fun i=>[.func (.func f) #[] #[.pointer (some ⟨i.1.aj.length,0,none⟩),.pointer (some ⟨i.1.aj.length+1,0,none⟩),.pointer (some ⟨i.1.aj.length+2,0,none⟩)]],aj:=fun i=>i.1.aj++[.aL false 1 [[i.1.val]],.aL false 6 [i.2.1.cells], .aL false 6 [i.2.2.cells]],pre:=fun i=>i.1.list.length≤1073741824∧(∀ v∈i.1.list,Q2.sz 2048 v)∧i.2.1.sz 2048∧i.2.2.sz 2048,val:=fun i=>eK (i.1.aj.length+3) (fh (eL i.2.1.p i.2.2.p) i.1.list).length,new:=fun i=>cX (fh (eL i.2.1.p i.2.2.p) i.1.list) }
theorem uM {a b p:Q2} {k l m:Nat} (ha:Q2.sz k a) (hb:Q2.sz l b) (hp:Q2.sz m p):QB (an a b p) (l+k+1+(m+k+1)+(l+k+1+(m+k+1))+1):=yq (o5 hb ha) (o5 hp ha)
theorem LW {m:Q3} {L:List Q2} {j:Nat} {a b w:PV} {O:List Q2} {x y:Rat} (g0:(a8 L)[j]?=some (a.p,b.p)) (hO:O=((a8 L).take j).flatMap (ny m)) (hx:x=bd m a.p) (hy:y=bd m b.p) (hw:w.p=atR a.p b.p (x / (x - y))) :
  ((a8 L).take (j+1)).flatMap (ny m)=O++((if aN x 0 ≥ 0 then [a.p] else [])++if aN x 0*aN y 0 < 0 then [w.p] else []):=by
 rw [LM g0,← hO,ny];subst hx; subst hy
 congr 1
 unfold nq gK jo;rw [hw]
theorem ME (m:Q3) (L:List Q2):((a8 L).take L.length).flatMap (ny m)=fh m L:=by rw [Ni,← mX L,List.take_length]
theorem WE (m:Q3) (L:List Q2) (j:Nat):(((a8 L).take j).flatMap (ny m)).length≤2*L.length:=by
 have:=Fe m ((a8 L).take j);rw [List.length_take,mX] at this;omega
theorem WG {L:List PV} (h:dH L=false):bH (aV L)=L:=by
 unfold bH aV;rw [List.map_map];refine (List.map_congr_left (fun p hp=>?_)).trans (List.map_id L)
 exact (Bh h hp).symm
theorem Vy {L:List PV} (h:bC L=0):dH L=false:=by
 cases e:dH L
 ·rfl
 ·obtain ⟨p,hp,hc⟩:=List.any_eq_true.1 e;exact absurd ((pY h).2.1 p hp) (of_decide_eq_true hc)
theorem FN {L:List PV} (h:bC L=0):bW (aV L)=dq L:=by unfold bW; rw [WG (Vy h)]
theorem WH {R:List Q2} (h:R.length=0):u0 R=([],11):=if_pos h
theorem WI {R:List Q2} (h:64 < R.length):u0 R=([],4):=by unfold u0; rw [if_neg (by omega),if_pos h]
theorem N0 {R:List Q2} (h:¬ R.length=0) (J:¬ 64 < R.length):u0 R=(R,0):=by unfold u0; rw [if_neg h,if_neg J]
theorem WJ {k:Nat} {m:Q3} {P:List Q2} (sm:Q3.sz k m) (hP:∀ v∈P,Q2.sz 2048 v) (hk:k≤12291):∀ v∈fh m P,Q2.sz 262144 v:=by
 intro v hv;rcases Wn hv with ⟨h1,_⟩ | ⟨e,he,hx⟩
 ·exact Q2.mono (hP v h1) (by decide)
 ·have hx:=x6 hx;rw [hx.2.1];have h1:=hP _ (nS he).1;have J:=hP _ (nS he).2;have s1:=NT sm h1;have s2:=NT sm J;have:=j3 h1 J (s1.div (s1.sub s2) (by omega))
  exact Q2.mono this (by omega)
theorem FO {P:List Q2} {a b:Q2} (hl:P.length≤1073741824) (hP:∀ v∈P,Q2.sz 2048 v) (ha:Q2.sz 2048 a) (hb:Q2.sz 2048 b):(fh (eL a b) P).length≤549755813888∧∀ v∈fh (eL a b) P,Q2.sz 262144 v :=
 ⟨by have:=Vp (eL a b) P; omega,WJ (k:=12291) (Q3.mono (NS ha hb) (by decide)) hP (Nat.le_refl _)⟩
def adr (v:Value) (q:Nat):Nat→Value
 | 0=>v
 | _+1=>eK 5 q
def ads (F:Nat→List Value) (q:Nat):Nat→aw
 | 0=>[]
 | _+1=>zu 6 F q
theorem Hk {A B:List PV} (h:¬ (bC A=0∧bC B=0)):gZ A B=([],1):=if_neg h
theorem N1 {A B:List PV} {R:List Q2} (h:bC A=0∧bC B=0) (hR:R=jq (aV A) (aV B) B.length):gZ A B=u0 R:=by
 unfold gZ;rw [if_pos h,hR,← dp B,Ua]
theorem EG {P Q C R:List Q2} {j:Nat} {a b:Q2} (g0:(a8 Q)[j]?=some (a,b)) (hC:C=fh (eL a b) (jq P Q j)) (hR:R=fL C):R=jq P Q (j+1):=by
 rw [SR g0,hR,hC]; rfl
def qW (s:Bool):bD:={ ι:=Int,args:=fun z=>[.int .i64 z],pre:=fun _=>True,val:=fun z=>.bool (rz s z) }
abbrev SI:=((List Q2 × Nat) × (List Q2 × Nat)) × FuncId × Bool
def gI (o:Option (Q2 × Q2)):XV × Bool:=match o with
 | some e=>(Qg e,true)
 | none=>(np,false)
def SI.ok (f1 f2 f3:FuncId) (i:SI):Prop:=(i.2=(f1,true)∨i.2=(f2,false)∨i.2=(f3,true))∧(i.1.1.1.length≤1073741824∧∀ v∈i.1.1.1,Q2.sz 2048 v)∧i.1.2.1.length≤1073741824∧∀ v∈i.1.2.1,Q2.sz 2048 v
def xI (f1 f2 f3:FuncId) (V:Bool→List Q2→List Q2→Option (Q2 × Q2)):cI:={ ι:=SI,args:=fun i=>[.slice (some ⟨0,0,none⟩) i.1.1.1.length i.1.1.2,.slice (some ⟨1,0,none⟩) i.1.2.1.length i.1.2.2,.func (.func i.2.1) #[] #[]],aj:=fun i=>[.flat false i.1.1.1.length 6 (bW i.1.1.1),.flat false i.1.2.1.length 6 (bW i.1.2.1)],pre:=SI.ok f1 f2 f3,val:=fun i=>.tuple ⟨[(gI (V i.2.2 i.1.1.1 i.1.2.1)).1.v,.bool (gI (V i.2.2 i.1.1.1 i.1.2.1)).2]⟩,new:=fun _=>none }
def nC (s:Bool) (B:List Q2) (e:Q2 × Q2):Bool:=B.all fun x=>rz s (aN (an e.1 e.2 x) 0)
def sU (s:Bool) (a b x:Q2):Bool:=!rz s (aN (an a b x) 0)
theorem WK {s:Bool} {B:List Q2} {a b:Q2} (h:B.any (sU s a b)=false):nC s B (a,b)=true:=by
 unfold nC;rw [List.all_eq_true];intro x hx;cases e:rz s (aN (an a b x) 0)
 ·have:B.any (sU s a b)=true:=List.any_eq_true.2 ⟨x,hx,by unfold sU; rw [e]; rfl⟩
  rw [h] at this; cases this
 ·rfl
theorem Gk {s:Bool} {B:List Q2} {a b x:Q2} (hx:x∈B) (h:sU s a b x=true):nC s B (a,b)=false:=by
 unfold nC;cases e:B.all fun x=>rz s (aN (an (a,b).1 (a,b).2 x) 0)
 ·rfl
 ·have:=List.all_eq_true.1 e x hx;unfold sU at h;rw [show rz s (aN (an a b x) 0)=true from this] at h
  cases h
theorem Vz {s:Bool} {A B:List Q2} {j:Nat} {e:Q2 × Q2} (h:nY (nC s B) (a8 A) j) (he:(a8 A)[j]?=some e) (J:nC s B e=true):ik s A B=some e:=by
 unfold ik;rw [show (fun e:Q2 × Q2=>B.all fun x=>rz s (aN (an e.1 e.2 x) 0))=nC s B from rfl]
 have hj:=(List.getElem?_eq_some_iff.1 he).1;rw [← List.take_append_drop j (a8 A),List.find?_append,List.find?_eq_none.2,List.drop_eq_getElem_cons hj]
 ·rw [List.find?_cons,(List.getElem?_eq_some_iff.1 he).2,J]; rfl
 ·intro x hx hc;have:((a8 A).take j).any (nC s B)=true:=List.any_eq_true.2 ⟨x,hx,hc⟩;rw [show ((a8 A).take j).any (nC s B)=false from h] at this
  cases this
theorem VA {s:Bool} {A B:List Q2} {n:Nat} (hn:n=A.length) (h:nY (nC s B) (a8 A) n):ik s A B=none:=by
 unfold ik;rw [List.find?_eq_none];intro x hx hc;rw [hn,← mX A] at h;have:=EE h;have J:(a8 A).any (nC s B)=true:=List.any_eq_true.2 ⟨x,hx,hc⟩;rw [this] at J;cases J
theorem WL {s:Bool} {A B:List Q2} {x:XV} (h:gI (ik s A B)=(x,true)):gI (kE s A B)=(x,true):=by
 unfold kE;cases e:ik s A B with
 | none=>rw [e] at h; cases h
 | some y=>rw [e] at h; exact h
theorem WM {s:Bool} {A B:List Q2} {x:XV} (h:gI (ik s A B)=(x,false)):gI (kE s A B)=gI (ik s B A):=by
 unfold kE;cases e:ik s A B with
 | none=>rfl
 | some y=>rw [e] at h; cases h
theorem Ci {A B:List PV} (h:¬ (bC A=0∧bC B=0)):nz A B=(np,1):=if_neg h
theorem WN {A B:List PV} {x:XV} {z:Bool} (h:bC A=0∧bC B=0) (J:gI (kE true (aV A) (aV B))=(x,z)):nz A B=if z=true then (x,0) else (np,6):=by
 unfold nz;rw [if_pos h];cases e:kE true (aV A) (aV B) with
 | none=>rw [e] at J; cases J; rfl
 | some y=>rw [e] at J; cases J; rfl
def oc:bD:={ ι:=PV,args:=fun i=>[i.v],pre:=fun _=>True,val:=fun i=>.bool (decide (¬ i.sz 12)) }
def nf (L:List PV):Bool:=decide ((10 < L.length∧L.length < 63)∨66 < L.length) || uq 12 L
def kW:cI:={ ι:=PL,args:=fun i=>[i.val],aj:=PL.aj,pre:=fun i=>i.list.length≤9223372036854775807,val:=fun i=>.bool (nf i.list),new:=fun _=>none }
theorem K9 {L:List PV} (h:(10 < L.length∧L.length < 63)∨66 < L.length):nf L=true:=by unfold nf; rw [decide_eq_true h]; rfl
theorem SZ {L:List PV} (h:¬ ((10 < L.length∧L.length < 63)∨66 < L.length)):nf L=uq 12 L:=by unfold nf; rw [decide_eq_false h]; rfl
theorem LX {L:List PV} (h:nf L=false):(L.length≤10∨(63≤L.length∧L.length≤66))∧∀ p∈L,p.sz 12:=by
 unfold nf at h;rw [Bool.or_eq_false_iff] at h;have h1:=of_decide_eq_false h.1;exact ⟨by omega,Rl h.2⟩
theorem BR {n1 n2:Bool} {a1 b1 a2 b2:ByteArray} (h:12 < a1.size∨12 < b1.size∨12 < a2.size∨12 < b2.size):Value.bool true=oc.val ((n1,a1,b1),(n2,a2,b2)):=by
 have hn:¬ PV.sz 12 ((n1,a1,b1),(n2,a2,b2)):=fun e=>by
  have e:(a1.size≤12∧b1.size≤12)∧a2.size≤12∧b2.size≤12:=e;omega
 exact congrArg Value.bool (decide_eq_true hn).symm
theorem Zs {n1 n2:Bool} {a1 b1 a2 b2:ByteArray} (h:¬ (12 < a1.size∨12 < b1.size∨12 < a2.size∨12 < b2.size)):Value.bool false=oc.val ((n1,a1,b1),(n2,a2,b2)):=by
 refine (congrArg Value.bool (decide_eq_false fun e=>e ?_)).symm
 show (a1.size≤12∧b1.size≤12)∧a2.size≤12∧b2.size≤12
 omega
open Go
theorem adt:bK 0=aZ.v:=by
 show Value.agg ⟨[.bool false,.string (nb 0),.string (fo 1)]⟩=_
 rw [oS]; rfl
open Go
def zz (a b:Q2) (st:Option (Rat × Rat)) (e:Q2 × Q2):Option (Rat × Rat) :=
 match st with
 | none=>none
 | some (lo,hi) =>
  if an e.1 e.2 a≤0∧an e.1 e.2 b≤0 then none
  else if 0 < an e.1 e.2 a∧0 < an e.1 e.2 b then some (lo,hi)
  else if 0 < an e.1 e.2 b then some (iX lo (an e.1 e.2 a / (an e.1 e.2 a - an e.1 e.2 b)),hi)
  else some (lo,iY hi (an e.1 e.2 a / (an e.1 e.2 a - an e.1 e.2 b)))
def sV (st:Option (Rat × Rat)):Option (Rat × Rat):=match st with
 | none=>none
 | some (lo,hi)=>if hi≤lo then none else some (lo,hi)
theorem WO (Q:List Q2) (a b:Q2):kF Q a b=sV ((a8 Q).foldl (lz a b) (some (0,1))):=rfl
theorem max_le (x y:Rat):x≤iX x y∧y≤iX x y:=by unfold iX; split <;> grind
theorem min_le (x y:Rat):iY x y≤x∧iY x y≤y:=by unfold iY; split <;> grind
theorem max_eq {x y:Rat} (h:y≤x):iX x y=x:=by unfold iX; rw [if_neg (by grind)]
theorem min_eq {x y:Rat} (h:x≤y):iY x y=x:=by unfold iY; rw [if_neg (by grind)]
theorem Bx {a b:Q2}:∀ l:List (Q2 × Q2),l.foldl (lz a b) none=none
 | []=>rfl
 | e::l=>by rw [List.foldl_cons]; exact Bx l
theorem yu {a b:Q2}:∀ l:List (Q2 × Q2),l.foldl (zz a b) none=none
 | []=>rfl
 | e::l=>by rw [List.foldl_cons]; exact yu l
theorem Fg (a b:Q2) (lo hi:Rat) (e:Q2 × Q2):lz a b (some (lo,hi)) e=if an e.1 e.2 b - an e.1 e.2 a=0 then (if an e.1 e.2 a≤0 then none else some (lo,hi))
  else if 0 < an e.1 e.2 b - an e.1 e.2 a then some (iX lo (-an e.1 e.2 a / (an e.1 e.2 b - an e.1 e.2 a)),hi)
  else some (lo,iY hi (-an e.1 e.2 a / (an e.1 e.2 b - an e.1 e.2 a))):=rfl
theorem LY (a b:Q2) (lo hi:Rat) (e:Q2 × Q2):zz a b (some (lo,hi)) e=if an e.1 e.2 a≤0∧an e.1 e.2 b≤0 then none
  else if 0 < an e.1 e.2 a∧0 < an e.1 e.2 b then some (lo,hi)
  else if 0 < an e.1 e.2 b then some (iX lo (an e.1 e.2 a / (an e.1 e.2 a - an e.1 e.2 b)),hi)
  else some (lo,iY hi (an e.1 e.2 a / (an e.1 e.2 a - an e.1 e.2 b))):=rfl
theorem MF {a b:Q2}:∀ (l:List (Q2 × Q2)) (lo hi:Rat),hi≤lo→sV (l.foldl (lz a b) (some (lo,hi)))=none:=by
 intro l
 induction l with
 | nil=>intro lo hi h; unfold sV; simp only [List.foldl_nil]; rw [if_pos h]
 | cons e l ih =>
  intro lo hi h;rw [List.foldl_cons,Fg]
  split
  ·split
   ·rw [Bx]; rfl
   ·exact ih _ _ h
  ·split
   ·refine ih _ _ ?_;have:=(max_le lo (-an e.1 e.2 a / (an e.1 e.2 b - an e.1 e.2 a))).1;grind
   ·refine ih _ _ ?_;have:=(min_le hi (-an e.1 e.2 a / (an e.1 e.2 b - an e.1 e.2 a))).1;grind
theorem WQ {x y:Rat} (h:y - x≠0):(-x / (y - x))*(y - x)=-x∧-x / (y - x)=x / (x - y):=by
 refine ⟨by rw [Rat.div_def]; grind,?_⟩
 have J:x - y≠0:=by grind
 have e1:(-x / (y - x))*(y - x)=-x:=by rw [Rat.div_def]; grind
 have e2:(x / (x - y))*(x - y)=x:=by rw [Rat.div_def]; grind
 have:(y - x)*(-x / (y - x) - x / (x - y))=0:=by grind
 have:=(Rat.mul_eq_zero.1 this).resolve_left h;grind
theorem Bi {a b k:Rat} (hk:0 < k) (h:a*k≤b*k):a≤b:=by
 by_cases h1:a≤b
 ·exact h1
 ·have:=Rat.mul_pos (show 0 < a - b by grind) hk
  grind
theorem Np {a b:Q2}:∀ (l:List (Q2 × Q2)) (lo hi:Rat),0≤lo→hi≤1→sV (l.foldl (zz a b) (some (lo,hi)))=sV (l.foldl (lz a b) (some (lo,hi))):=by
 intro l
 induction l with
 | nil=>intro lo hi _ _; rfl
 | cons e l ih =>
  intro lo hi h0 h1;rw [List.foldl_cons,List.foldl_cons,Fg,LY];generalize an e.1 e.2 a=x;generalize an e.1 e.2 b=y;by_cases hs:y - x=0
  ·rw [if_pos hs];by_cases hx:x≤0
   ·rw [if_pos ⟨hx,by grind⟩,if_pos hx,yu,Bx]
   ·rw [if_neg (fun e=>hx e.1),if_pos ⟨by grind,by grind⟩,if_neg hx]
    exact ih _ _ h0 h1
  ·obtain ⟨ht,te⟩:=WQ hs;rw [if_neg hs,te];rw [te] at ht;generalize x / (x - y)=t at ht;by_cases hp:0 < y - x
   ·rw [if_pos hp];by_cases hy:y≤0
    ·rw [if_pos ⟨by grind,hy⟩,yu,MF]
     ·rfl
     ·have J:1≤t:=Bi hp (by grind)
      have:=(max_le lo t).2;grind
    ·rw [if_neg (fun e=>hy e.2)]
     by_cases hx:0 < x
     ·rw [if_pos ⟨hx,by grind⟩]
      have J:t≤0:=Bi hp (by grind)
      rw [max_eq (by grind)]
      exact ih _ _ h0 h1
     ·rw [if_neg (fun e=>hx e.1),if_pos (by grind)]
      exact ih _ _ (by have:=(max_le lo t).1; grind) h1
   ·have hn:0 < x - y:=by grind
    rw [if_neg hp];by_cases hx:x≤0
    ·rw [if_pos ⟨hx,by grind⟩,yu,MF]
     ·rfl
     ·have J:t≤0:=Bi hn (by grind)
      have:=(min_le hi t).2;grind
    ·rw [if_neg (fun e=>hx e.1)]
     by_cases hy:0 < y
     ·rw [if_pos ⟨by grind,hy⟩]
      have J:1≤t:=Bi hn (by grind)
      rw [min_eq (by grind)]
      exact ih _ _ h0 h1
     ·rw [if_neg (fun e=>hy e.2),if_neg hy]
      exact ih _ _ h0 (by have:=(min_le hi t).1; grind)
def uN (Q:List Q2) (a b:Q2) (j:Nat):Option (Rat × Rat):=((a8 Q).take j).foldl (zz a b) (some (0,1))
theorem S0 {Q:List Q2} {a b p q:Q2} {j:Nat} {lo hi x y:Rat} (h:uN Q a b j=some (lo,hi)) (he:(a8 Q)[j]?=some (p,q)) (hx:x=an p q a) (hy:y=an p q b) :
  uN Q a b (j+1)=if x≤0∧y≤0 then none else if 0 < x∧0 < y then some (lo,hi) else if 0 < y then some (iX lo (x / (x - y)),hi) else some (lo,iY hi (x / (x - y))):=by
 unfold uN at *;rw [LQ he,h,LY];subst hx; subst hy;simp only
theorem S3 {Q:List Q2} {a b:Q2} {j:Nat} (h:uN Q a b j=none):kF Q a b=none:=by
 rw [WO,← Np _ _ _ (by grind) (by grind)]
 have e:a8 Q=(a8 Q).take j++(a8 Q).drop j:=(List.take_append_drop ..).symm;rw [e,List.foldl_append,show List.foldl (zz a b) (some (0,1)) ((a8 Q).take j)=none from h,yu]
 rfl
theorem Ud {Q:List Q2} {a b:Q2} {n:Nat} (hn:n=Q.length):sV (uN Q a b n)=kF Q a b:=by
 unfold uN;rw [hn,← mX Q,List.take_length,Np _ _ _ (by grind) (by grind)]
 rfl
theorem N2 {L:List PV} {s:XV} (h:¬ (bC L=0∧s.1.canon∧s.2.canon)):dY L s=((aZ,aZ),false,1):=if_neg h
theorem Gl {L:List PV} {s:XV} (h:bC L=0∧s.1.canon∧s.2.canon) (J:kF (aV L) s.1.p s.2.p=none):dY L s=((aZ,aZ),false,0):=by unfold dY; rw [if_pos h,J]
theorem WR {L:List PV} {s:XV} {lo hi:Rat} (h:bC L=0∧s.1.canon∧s.2.canon) (J:kF (aV L) s.1.p s.2.p=some (lo,hi)):dY L s=((RV.of lo,RV.of hi),true,0):=by unfold dY; rw [if_pos h,J]
theorem VB {lo hi:Rat} (h:hi≤lo):sV (some (lo,hi))=none:=if_pos h
theorem VC {lo hi:Rat} (h:¬ hi≤lo):sV (some (lo,hi))=some (lo,hi):=if_neg h
theorem WS {L:List PV} {p q:PV} {lo hi:RV} (h:bC L=0∧p.canon∧q.canon) (J:kF (aV L) p.p q.p=some (lo.q,hi.q)) (c1:lo=RV.of lo.q) (c2:hi=RV.of hi.q):dY L (p,q)=((lo,hi),true,0):=by
 have:=WR (s:=(p,q)) h J;rw [← c1,← c2] at this;exact this
theorem wW:aZ=RV.of aZ.q:=by
 rw [yz];exact RV.lZ adt.symm
open Go
open Go
abbrev II:=List (Int × Int)
def iq (x:Int × Int):Q2:=((x.1:Rat),(x.2:Rat))
def bu (l:II):List Q2:=l.map iq
def rA (l:II) (k:Nat):Int × Int:=l.getD k (0,0)
def nt (l:II) (r:Nat):List Value:=[.int .i64 (if r % 2=0 then (rA l (r / 2)).1 else (rA l (r / 2)).2)]
def ic:cI:={ ι:=II,args:=fun i=>[.slice (some ⟨0,0,none⟩) (2*i.length) (2*i.length)],aj:=fun i=>[.flat false (2*i.length) 1 (nt i)],pre:=fun i=>(0 < i.length∧i.length≤1000000)∧∀ x∈i,x.1.natAbs < 256∧x.2.natAbs < 256,val:=fun i=>.slice (some ⟨1,0,none⟩) i.length aK,new:=fun i=>some (.flat true i.length 6 (bW (bu i))) }
theorem MG {l:II} {j:Nat} {x:Int × Int} (h:x=rA l j):nt l (2*j)=[.int .i64 x.1]:=by
 unfold nt;rw [if_pos (by omega),show 2*j / 2=j by omega,h]
theorem MH {l:II} {j:Nat} {x:Int × Int} (h:x=rA l j):nt l (2*j+1)=[.int .i64 x.2]:=by
 unfold nt;rw [if_neg (by omega),show (2*j+1) / 2=j by omega,h]
theorem Nq {l:II} {j:Nat} (h:j < l.length):rA l j∈l∧l[j]?=some (rA l j):=by
 unfold rA;rw [List.getD_eq_getElem?_getD,List.getElem?_eq_getElem h];exact ⟨List.getElem_mem h,rfl⟩
theorem MI {l:II} {j:Nat} {x:Int × Int} (h:l[j]?=some x):bu (l.take (j+1))=bu (l.take j)++[iq x]:=by
 unfold bu;rw [List.take_add_one,h,List.map_append]
 rfl
theorem By (l:II) (rows:List (List Value)) (h:rows=(List.range (2*l.length)).map (nt l)):aO (.flat false (2*l.length) 1 (nt l)) (.aL true 1 rows) :=
 FE (by rw [h]; simp) (fun r hr=>by
  rw [h,List.getD_eq_getElem?_getD,List.getElem?_map,List.getElem?_range hr]
  rfl) (fun r hr=>rfl)
theorem kS (x:Q2):(cA x).canon:=⟨by show RV.of x.1=RV.of (RV.of x.1).q; rw [RV.ij],by show RV.of x.2=RV.of (RV.of x.2).q; rw [RV.ij]⟩
def dj:II:=[(0,0),(4,0),(4,4),(0,4)]
def jF:II:=[(3,3),(7,3),(3,7)]
def kf:II:=[(4,1),(6,1),(4,3)]
def jG:II:=[(3,3),(4,3),(4,4),(3,4)]
theorem wX (L:List Q2):aV (bH L)=L:=by
 unfold bH aV;rw [List.map_map];refine (List.map_congr_left (fun p hp=>?_)).trans (List.map_id L)
 exact ie p
theorem Ue {L:List Q2}:∀ p∈bH L,p.canon:=fun p hp=>by
 obtain ⟨x,_,rfl⟩:=List.mem_map.1 hp;exact kS x
theorem GO {l:II} (h1:3≤l.length∧l.length≤64) (J:C3 (bu l)=true) (h3:CF (bu l)=true):bC (bH (bu l))=0:=by
 unfold bC;rw [if_neg (by rw [K5]; unfold bu; rw [List.length_map]; omega),if_neg (fun e=>by obtain ⟨p,hp,hc⟩:=List.any_eq_true.1 e; exact of_decide_eq_true hc (Ue p hp)),wX,if_pos J,if_pos h3]
theorem Gm:bC (bH (bu dj))=0:=GO (by decide) (by decide +kernel) (by decide +kernel)
theorem WT:bC (bH (bu jF))=0:=GO (by decide) (by decide +kernel) (by decide +kernel)
theorem WU:bC (bH (bu kf))=0:=GO (by decide) (by decide +kernel) (by decide +kernel)
theorem VD:CE (bu dj) (bu jF)=bu jG:=by decide +kernel
theorem Oz:gZ (bH (bu dj)) (bH (bu jF))=(bu jG,0):=by
 unfold gZ;rw [if_pos ⟨Gm,WT⟩,wX,wX,VD];exact N0 (by decide) (by decide)
theorem Zt:nz (bH (bu dj)) (bH (bu kf))=((cA (iq (4,0)),cA (iq (4,4))),0):=by
 unfold nz;rw [if_pos ⟨Gm,WU⟩,wX,wX,show kE true (bu dj) (bu kf)=some (iq (4,0),iq (4,4)) by decide +kernel]
 rfl
theorem Zu:dY (bH (bu dj)) (cA (iq (-2,1)),cA (iq (6,1)))=((RV.of (1 / 4),RV.of (3 / 4)),true,0):=by
 unfold dY;rw [if_pos ⟨Gm,kS _,kS _⟩,wX];show (match kF (bu dj) (cA (iq (-2,1))).p (cA (iq (6,1))).p with | some (lo,hi)=>((RV.of lo,RV.of hi),true,(0:Int)) | none=>((aZ,aZ),false,0))=_
 rw [ie,ie,show kF (bu dj) (iq (-2,1)) (iq (6,1))=some (1 / 4,3 / 4) by decide +kernel]
theorem abI {A B:List PV} (hA:∀ v∈A,v.sz 12) (hB:∀ v∈B,v.sz 12):C4 A B:=fun h1 J=>by
 have a:=pY h1;have b:=pY J;refine WA (S:=si (aV A)) b.2.2.1 (fun m hm=>Q3.mono (MA (k:=12) (yA hA (by decide)) m hm) (by decide)) (fun m hm=>Q3.mono (MA (k:=12) (yA hB (by decide)) m hm) (by decide)) (by rw [LN,dp,dp]; omega) (.inr ⟨a.2.2.1,a.2.2.2,Vv a.2.2.1⟩)
theorem Hl {l:II} (h:∀ x∈l,x.1.natAbs < 256∧x.2.natAbs < 256):∀ v∈bH (bu l),v.sz 12:=fun v hv=>by
 obtain ⟨x,hx,rfl⟩:=List.mem_map.1 hv;obtain ⟨y,hy,rfl⟩:=List.mem_map.1 hx;exact xe (uY y.1 y.2 (h y hy).1 (h y hy).2) (by decide)
theorem kG {L:List PV} (h:∀ v∈L,v.sz 12):∀ v∈L,v.sz 2048:=fun v hv=>PV.aJ (h v hv) (by decide)
theorem GP {l:II} {c:Nat} (h:∀ x∈l,x.1.natAbs < 256∧x.2.natAbs < 256) (hl:l.length≤1000):PL.fit (some (bH (bu l),c)):=⟨by show (bH (bu l)).length≤_; rw [K5]; unfold bu; rw [List.length_map]; omega,kG (Hl h)⟩
theorem MJ {c:Nat}:jr.val (some (bH (bu dj),c),some (bH (bu jF),c))=.tuple ⟨[.slice (some ⟨2,0,none⟩) 4 aK,.int .i64 0]⟩∧jr.new (some (bH (bu dj),c),some (bH (bu jF),c))=some (.flat true 4 6 (bW (bu jG))):=by
 refine ⟨?_,?_⟩
 ·show Value.tuple ⟨[eK 2 (gZ (bH (bu dj)) (bH (bu jF))).1.length,.int .i64 (gZ (bH (bu dj)) (bH (bu jF))).2]⟩=_
  rw [Oz]; rfl
 ·show cX (gZ (bH (bu dj)) (bH (bu jF))).1=_
  rw [Oz]; rfl
theorem WV {c:Nat} {a b:PV} (ha:a=cA (iq (4,0))) (hb:b=cA (iq (4,4))):mL.val (some (bH (bu dj),c),some (bH (bu kf),c))=.tuple ⟨[XV.v (a,b),.int .i64 0]⟩:=by
 show Value.tuple ⟨[(nz (bH (bu dj)) (bH (bu kf))).1.v,.int .i64 (nz (bH (bu dj)) (bH (bu kf))).2]⟩=_
 rw [Zt,ha,hb]
theorem WW {c:Nat} {a b:PV} {x y:RV} (ha:a=cA (iq (-2,1))) (hb:b=cA (iq (6,1))) (hx:x=RV.of (1 / 4)) (hy:y=RV.of (3 / 4)):gN.val (some (bH (bu dj),c),(a,b))=.tuple ⟨[x.v,y.v,.bool true,.int .i64 0]⟩:=by
 show Value.tuple ⟨[(dY (bH (bu dj)) (a,b)).1.1.v,(dY (bH (bu dj)) (a,b)).1.2.v,.bool (dY (bH (bu dj)) (a,b)).2.1,.int .i64 (dY (bH (bu dj)) (a,b)).2.2]⟩=_
 rw [ha,hb,Zu,hx,hy]
open Go
open Go
theorem La {α:Type} (f:α→Int) (k:Int):∀ (l:List α) (o:Int),k≤l.foldl (fun o e=>min o (f e)) o↔k≤o∧∀ e∈l,k≤f e
 | [],o=>by simp
 | e::l,o=>by
  rw [List.foldl_cons,La f k l];simp only [List.mem_cons,forall_eq_or_imp];rw [Int.le_min,and_assoc]
theorem Gn {Q:List Q2} {p:Q2} {k:Int}:k≤fe Q p↔k≤1∧∀ e∈a8 Q,k≤aN (an e.1 e.2 p) 0:=by
 have:=La (fun e:Q2 × Q2=>aN (an e.1 e.2 p) 0) k (a8 Q) 1
 rw [← this];have e:zw p=fun (o:Int) (e:Q2 × Q2)=>min o (aN (an e.1 e.2 p) 0):=by
  funext o e
  simp only [zw];rw [Int.min_def]
  split <;> split <;> omega
 rw [← e]; rfl
theorem S4 (Q:List Q2) (p:Q2):fe Q p=-1∨fe Q p=0∨fe Q p=1:=by
 have h1:-1≤fe Q p:=Gn.2 ⟨by decide,fun e _=>by have:=pW (an e.1 e.2 p) 0; omega⟩
 have J:=(Gn (Q:=Q) (p:=p) (k:=fe Q p)).1 (Int.le_refl _);omega
theorem MK {x:Rat}:1≤aN x 0↔0 < x:=by
 have:=pW x 0;rw [← tV]; omega
theorem ML {Q:List Q2} {p:Q2}:fe Q p=1↔∀ e∈a8 Q,0 < an e.1 e.2 p:=by
 have h:=Gn (Q:=Q) (p:=p) (k:=1);have:=S4 Q p;constructor
 ·intro e x hx;exact MK.1 ((h.1 (by omega)).2 x hx)
 ·intro e;have:=h.2 ⟨Int.le_refl _,fun x hx=>MK.2 (e x hx)⟩
  omega
def De (Q:List Q2) (p:Q2):Prop:=∀ e∈a8 Q,0 < an e.1 e.2 p
open Go
def lS (L:List PV):Bool:=nf L || decide (10 < L.length) || decide (bC L≠0)
def kY:cI:={ ι:=PL,args:=fun i=>[i.val],aj:=PL.aj,pre:=fun i=>i.list.length≤9223372036854775807,val:=fun i=>.bool (lS i.list),new:=fun _=>none }
theorem WX {L:List PV} (h:lS L=false):L.length≤10∧(∀ p∈L,p.sz 12)∧bC L=0:=by
 unfold lS at h;rw [Bool.or_eq_false_iff,Bool.or_eq_false_iff] at h;have J:=of_decide_eq_false h.1.2;have h3:=of_decide_eq_false h.2;exact ⟨by omega,(LX h.1.1).2,by simpa using h3⟩
theorem WY {L:List PV} (h:nf L=true):lS L=true:=by unfold lS; rw [h]; rfl
theorem VE {L:List PV} (h:10 < L.length):lS L=true:=by unfold lS; rw [decide_eq_true h,Bool.or_true,Bool.true_or]
theorem VF {L:List PV} (h:bC L≠0):lS L=true:=by unfold lS; rw [decide_eq_true h,Bool.or_true]
theorem WZ {L:List PV} (h:nf L=false) (J:¬ 10 < L.length) (h3:bC L=0):lS L=false:=by unfold lS; rw [h,decide_eq_false J,h3]; rfl
def zA:bD:={ ι:=PV,args:=fun i=>[i.v],pre:=fun _=>True,val:=fun i=>.bool (decide (i.sz 12∧i.canon)) }
def il (L:List PV) (p:PV):Int:=if (qV L p).2≠0 then 5 else (qV L p).1
theorem W0 {L:List PV} {p:PV} (h:bC L=0) (hp:p.canon):il L p=fe (aV L) p.p:=by
 unfold il;rw [No ⟨h,hp⟩]
 rfl
def b8:cI:={ ι:=PL × PV,args:=fun i=>[i.1.val,i.2.v],aj:=fun i=>i.1.aj,pre:=fun i=>i.1.fit∧i.2.sz 2048,val:=fun i=>.int .i64 (il i.1.list i.2),new:=fun _=>none }
open Go
def bS (a b:Q2) (e:Q2 × Q2):Rat:=an e.1 e.2 b - an e.1 e.2 a
def iL (a:Q2) (e:Q2 × Q2):Rat:=an e.1 e.2 a
theorem Nr (a b:Q2) (e:Q2 × Q2) (t:Rat):an e.1 e.2 (atR a b t)=iL a e+t*bS a b e:=by
 rw [FG]; unfold iL bS; grind
theorem div_mul {x s:Rat} (h:s≠0):(-x / s)*s=-x:=by rw [Rat.div_def]; grind
theorem OA {x s t:Rat} (h:0 < s):-x / s < t↔0 < x+t*s:=by
 have e:=div_mul (x:=x) (s:=s) (by grind)
 generalize -x / s=u at e ⊢;constructor
 ·intro h1;have:=Rat.mul_pos (show 0 < t - u by grind) h
  grind
 ·intro h1;by_cases J:u < t
  ·exact J
  ·have:=Rat.mul_nonneg (show 0≤u - t by grind) (show 0≤s by grind)
   grind
theorem OB {x s t:Rat} (h:s < 0):t < -x / s↔0 < x+t*s:=by
 have e:=div_mul (x:=x) (s:=s) (by grind)
 generalize -x / s=u at e ⊢;constructor
 ·intro h1;have:=Rat.mul_pos (show 0 < u - t by grind) (show 0 < -s by grind)
  grind
 ·intro h1;by_cases J:t < u
  ·exact J
  ·have:=Rat.mul_nonneg (show 0≤t - u by grind) (show 0≤-s by grind)
   grind
theorem Uf (x y:Rat):iX x y=x∨iX x y=y:=by unfold iX; split <;> simp
theorem Ug (x y:Rat):iY x y=x∨iY x y=y:=by unfold iY; split <;> simp
theorem FP {a b:Q2}:∀ (l:List (Q2 × Q2)) (lo hi:Rat),(l.foldl (lz a b) (some (lo,hi))=none→∃ e∈l,bS a b e=0∧iL a e≤0) ∧
  ∀ x y,l.foldl (lz a b) (some (lo,hi))=some (x,y)→(lo≤x∧y≤hi)∧(x=lo∨∃ e∈l,0 < bS a b e∧x=-iL a e / bS a b e)∧(y=hi∨∃ e∈l,bS a b e < 0∧y=-iL a e / bS a b e) ∧
   ∀ e∈l,(bS a b e=0→0 < iL a e)∧(0 < bS a b e→-iL a e / bS a b e≤x)∧(bS a b e < 0→y≤-iL a e / bS a b e):=by
 intro l
 induction l with
 | nil =>
  intro lo hi;refine ⟨fun h=>(by cases h),fun x y h=>?_⟩
  simp only [List.foldl_nil,Option.some.injEq,Prod.mk.injEq] at h;obtain ⟨rfl,rfl⟩:=h;exact ⟨⟨by grind,by grind⟩,.inl rfl,.inl rfl,fun e he=>nomatch he⟩
 | cons e l ih =>
  intro lo hi;rw [List.foldl_cons,Fg];have up:∀ {p:Q2 × Q2→Prop},(∃ x∈l,p x)→∃ x∈e::l,p x:=fun ⟨x,hx,hp⟩=>⟨x,List.mem_cons_of_mem _ hx,hp⟩
  by_cases h0:bS a b e=0
  ·rw [if_pos (show an e.1 e.2 b - an e.1 e.2 a=0 from h0)]
   by_cases h1:iL a e≤0
   ·rw [if_pos (show an e.1 e.2 a≤0 from h1),Bx]
    exact ⟨fun _=>⟨e,List.mem_cons_self ..,h0,h1⟩,fun x y h=>(by cases h)⟩
   ·rw [if_neg (show ¬ an e.1 e.2 a≤0 from h1)]
    refine ⟨fun h=>up ((ih lo hi).1 h),fun x y h=>?_⟩
    obtain ⟨J,h3,h4,h5⟩:=(ih lo hi).2 x y h;refine ⟨J,h3.imp id up,h4.imp id up,fun f hf=>?_⟩
    rcases List.mem_cons.1 hf with rfl | hf
    ·exact ⟨fun _=>by grind,fun h=>by grind,fun h=>by grind⟩
    ·exact h5 f hf
  ·rw [if_neg (show ¬ an e.1 e.2 b - an e.1 e.2 a=0 from h0)]
   by_cases h1:0 < bS a b e
   ·rw [if_pos (show 0 < an e.1 e.2 b - an e.1 e.2 a from h1)]
    show (l.foldl (lz a b) (some (iX lo (-iL a e / bS a b e),hi))=none→_)∧∀ x y,l.foldl (lz a b) (some (iX lo (-iL a e / bS a b e),hi))=some (x,y)→_
    refine ⟨fun h=>up ((ih _ hi).1 h),fun x y h=>?_⟩
    obtain ⟨J,h3,h4,h5⟩:=(ih _ hi).2 x y h;have hm:=max_le lo (-iL a e / bS a b e);refine ⟨⟨by grind,J.2⟩,?_,h4.imp id up,fun f hf=>?_⟩
    ·rcases h3 with h3 | h3
     ·rcases Uf lo (-iL a e / bS a b e) with h6 | h6
      ·exact .inl (h3.trans h6)
      ·exact .inr ⟨e,List.mem_cons_self ..,h1,h3.trans h6⟩
     ·exact .inr (up h3)
    ·rcases List.mem_cons.1 hf with rfl | hf
     ·exact ⟨fun h=>by grind,fun _=>by grind,fun h=>by grind⟩
     ·exact h5 f hf
   ·rw [if_neg (show ¬ 0 < an e.1 e.2 b - an e.1 e.2 a from h1)]
    show (l.foldl (lz a b) (some (lo,iY hi (-iL a e / bS a b e)))=none→_)∧∀ x y,l.foldl (lz a b) (some (lo,iY hi (-iL a e / bS a b e)))=some (x,y)→_
    have eI:bS a b e < 0:=by grind
    refine ⟨fun h=>up ((ih lo _).1 h),fun x y h=>?_⟩
    obtain ⟨J,h3,h4,h5⟩:=(ih lo _).2 x y h;have hm:=min_le hi (-iL a e / bS a b e);refine ⟨⟨J.1,by grind⟩,h3.imp id up,?_,fun f hf=>?_⟩
    ·rcases h4 with h4 | h4
     ·rcases Ug hi (-iL a e / bS a b e) with h6 | h6
      ·exact .inl (h4.trans h6)
      ·exact .inr ⟨e,List.mem_cons_self ..,eI,h4.trans h6⟩
     ·exact .inr (up h4)
    ·rcases List.mem_cons.1 hf with rfl | hf
     ·exact ⟨fun h=>by grind,fun h=>by grind,fun _=>by grind⟩
     ·exact h5 f hf
theorem uu {Q:List Q2} {a b:Q2} {lo hi t:Rat} (h:kF Q a b=some (lo,hi)):(0≤lo∧lo < hi∧hi≤1)∧(lo < t→t < hi→fe Q (atR a b t)=1):=by
 have hs:=FP (a:=a) (b:=b) (a8 Q) 0 1;unfold kF at h;cases hf:(a8 Q).foldl (lz a b) (some (0,1)) with
 | none=>rw [hf] at h; cases h
 | some st =>
  obtain ⟨x,y⟩:=st;rw [hf] at h;have h:(if y≤x then none else some (x,y))=some (lo,hi):=h
  by_cases kc:y≤x
  ·rw [if_pos kc] at h; cases h
  ·rw [if_neg kc] at h;simp only [Option.some.injEq,Prod.mk.injEq] at h;obtain ⟨rfl,rfl⟩:=h;obtain ⟨h1,_,_,h4⟩:=hs.2 x y hf;refine ⟨⟨h1.1,by grind,h1.2⟩,fun PJ pN=>ML.2 fun e he=>?_⟩
   obtain ⟨h5,h6,h7⟩:=h4 e he;rw [Nr];by_cases h0:bS a b e=0
   ·have:=h5 h0;rw [h0]; grind
   ·by_cases h8:0 < bS a b e
    ·exact (OA h8).1 (by have:=h6 h8; grind)
    ·exact (OB (show bS a b e < 0 by grind)).1 (by have:=h7 (by grind); grind)
theorem m7 {Q:List Q2} {a b:Q2} {t:Rat} (h0:0≤t) (h1:t≤1) (h:fe Q (atR a b t)=1):∃ lo hi,kF Q a b=some (lo,hi)∧(lo < t∨(t=0∧t=lo))∧(t < hi∨(t=1∧t=hi)):=by
 have hs:=FP (a:=a) (b:=b) (a8 Q) 0 1;have mc:∀ e∈a8 Q,0 < iL a e+t*bS a b e:=fun e he=>by rw [← Nr]; exact ML.1 h e he
 cases hf:(a8 Q).foldl (lz a b) (some (0,1)) with
 | none =>
  obtain ⟨e,he,J,h3⟩:=hs.1 hf;have:=mc e he;rw [J] at this;grind
 | some st =>
  obtain ⟨x,y⟩:=st;obtain ⟨J,h3,h4,h5⟩:=hs.2 x y hf;have hx:x < t∨(t=0∧t=x)∨(x=0∧0 < t):=by
   rcases h3 with h3 | ⟨e,he,h6,h7⟩
   ·by_cases h8:t=0
    ·exact .inr (.inl ⟨h8,by grind⟩)
    ·exact .inl (by grind)
   ·exact .inl (by rw [h7]; exact (OA h6).2 (mc e he))
  have hy:t < y∨(t=1∧t=y):=by
   rcases h4 with h4 | ⟨e,he,h6,h7⟩
   ·by_cases h8:t=1
    ·exact .inr ⟨h8,by grind⟩
    ·exact .inl (by grind)
   ·exact .inl (by rw [h7]; exact (OB h6).2 (mc e he))
  have kc:¬ y≤x:=by grind
  refine ⟨x,y,?_,by grind,hy⟩
  unfold kF;rw [hf];exact if_neg kc
theorem GQ {a:Q2} {e:Q2 × Q2} (he:Q2.sz 12 e.1∧Q2.sz 12 e.2) (ha:Q2.sz 12 a):QB (iL a e) 101:=(uM he.1 he.2 ha).mono (by decide)
theorem Zv {a b:Q2} {e:Q2 × Q2} (he:Q2.sz 12 e.1∧Q2.sz 12 e.2) (ha:Q2.sz 12 a) (hb:Q2.sz 12 b):QB (bS a b e) 203:=((GQ he hb).sub (GQ he ha)).mono (by decide)
theorem N3 {a b:Q2} {e:Q2 × Q2} (he:Q2.sz 12 e.1∧Q2.sz 12 e.2) (ha:Q2.sz 12 a) (hb:Q2.sz 12 b):QB (-iL a e / bS a b e) 400:=(QB.div (QB.neg (GQ he ha)) (Zv he ha hb) (by decide)).mono (by decide)
theorem Zw {Q:List Q2} {a b:Q2} {lo hi:Rat} (hQ:∀ v∈Q,Q2.sz 12 v) (ha:Q2.sz 12 a) (hb:Q2.sz 12 b) (h:kF Q a b=some (lo,hi)):QB lo 400∧QB hi 400:=by
 have hs:=FP (a:=a) (b:=b) (a8 Q) 0 1;unfold kF at h;cases hf:(a8 Q).foldl (lz a b) (some (0,1)) with
 | none=>rw [hf] at h; cases h
 | some st =>
  obtain ⟨x,y⟩:=st;rw [hf] at h;have h:(if y≤x then none else some (x,y))=some (lo,hi):=h
  by_cases kc:y≤x
  ·rw [if_pos kc] at h; cases h
  ·rw [if_neg kc] at h;simp only [Option.some.injEq,Prod.mk.injEq] at h;obtain ⟨rfl,rfl⟩:=h;obtain ⟨_,h3,h4,_⟩:=hs.2 x y hf;have ed:∀ e∈a8 Q,Q2.sz 12 e.1∧Q2.sz 12 e.2:=fun e he=>⟨hQ _ (nS he).1,hQ _ (nS he).2⟩
   refine ⟨?_,?_⟩
   ·rcases h3 with rfl | ⟨e,he,_,rfl⟩
    ·exact (QB.of_int (n:=0) (k:=1) (fj (show Int.natAbs 0 < C ^ 1 by decide)) (Nat.le_refl 1)).mono (by decide)
    ·exact N3 (ed e he) ha hb
   ·rcases h4 with rfl | ⟨e,he,_,rfl⟩
    ·exact (QB.of_int (n:=1) (k:=1) (fj (show Int.natAbs 1 < C ^ 1 by decide)) (Nat.le_refl 1)).mono (by decide)
    ·exact N3 (ed e he) ha hb
theorem Ns {n:Nat}:jx (n:Int) 255=.tuple ⟨[bK ((n:Rat) / 255),.int .i64 0]⟩:=by
 unfold jx;rw [if_neg (by decide),Rat.divInt_eq_div]
 rfl
theorem MM {n:Nat} (h:n < 256):0≤(n:Rat) / 255∧(n:Rat) / 255≤1:=by
 have h1:((0:Nat):Rat)≤(n:Rat):=Rat.natCast_le_natCast.2 (Nat.zero_le _);have J:(n:Rat)≤((255:Nat):Rat):=Rat.natCast_le_natCast.2 (by omega)
 have e:((n:Rat) / 255)*255=(n:Rat):=by rw [Rat.div_def]; grind
 have h1:(0:Rat)≤(n:Rat):=h1;have J:(n:Rat)≤255:=J;generalize (n:Rat) / 255=u at e ⊢;grind
theorem MN {n:Nat} (h:n < 256):QB ((n:Rat) / 255) 3:=by
 have h1:=QB.of_int (n:=(n:Int)) (k:=1) (fj (show Int.natAbs (n:Int) < C ^ 1 by show _ < 256 ^ 1; omega)) (Nat.le_refl 1)
 rw [show (((n:Nat):Int):Rat)=(n:Rat) from Rat.intCast_natCast n] at h1
 have J:=QB.of_int (n:=255) (k:=1) (fj (show Int.natAbs 255 < C ^ 1 by decide)) (Nat.le_refl 1)
 exact (QB.div h1 J (by decide)).mono (by decide)
def u9:cI:={ ι:=(PL × nO) × Nat,args:=fun i=>[i.1.1.val,i.1.2.1.v,i.1.2.2.v,.int .u8 i.2],aj:=fun i=>i.1.1.aj,pre:=fun i=>i.1.1.list.length*80≤140737488351232∧i.2 < 256,val:=fun _=>.bool true,new:=fun _=>none }
theorem dr {a b:RV} (ha:a=RV.of a.q) (hb:b=RV.of b.q) (h:a.q=b.q):a=b:=by rw [ha,hb,h]
theorem N4 {lo hi w:Rat} (h0:0≤lo) (h1:lo≤hi) (J:hi≤1) (h3:0≤w) (h4:w≤1):0≤lo+w*(hi - lo)∧lo+w*(hi - lo)≤1:=by
 have a:=Rat.mul_nonneg h3 (show 0≤hi - lo by grind)
 have b:=Rat.mul_nonneg (show 0≤1 - w by grind) (show 0≤hi - lo by grind)
 exact ⟨by grind,by grind⟩
open Go Go.RowKit
section
variable {P:Program} {w:World} {r:Reach} {base:Nat} {t:TypeId} {v:Value}
theorem LZ (ht:P.underlying t=some .bool) (h:Cell.okWide P w r base t v):∃ b,v=.bool b:=by
 simp only [Cell.okWide,ht] at h;cases v <;> simp_all [Cell.ok]
theorem AX (ht:P.underlying t=some .string) (h:Cell.okWide P w r base t v):∃ s,v=.string s:=by
 simp only [Cell.okWide,ht] at h;cases v <;> simp_all [Cell.ok]
theorem S5 {fs:Array Field} (ht:P.underlying t=some (.struct fs)) {ts:List TypeId} (I8:P.cellTypes P.depth t=some ts) (h:Value.okWide P w r base t v) :
  ∃ l:List Value,v=.agg ⟨l⟩∧l.length=P.cellsOf t∧∀ i x,l[i]?=some x→∃ u,ts[i % ts.length]?=some u∧Cell.okWide P w r base u x:=by
 simp only [Value.okWide,ht] at h;obtain ⟨cs,rfl,J,ts',h3,_,h5⟩:=h;rw [I8] at h3;cases h3;exact ⟨cs.toList,rfl,J,fun i x hx=>h5 i x (by simpa using hx)⟩
theorem W2 {fs:Array Field} (ht:P.underlying t=some (.struct fs)) {b s:TypeId} (I8:P.cellTypes P.depth t=some [b,s,s,b,s,s]) (hn:P.cellsOf t=6) (hb:P.underlying b=some .bool) (hs:P.underlying s=some .string)
  (h:Value.okWide P w r base t v):∃ p:PV,v=p.v:=by
 obtain ⟨l,rfl,hl,hc⟩:=S5 ht I8 h;rw [hn] at hl
 match l,hl with
 | [x,y,z,x',y',z'],_ =>
  obtain ⟨u,hu,h0⟩:=hc 0 x rfl;obtain ⟨u1,vl,h1⟩:=hc 1 y rfl;obtain ⟨u2,tg,J⟩:=hc 2 z rfl;obtain ⟨u3,hu3,h3⟩:=hc 3 x' rfl;obtain ⟨u4,hu4,h4⟩:=hc 4 y' rfl;obtain ⟨u5,hu5,h5⟩:=hc 5 z' rfl;cases hu; cases vl; cases tg; cases hu3; cases hu4; cases hu5;obtain ⟨b0,rfl⟩:=LZ hb h0;obtain ⟨s1,rfl⟩:=AX hs h1;obtain ⟨s2,rfl⟩:=AX hs J;obtain ⟨b3,rfl⟩:=LZ hb h3;obtain ⟨s4,rfl⟩:=AX hs h4;obtain ⟨s5,rfl⟩:=AX hs h5;exact ⟨((b0,s1,s2),(b3,s4,s5)),rfl⟩
end
theorem wf_u8 {n:Int} (h:(Lit.int .u8 n).wf=true):0≤n∧n < 256:=by
 have J:decide (IntKind.u8.min≤n∧n≤IntKind.u8.max)=true:=by
  first | exact h | simpa [Lit.wf] using h
 have h3:=of_decide_eq_true J;have e1:IntKind.u8.min=0:=by decide
 have e2:IntKind.u8.max=255:=by decide
 rw [e1,e2] at h3;exact ⟨by omega,by omega⟩
open Go Go.RowKit Go.ChangeShapes Go.WideShapes Go.ChangeAt
theorem Q6 {P:Program} {f:FuncId} {S:cI} (h:dc P f S) {i:S.ι} (hp:S.pre i) {I9:List Value} {ν:Nu} {w:World} (ha:bc ν (S.args i) I9) (hH:bU ν ((S.aj i).map some) w)
  (hν:∀ id,(S.aj i).length≤id→ν id=none) {b:Bool} (hv:S.val i=.bool b) :
  Calls P f ⟨I9⟩ w fun e w'=>e=.returned (.bool b)∧Below w.heap.size w w':=by
 have h1:=h.calls i hp ν I9 w 0 ha hH hν;rw [callsIn_wide] at h1;refine h1.mono fun e w' ⟨v',ai,he,hq⟩=>⟨?_,hq.below⟩
 have hr:=hq.val;rw [hv] at hr;rw [he,hr.ki]
section
variable {H:Type} {enc:TypeId × Value→H} {P:Program} {w:World} {base:Nat} {spare:Nat→Bool} {held:Bool}
structure C5 (P:Program) (tr tp b s:TypeId):Prop where
 rat:∃ f0 f1 f2,P.underlying tr=some (.struct #[f0,f1,f2])∧(f0.type=b∧f0.offset=0)∧(f1.type=s∧f1.offset=1)∧f2.type=s∧f2.offset=2
 pt:∃ f0 f1,P.underlying tp=some (.struct #[f0,f1])∧(f0.type=tr∧f0.offset=0)∧f1.type=tr∧f1.offset=3
 bool:P.underlying b=some .bool
 str:P.underlying s=some .string
 cr:P.cellsOf tr=3
 cp:P.cellsOf tp=6
 cb:P.cellsOf b=1
 cs:P.cellsOf s=1
theorem MO {tr tp b s:TypeId} (T:C5 P tr tp b s) {n:Nat} {l:List Value} {y:DataW H × List MemPlace} (h:DataW.trod enc P w base spare held n tr l=some y):∃ i:RV,l=i.cells:=by
 obtain ⟨f0,f1,f2,hu,⟨t0,o0⟩,⟨t1,o1⟩,t2,o2⟩:=T.rat;obtain ⟨y0,y1,y2,m,_,hl,h0,h1,J⟩:=Deep.trod_struct3 hu h;rw [T.cr] at hl;rw [t0,o0,T.cb] at h0;rw [t1,o1,T.cs] at h1;rw [t2,o2,T.cs] at J
 match l,hl with
 | [x,y,z],_ =>
  obtain ⟨b,e0,_⟩:=DataW.trod_bool T.bool h0;obtain ⟨s1,e1,_⟩:=DataW.trod_string T.str h1;obtain ⟨s2,e2,_⟩:=DataW.trod_string T.str J;simp at e0 e1 e2;subst e0; subst e1; subst e2;exact ⟨(b,s1,s2),rfl⟩
theorem W3 {tr tp b s:TypeId} (T:C5 P tr tp b s) {n:Nat} {l:List Value} {y:DataW H × List MemPlace} (h:DataW.trod enc P w base spare held n tp l=some y):∃ p:PV,l=p.cells:=by
 obtain ⟨f0,f1,hu,⟨t0,o0⟩,t1,o1⟩:=T.pt;obtain ⟨y0,y1,m,_,hl,h0,h1⟩:=trod_struct2 hu h;rw [T.cp] at hl;rw [t0,o0,T.cr] at h0;rw [t1,o1,T.cr] at h1;obtain ⟨i,e0⟩:=MO T h0;obtain ⟨j,e1⟩:=MO T h1
 match l,hl with
 | [x,y,z,x',y',z'],_ =>
  have e0:[x,y,z]=i.cells:=e0;have e1:[x',y',z']=j.cells:=e1;refine ⟨(i,j),?_⟩;show [x,y,z]++[x',y',z']=i.cells++j.cells
  rw [e0,e1]
end
open Go Go.RowKit Go.ChangeShapes Go.WideShapes Go.ChangeAt
section
variable {P:Program} {w:World} {r:Reach} {base:Nat} {t:TypeId} {v:Value}
end
structure adY (P:Program) (tr tn:TypeId):Prop where
 ln:∃ f0 f1 f2,P.underlying tn=some (.struct #[f0,f1,f2])∧(f0.type=tr∧f0.offset=0)∧(f1.type=tr∧f1.offset=3)∧f2.type=tr∧f2.offset=6
 cn:P.cellsOf tn=9
section
variable {H:Type} {enc:TypeId × Value→H} {P:Program} {w:World} {base:Nat} {spare:Nat→Bool} {held:Bool}
end
open Go Go.RowKit Go.ChangeShapes Go.WideShapes Go.ChangeAt
section
variable {H:Type} {enc:TypeId × Value→H} {P:Program} {w:World} {base:Nat} {spare:Nat→Bool} {held:Bool}
theorem Ro {tl tr tp b s:TypeId} (T:C5 P tr tp b s) (ht:P.underlying tl=some (.slice tp)) {v:Value} {d:DataW H} {ps:List MemPlace} {r:Reach} {b0:Nat} (hv:Value.okWide P w r b0 tl v)
  (h:DataW.Trod enc P w base (fun _=>true) held tl v d ps) :
  ∃ (i:PL) (ν:Nu),i.list.length≤9223372036854775807∧(∀ B m,(∀ elems spare,d=.slice elems spare→(elems.length+spare.length)*B≤m)→i.list.length*B≤m)∧aq ν i.val v∧bU ν (i.aj.map some) w∧∀ id,i.aj.length≤id→ν id=none:=by
 obtain ⟨a0,pD,adu,rfl⟩:=okWide_slice ht hv;obtain ⟨fuel,hf⟩:=h;rcases Deep.open_slice ht hf with ⟨Aj,_⟩ | ⟨a,len,cap,m,n,D,Pl,Aj,hb,hl,hm,mR,hd,hx⟩
 ·simp [Value.cells] at Aj;obtain ⟨rfl,rfl,rfl⟩:=Aj;refine ⟨none,fun _=>none,Nat.zero_le _,fun B m _=>by show 0*B≤m; omega,.ju,⟨fun id b h=>by simp [PL.aj] at h,fun i j bi bj li lj h=>by simp [PL.aj] at h⟩,fun _ _=>rfl⟩
 ·simp [Value.cells] at Aj;obtain ⟨rfl,rfl,rfl⟩:=Aj;have mR:m=adu:=mR;subst mR;simp only [Value.okWide,ht,Cell.okWide,Cell.ok] at hv;obtain ⟨_,_,_,rB,row,cells,GR,_⟩:=hv;have G0:a.block < w.heap.size:=by
   unfold World.shape? at GR
   split at GR
   ·rename_i hh;exact (Array.getElem?_eq_some_iff.1 hh).1
   ·cases GR
  obtain ⟨V,hV⟩:=Deep.choose_lt (α:=PV) (n:=m) (p:=fun i p=>∀ j,j < 6→w.cell? ((a.add (i*6)).add j)=p.cells[j]?) (fun i hi=>by
   obtain ⟨eF,h1,J⟩:=hx i hi;rw [T.cp] at h1;obtain ⟨p,rfl⟩:=W3 T J;obtain ⟨_,_,hc⟩:=World.cells?_some h1;exact ⟨p,hc⟩)
  have hlm:pD≤m:=hl;refine ⟨some ((List.range pD).map V,aK),fun id=>if id=0 then some ⟨a.block,a.off,6,m⟩ else none,?_,?_,?_,⟨fun id b bn=>?_,fun i j bi bj li lj h1 J h3 h4=>?_⟩,fun id bn=>?_⟩
  ·show ((List.range pD).map V).length≤_
   have eU:m≤9223372036854775807:=hm;rw [List.length_map,List.length_range];omega
  ·intro B M hB;have hd:=hB _ _ (congrArg Prod.fst hd);show ((List.range pD).map V).length*B≤M
   rw [List.length_map,List.length_range];refine Nat.le_trans (Nat.mul_le_mul_right _ ?_) hd;simp
  ·have e:a=Loc.at ⟨a.block,a.off,6,m⟩ 0 0:=by
    obtain ⟨b0,o0,s0⟩:=a;have:s0=none:=rB;subst this;simp [Loc.at]
   have:=aq.slice (ν:=fun id=>if id=0 then some ⟨a.block,a.off,6,m⟩ else none) 0 0 pD aK m ⟨a.block,a.off,6,m⟩ rfl (.inr rfl) hlm (by simp)
   rw [← e] at this;show aq _ (.slice (some ⟨0,0,none⟩) ((List.range pD).map V).length aK) _
   rw [List.length_map,List.length_range];exact this
  ·cases id with
   | succ id=>simp [PL.aj] at bn
   | zero =>
    simp [PL.aj] at bn;subst bn;refine ⟨_,rfl,⟨rfl,fun r hr=>rfl,fun r hr j v xU=>?_,fun _ r hr v hv=>?_,fun r hr v hv=>?_,fun h=>(by cases h),(fun r h=>by cases h),G0⟩⟩
    ·have e9:r < pD:=hr;have hr:r < ((List.range pD).map V).length:=by rw [List.length_map,List.length_range]; exact e9
     obtain ⟨p,hp,_,aX⟩:=rO hr;have hpV:V r=p:=by
      rw [List.getElem?_map,List.getElem?_range e9] at hp
      simpa using hp
     have xU:(dq ((List.range pD).map V) r)[j]?=some v:=xU;rw [aX] at xU;have hj:j < 6:=(List.getElem?_eq_some_iff.1 xU).1;have hc:=hV r (by omega) j hj
     rw [hpV,xU] at hc;refine ⟨v,?_,?_⟩
     ·rw [← hc]
      congr 1
      obtain ⟨b0,o0,s0⟩:=a;have:s0=none:=rB;subst this;by_cases J:r*6=0
      ·have h3:r=0:=by omega
       by_cases h1:j=0 <;> simp [Loc.at,Addr.add,h1,h3]
      ·by_cases h1:j=0 <;> simp [Loc.at,Addr.add,h1,J,Nat.add_assoc]
     ·have hs:mF p.cells=true:=rfl;exact aq.kR (dz hs v (List.mem_of_getElem? xU))
    ·exact dz (KZ _ r) v hv
    ·have:=dz (KZ ((List.range pD).map V) r) v hv;cases v <;> first | rfl | simp [cG] at this
  ·cases i with
   | succ i=>simp [PL.aj] at h1
   | zero =>
    cases j with
    | zero=>exact absurd rfl h3
    | succ j=>simp [PL.aj] at J
  ·have:id≠0:=by
    intro e; subst e;have bn:1≤0:=bn;omega
   simp [this]
end
end Go.Ae
