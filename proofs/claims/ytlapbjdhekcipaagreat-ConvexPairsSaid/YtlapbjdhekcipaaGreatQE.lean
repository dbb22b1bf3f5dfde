import Derived.WalkKit
import Derived.ProofKit
import Derived.OpenShut
import Derived.ShutString
import Derived.ChangeOld
import Derived.Below
import Derived.Deep.Slices
import Derived.Deep.Strs
import Derived.SizedLaws
import Derived.Test.YtlapbjdhekcipaaGreatQD
set_option linter.unusedVariables false
set_option linter.unusedSimpArgs false
/- Convex rings: cut one after the other by the edges of another ring. -/
namespace Go.Ae
open Go
theorem wz (a b p:Q2):bk (eV a b) p=aw a b p:=by simp only [kB,fH,eV]; grind
theorem L6 {a b:Q2} (h:a≠b):mA (eV a b):=fun e=>h (Prod.ext (by have:=e.2; unfold eV at this; grind) (by have:=e.1; unfold eV at this; grind))
theorem UR {m:Q3} {x y z:Q2} (hx:bk m x=0) (hy:bk m y=0) (aK:x≠y) (h:aw x y z=0):bk m z=0:=by
 rw [kB] at *
 rw [fH] at h
 by_cases h0:y.1 - x.1=0
 ·have h1:y.2 - x.2≠0:=fun e=>aK (Prod.ext (by grind) (by grind))
  have:(y.2 - x.2)*(m.1*z.1+m.2.1*z.2 - m.2.2)=0:=by grind
  exact (Rat.mul_eq_zero.1 this).resolve_left h1
 ·have:(y.1 - x.1)*(m.1*z.1+m.2.1*z.2 - m.2.2)=0:=by grind
  exact (Rat.mul_eq_zero.1 this).resolve_left h0
theorem MN {m:Q3} (hm:mA m) {a b c:Q2} (ha:bk m a=0) (hb:bk m b=0) (hc:bk m c=0):aw a b c=0 :=
 Bj (P:=[a,b,c]) ⟨m,hm,fun v hv=>by simp at hv; rcases hv with rfl | rfl | rfl <;> assumption⟩ (by simp) (by simp) (by simp)
theorem R9 {P:List Q2} {v:Q2} (h:v∈P) (hw:∃ w∈P,w≠v):∃ y,(v,y)∈aX P∧v≠y:=by
 obtain ⟨w,hw,aK⟩:=hw
 obtain ⟨A,B,rfl⟩:=List.append_of_mem h
 obtain ⟨y,h1,J⟩:=leave (v:=v) (B++A) ⟨w,by
  rcases List.mem_append.1 hw with h | h
  ·exact List.mem_append_right _ h
  ·rcases List.mem_cons.1 h with h | h
   ·exact absurd h aK
   ·exact List.mem_append_left _ h,aK⟩
 exact ⟨y,AO (A:=v::B) (J2 (m:=[v]) h1),J⟩
theorem Sa {P:List Q2} (hT:bI P):(Flat P∧fR P=[])∨(¬ Flat P∧Ring (fR P)∧ll (fR P)∧iE (fR P) P∧∀ v∈fR P,v∈P):=by
 by_cases hF:Flat P
 ·exact .inl ⟨hF,(Tm hF).1⟩
 ·have hc:=KD hT hF
  rw [(VW hT hF).1]
  refine .inr ⟨hF,To hc,fun i h0 hi=>?_,(iE.ov fun v=>tf).trans (DS hT hF).1,fun v hv=>(Ew P).subset (tf.1 hv)⟩
  have:=Rd hc hi h0
  have hle:iw (aE (eW (fI P)) 0) (aE (eW (fI P)) i):=tA.2 (by omega)
  have aK:aE (eW (fI P)) 0≠aE (eW (fI P)) i:=fun e=>by rw [e,og.2 rfl] at this; omega
  rcases hle with h | ⟨h,h'⟩
  ·exact .inl h
  ·exact .inr ⟨h,Rat.lt_of_le_of_ne h' fun e=>aK (Prod.ext h e)⟩
/-- The ring's edges lie on the lines of the polygon's. -/
theorem V1 {S:Q3→Prop} {P C:List Q2} (hT:bI P) (hC:Ring C) (hs:iE C P) (Hu:∀ v∈C,v∈P) (h:∀ e∈aX P,mB S e):∀ e∈aX C,mB S e:=by
 rintro ⟨x,y⟩ he
 have qz:x≠y:=hC.ne _ he
 obtain ⟨x',h1,J⟩:=R9 (Hu x (o5 he).1) ⟨y,Hu y (o5 he).2,Ne.symm qz⟩
 have a:=o6 hT h1 (Hu y (o5 he).2)
 have b:=Eu hC.fJ he ((hs x').2 (.ov (o5 h1).2))
 rw [xV] at b
 obtain ⟨m,hm,hl,v1,v2⟩:=h _ h1
 exact ⟨m,hm,hl,v1,UR v1 v2 J (by grind)⟩
theorem V2 {α:Type} [DecidableEq α]:∀ (n:Nat) (S:List α) (f:Nat→α),(∀ k,k < n→f k∈S)→(∀ i j,i < n→j < n→f i=f j→i=j)→n≤S.length:=by
 intro n
 induction n with
 | zero=>intro S f _ _; omega
 | succ n ih =>
  intro S f h1 J
  have hn:=h1 n (by omega)
  have:=ih (S.erase (f n)) f (fun k hk=>(List.mem_erase_of_ne fun e=>by have:=J k n (by omega) (by omega) e; omega).2 (h1 k (by omega))) (fun i j hi hj=>J i j (by omega) (by omega))
  rw [List.length_erase_of_mem hn] at this
  have:0 < S.length:=List.length_pos_of_mem hn
  omega
theorem US {S:List Q3} {C:List Q2} (hC:Ring C) (h:∀ e∈aX C,mB (·∈S) e):C.length≤S.length:=by
 have h3:=hC.three
 have hf:∀ k,∃ m:Q3,k < C.length→m∈S∧mA m∧bk m (aE C k)=0∧bk m (aE C (bd C.length k))=0:=fun k=>by
  by_cases hk:k < C.length
  ·obtain ⟨m,h⟩:=h _ (mJ hk)
   exact ⟨m,fun _=>h⟩
  ·exact ⟨(0,0,0),fun h=>absurd h hk⟩
 obtain ⟨f,hf⟩:=Classical.axiomOfChoice hf
 refine V2 C.length S f (fun k hk=>(hf k hk).1) fun i j hi hj e=>Decidable.byContradiction fun aK=>?_
 obtain ⟨_,hl,i1,i2⟩:=hf i hi
 obtain ⟨_,_,j1,j2⟩:=hf j hj
 rw [← e] at j1 j2
 have hx:∀ a b c,a < C.length→b < C.length→c < C.length→a≠b→a≠c→b≠c→bk (f i) (aE C a)=0→bk (f i) (aE C b)=0→bk (f i) (aE C c)=0→False:=fun a b c ha hb hc eH zK oM va vb vc =>
  Aa (hC.ext.1 (fj ha)) (hC.ext.1 (fj hb)) (hC.ext.1 (fj hc)) (fun e=>eH (v8 hC.nodup ha hb e)) (fun e=>zK (v8 hC.nodup ha hc e)) (fun e=>oM (v8 hC.nodup hb hc e)) (MN hl va vb vc)
 by_cases h1:bd C.length i=j
 ·subst h1
  refine hx i _ _ hi hj (c6 hj) aK (fun e=>?_) (Ne.symm (wq hj (by omega))) i1 i2 j2
  unfold bd at e
  rcases Nat.lt_or_ge (i+1) C.length with h | h
  ·rw [Nat.mod_eq_of_lt h] at e
   rcases Nat.lt_or_ge (i+1+1) C.length with h' | h'
   ·rw [Nat.mod_eq_of_lt h'] at e; omega
   ·rw [show i+1+1=C.length by omega,Nat.mod_self] at e; omega
  ·rw [show i+1=C.length by omega,Nat.mod_self,Nat.mod_eq_of_lt (by omega)] at e; omega
 ·exact hx i j _ hi hj (c6 hi) aK (Ne.symm (wq hi (by omega))) (Ne.symm h1) i1 j1 i2
theorem V3 {k:Nat} {C:List Q2} (hC:Ring C) (h:∀ e∈aX C,mB (Q3.sz k) e):∀ v∈C,Q2.sz (8*k+2) v:=by
 intro v hv
 obtain ⟨i,hi,rfl⟩:=v7 hv
 obtain ⟨l,sl,hl,l1,l2⟩:=h _ (q8 hi)
 obtain ⟨m,sm,hm,m1,m2⟩:=h _ (mJ hi)
 have l2:bk l (aE C i)=0:=l2
 have m1:bk m (aE C i)=0:=m1
 have hd:pW l m≠0:=YI hl l1 l2 (fun e=>by
  have hc:=hC.wu i hi
  rw [MN hm (e.trans m1) m1 m2] at hc
  grind)
 rw [YH l2 m1 hd]
 exact Q2.mono (YG sl sm) (by omega)
/-! one after the other -/
def B6 (P:List Q2) (e:Q2 × Q2):List Q2:=fR (fo (eV e.1 e.2) P)
def B7 (P B:List Q2):List Q2:=(aX B).foldl B6 P
def jk (P B:List Q2) (j:Nat):List Q2:=((aX B).take j).foldl B6 P
theorem Sb {P B:List Q2} {j:Nat} {e:Q2 × Q2} (h:(aX B)[j]?=some e):jk P B (j+1)=B6 (jk P B j) e:=by
 unfold jk
 rw [List.take_add_one,h,List.foldl_append]; rfl
theorem Tr (P B:List Q2):jk P B B.length=B7 P B:=by
 unfold jk B7
 rw [← kS B,List.take_length]
/-- A ring that begins at its least point, with its edges on lines out of a list; or nothing. -/
def pX (S:Q3→Prop) (P:List Q2):Prop:=P=[]∨(Ring P∧ll P∧∀ e∈aX P,mB S e)
theorem Ts {S:Q3→Prop} {P:List Q2} {e:Q2 × Q2} (aK:e.1≠e.2) (hS:S (eV e.1 e.2)) (h:pX S P):pX S (B6 P e):=by
 rcases h with rfl | ⟨hR,ho,C2⟩
 ·exact .inl rfl
 ·have hT:=UE (m:=eV e.1 e.2) hR.fJ
  rcases Sa hT with ⟨_,h⟩ | ⟨_,h1,J,h3,h4⟩
  ·exact .inl h
  ·exact .inr ⟨h1,J,V1 hT h1 h3 h4 (YJ hS (L6 aK) C2)⟩
theorem Sc {S:Q3→Prop} {P B:List Q2} (hB:∀ e∈aX B,e.1≠e.2∧S (eV e.1 e.2)) (h:pX S P) (j:Nat):pX S (jk P B j):=by
 unfold jk
 have hl:∀ e∈(aX B).take j,e.1≠e.2∧S (eV e.1 e.2):=fun e he=>hB e (List.mem_of_mem_take he)
 revert hl
 generalize (aX B).take j=l
 intro hl
 induction l generalizing P with
 | nil=>exact h
 | cons e l ih=>exact ih (Ts (hl e (List.mem_cons_self ..)).1 (hl e (List.mem_cons_self ..)).2 h) fun x hx=>hl x (List.mem_cons_of_mem _ hx)
theorem Sd {S:List Q3} {k:Nat} {P:List Q2} (hk:∀ m∈S,Q3.sz k m) (h:pX (·∈S) P):P.length≤S.length∧∀ v∈P,Q2.sz (8*k+2) v:=by
 rcases h with rfl | ⟨hR,_,C2⟩
 ·exact ⟨Nat.zero_le _,fun v hv=>nomatch hv⟩
 ·exact ⟨US hR C2,V3 hR fun e he=>(C2 e he).imp fun m hm=>⟨hk m hm.1,hm.2⟩⟩
/-- The lines of a ring's edges. -/
def rB (P:List Q2):List Q3:=(aX P).map fun e=>eV e.1 e.2
theorem Lj (P:List Q2):(rB P).length=P.length:=by unfold rB; rw [List.length_map,kS]
theorem Lk {P:List Q2} {e:Q2 × Q2} (h:e∈aX P):eV e.1 e.2∈rB P:=List.mem_map_of_mem (f:=fun e:Q2 × Q2=>eV e.1 e.2) h
theorem UT {P:List Q2} (h:Ring P):∀ e∈aX P,mB (·∈rB P) e:=fun e he=>⟨_,Lk he,L6 (h.ne e he),by rw [wz,rm],by rw [wz,pk]⟩
theorem L7 {P:List Q2} {k:Nat} (h:∀ v∈P,Q2.sz k v):∀ m∈rB P,Q3.sz (6*k+3) m:=fun m hm=>by
 obtain ⟨e,he,rfl⟩:=List.mem_map.1 hm
 have:=o5 he
 exact Q3.mono (No (h _ this.1) (h _ this.2)) (by omega)
theorem mB.mono {S T:Q3→Prop} {e:Q2 × Q2} (h:mB S e) (hs:∀ m,S m→T m):mB T e:=h.imp fun m hm=>⟨hs m hm.1,hm.2⟩
theorem pX.mono {S T:Q3→Prop} {P:List Q2} (h:pX S P) (hs:∀ m,S m→T m):pX T P:=h.imp id fun h=>⟨h.1,h.2.1,fun e he=>(h.2.2 e he).mono hs⟩
/-- What the walks want: the steps stay short and small. -/
def Nt (P B:List Q2):Prop:=∀ j,j≤B.length→(jk P B j).length≤1073741824∧∀ v∈jk P B j,Q2.sz 2048 v
theorem V4 {S:List Q3} {P B:List Q2} (hB:Ring B) (hk:∀ m∈S,Q3.sz 255 m) (hl:∀ m∈rB B,Q3.sz 255 m) (hn:S.length+B.length≤1073741824) (h:pX (·∈S) P):Nt P B:=fun j hj=>by
 have hm:=Sc (S:=(·∈S++rB B)) (B:=B) (fun e he=>⟨hB.ne e he,List.mem_append_right _ (Lk he)⟩) (h.mono fun m hm=>List.mem_append_left _ hm) j
 obtain ⟨h1,J⟩:=Sd (k:=255) (fun m hm=>(List.mem_append.1 hm).elim (hk m) (hl m)) hm
 rw [List.length_append,Lj] at h1
 exact ⟨by omega,fun v hv=>Q2.mono (J v hv) (by decide)⟩
end Go.Ae
/- Contracts of convex rings. -/
namespace Go.Ae
open Go
/-! what is checked -/
def fw (l:List PV):Bool:=l.any fun p=>decide (¬ p.canon)
instance (a b:Q2):Decidable (iL a b):=inferInstanceAs (Decidable (_∨_))
def Cv (Q:List Q2):Bool:=(List.range Q.length).all fun i=>decide (i=0∨iL (aE Q 0) (aE Q i))
instance (Q:List Q2) (i:Nat):Decidable (ow Q i):=inferInstanceAs (Decidable (_∨_))
def B8 (Q:List Q2):Bool:=(List.range Q.length).all fun i=>decide (¬ ow Q i)
theorem A3 {Q:List Q2}:Cv Q=true↔ll Q:=by
 unfold Cv ll
 rw [List.all_eq_true]
 constructor
 ·intro h i h0 hi
  exact (of_decide_eq_true (h i (List.mem_range.2 hi))).resolve_left (by omega)
 ·intro h i hi
  by_cases h0:i=0
  ·exact decide_eq_true (.inl h0)
  ·exact decide_eq_true (.inr (h i (by omega) (List.mem_range.1 hi)))
theorem EA {Q:List Q2} (h3:3≤Q.length) (ho:ll Q):B8 Q=true↔Ring Q:=by
 rw [xW h3 ho]
 unfold B8
 rw [List.all_eq_true]
 exact ⟨fun h i hi=>of_decide_eq_true (h i (List.mem_range.2 hi)),fun h i hi=>decide_eq_true (h i (List.mem_range.1 hi))⟩
def aW (L:List PV):Int :=
 if L.length < 3∨64 < L.length then 4 else if fw L=true then 1 else if Cv (ay L)=true then (if B8 (ay L)=true then 0 else 15) else 8
/-- What a list is that passes. -/
theorem jd {L:List PV} (h:aW L=0):(3≤L.length∧L.length≤64)∧(∀ p∈L,p.canon)∧Ring (ay L)∧ll (ay L):=by
 unfold aW at h
 split at h
 ·cases h
 ·rename_i h1
  split at h
  ·cases h
  ·rename_i J
   split at h
   ·rename_i h3
    split at h
    ·rename_i h4
     have ho:=A3.1 h3
     exact ⟨by omega,fun p hp=>Decidable.byContradiction fun e=>J (List.any_eq_true.2 ⟨p,hp,decide_eq_true e⟩),(EA (by rw [b8]; omega) ho).1 h4,ho⟩
    ·cases h
   ·cases h
def Hv (p:Q2) (o:Int) (e:Q2 × Q2):Int:=if aY (aw e.1 e.2 p) 0 < o then aY (aw e.1 e.2 p) 0 else o
def GP (Q:List Q2) (p:Q2):Int:=(aX Q).foldl (Hv p) 1
def ur (R:List Q2):List Q2 × Int:=if R.length=0 then ([],11) else if 64 < R.length then ([],4) else (R,0)
def g7 (A B:List PV):List Q2 × Int:=if aW A=0∧aW B=0 then ur (B7 (ay A) (ay B)) else ([],1)
/-- The sign of an orientation, when it tells the side. -/
def lQ (s:Bool) (o:Int):Bool:=if s then decide (o≤0) else decide (o < 0)
def eF (s:Bool) (A B:List Q2):Option (Q2 × Q2):=(aX A).find? fun e=>B.all fun x=>lQ s (aY (aw e.1 e.2 x) 0)
def dQ (s:Bool) (A B:List Q2):Option (Q2 × Q2):=match eF s A B with
 | some e=>some e
 | none=>eF s B A
def ck (s:Bool) (A B:List PV):Bool × Int:=if aW A=0∧aW B=0 then ((dQ s (ay A) (ay B)).isNone,0) else (false,1)
def IE (e:Q2 × Q2):XV:=(cB e.1,cB e.2)
def dm (A B:List PV):XV × Int:=if aW A=0∧aW B=0 then (match dQ true (ay A) (ay B) with | some e=>(IE e,0) | none=>(jq,6)) else (jq,1)
/-- The bounds of the parameters of a segment, edge by edge. -/
def wZ (a b:Q2) (st:Option (Rat × Rat)) (e:Q2 × Q2):Option (Rat × Rat) :=
 match st with
 | none=>none
 | some (lo,hi) =>
  if aw e.1 e.2 b - aw e.1 e.2 a=0 then (if aw e.1 e.2 a≤0 then none else some (lo,hi))
  else if 0 < aw e.1 e.2 b - aw e.1 e.2 a then some (lH lo (-aw e.1 e.2 a / (aw e.1 e.2 b - aw e.1 e.2 a)),hi)
  else some (lo,lI hi (-aw e.1 e.2 a / (aw e.1 e.2 b - aw e.1 e.2 a)))
def pY (Q:List Q2) (a b:Q2):Option (Rat × Rat):=match (aX Q).foldl (wZ a b) (some (0,1)) with
 | none=>none
 | some (lo,hi)=>if hi≤lo then none else some (lo,hi)
def gX (L:List PV) (s:XV):(RV × RV) × Bool × Int :=
 if aW L=0∧s.1.canon∧s.2.canon then (match pY (ay L) s.1.p s.2.p with | some (lo,hi)=>((RV.of lo,RV.of hi),true,0) | none=>((dv,dv),false,0)) else ((dv,dv),false,1)
/-! contracts -/
/-- A list of points that a function makes: none, or a new block. -/
abbrev QL:=Option (List Q2 × Nat)
def QL.val:QL→Value
 | none=>.slice none 0 0
 | some i=>.slice (some ⟨0,0,none⟩) i.1.length i.2
def QL.ae:QL→List ai
 | none=>[]
 | some i=>[.flat false i.1.length 6 (cc i.1)]
def QL.list:QL→List Q2
 | none=>[]
 | some i=>i.1
def c8 (R:List Q2):Option ai:=match R.length with
 | 0=>none
 | n+1=>some (.flat true (n+1) 6 (cc R))
def RV.c1 (x:RV):List Value:=[.bool x.1,.string x.2.1,.string x.2.2]
def PL.fit (i:PL):Prop:=i.list.length≤1099511627776∧∀ v∈i.list,v.sz 2048
def B9:bG:={ ι:=PV,args:=fun i=>[i.v],pre:=fun i=>i.sz 2048,val:=fun i=>.bool (decide (¬ i.canon)) }
def fy:aG:={ ι:=PL,args:=fun i=>[i.val],ae:=PL.ae,pre:=PL.fit,val:=fun i=>.bool (!fw i.list),new:=fun _=>none }
def aU:aG:={ ι:=PL,args:=fun i=>[i.val],ae:=PL.ae,pre:=PL.fit,val:=fun i=>.int .i64 (aW i.list),new:=fun _=>none }
def rC:aG:={ ι:=PL × PV,args:=fun i=>[i.1.val,i.2.v],ae:=fun i=>i.1.ae,pre:=fun i=>i.1.fit∧i.2.sz 2048,val:=fun i=>.int .i64 (GP (ay i.1.list) i.2.p),new:=fun _=>none }
def pr:bG:={ ι:=xl,args:=fun i=>[i.1.v,i.2.1.v,i.2.2.v],pre:=Cs,val:=fun i=>(RV.of (aw i.1.p i.2.1.p i.2.2.p)).v }
def fx:aG:={ ι:=QL,args:=fun i=>[i.val],ae:=QL.ae,pre:=fun i=>i.list.length≤549755813888∧∀ v∈i.list,Q2.sz 262144 v,val:=fun i=>eU i.ae.length (fR i.list).length,new:=fun i=>c8 (fR i.list) }
/-- Two lists, and what their meeting wants. -/
def lO.fit (i:lO):Prop:=(i.1.fit∧i.2.fit)
def Cw (A B:List PV):Prop:=aW A=0→aW B=0→Nt (ay A) (ay B)
def jl:aG:={ ι:=lO,args:=fun i=>[i.1.val,i.2.tZ i.1.ae.length],ae:=fun i=>i.1.ae++i.2.ae,pre:=fun i=>lO.fit i∧Cw i.1.list i.2.list,val:=fun i=>.tuple ⟨[eU (i.1.ae++i.2.ae).length (g7 i.1.list i.2.list).1.length,.int .i64 (g7 i.1.list i.2.list).2]⟩,new:=fun i=>c8 (g7 i.1.list i.2.list).1 }
def ba (s:Bool):aG:={ ι:=lO,args:=fun i=>[i.1.val,i.2.tZ i.1.ae.length],ae:=fun i=>i.1.ae++i.2.ae,pre:=lO.fit,val:=fun i=>.tuple ⟨[.bool (ck s i.1.list i.2.list).1,.int .i64 (ck s i.1.list i.2.list).2]⟩,new:=fun _=>none }
def bP:aG:={ ι:=lO,args:=fun i=>[i.1.val,i.2.tZ i.1.ae.length],ae:=fun i=>i.1.ae++i.2.ae,pre:=lO.fit,val:=fun i=>.tuple ⟨[(dm i.1.list i.2.list).1.v,.int .i64 (dm i.1.list i.2.list).2]⟩,new:=fun _=>none }
def mf:aG:={ ι:=PL × XV,args:=fun i=>[i.1.val,i.2.v],ae:=fun i=>i.1.ae,pre:=fun i=>i.1.fit∧i.2.1.sz 2048∧i.2.2.sz 2048,val:=fun i=>.tuple ⟨[(gX i.1.list i.2).1.1.v,(gX i.1.list i.2).1.2.v,.bool (gX i.1.list i.2).2.1,.int .i64 (gX i.1.list i.2).2.2]⟩,new:=fun _=>none }
def r4 (a b p:PV):Bool:=decide (p≠a∧p≠b∧aY (aw a.p b.p p.p) 0≤0)
def rM:aG:={ ι:=xl,args:=fun i=>[i.2.2.v,.pointer (some ⟨0,0,none⟩),.pointer (some ⟨1,0,none⟩)],ae:=fun i=>[.flat false 1 6 (fun _=>i.1.cells),.flat false 1 6 (fun _=>i.2.1.cells)],pre:=fun i=>i.1.sz 2048∧i.2.1.sz 2048∧i.2.2.sz 2048,val:=fun i=>.bool (r4 i.1 i.2.1 i.2.2),new:=fun _=>none }
/-! walks through lists -/
def ua (L:List PV) (i:Nat):Prop:=∀ p∈L.take i,p.canon
theorem J3 (L:List PV):ua L 0:=fun p hp=>by simp at hp
theorem KG {L:List PV} {i:Nat} {p:PV} (h:ua L i) (hp:L[i]?=some p) (hc:p.canon):ua L (i+1):=fun q hq=>by
 rw [List.take_add_one,hp] at hq
 simp only [Option.toList_some,List.mem_append,List.mem_singleton] at hq
 rcases hq with hq | rfl
 ·exact h q hq
 ·exact hc
theorem Ll {L:List PV} (h:ua L L.length):fw L=false:=by
 cases e:fw L
 ·rfl
 ·obtain ⟨p,hp,hg⟩:=List.any_eq_true.1 e
  rw [ua,List.take_length] at h
  exact absurd (h p hp) (of_decide_eq_true hg)
theorem nm {L:List PV} {n j:Nat} (hn:n=L.length) (h:j < n):∃ a b:PV,bS L j=a.cells∧bS L (bd n j)=b.cells∧(a∈L∧b∈L)∧(aX (ay L))[j]?=some (a.p,b.p)∧bd n j < n∧a=ja L j∧b=ja L (bd n j):=by
 have hl:=c6 h
 refine ⟨ja L j,ja L (bd n j),qX (by omega),qX (by omega),⟨oj (by omega),oj (by omega)⟩,?_,hl,rfl,rfl⟩
 rw [jP (by omega),jP (by omega)]
 exact qW (gI (by rw [b8]; omega)) (by rw [b8,← hn]; exact gI (by rw [b8]; show bd n j < _; omega))
theorem EB {α β:Type} {f:β→α→β} {l:List α} {z:β} {j:Nat} {e:α} (h:l[j]?=some e):(l.take (j+1)).foldl f z=f ((l.take j).foldl f z) e:=by
 rw [List.take_add_one,h,List.foldl_append]; rfl
theorem Se (L:List PV):(aX (ay L)).take L.length=aX (ay L):=by
 rw [← b8 L,← kS (ay L),List.take_length]
def tJ (Q:List Q2) (p:Q2) (j:Nat):Int:=((aX Q).take j).foldl (Hv p) 1
theorem Re {Q:List Q2} {p a b:Q2} {j:Nat} (h:(aX Q)[j]?=some (a,b)):tJ Q p (j+1)=if aY (aw a b p) 0 < tJ Q p j then aY (aw a b p) 0 else tJ Q p j:=by
 unfold tJ
 rw [EB h]
 simp only [Hv]
theorem Sf {L:List PV} {p:Q2}:tJ (ay L) p L.length=GP (ay L) p:=by unfold tJ; rw [Se]; rfl
theorem Bk {L:List PV} (h:L.length < 3∨64 < L.length):aW L=4:=if_pos h
theorem MO {L:List PV} (h:¬ (L.length < 3∨64 < L.length)) (J:fw L=true):aW L=1:=by unfold aW; rw [if_neg h,if_pos J]
theorem MP {L:List PV} (h:¬ (L.length < 3∨64 < L.length)) (J:fw L=false) (h3:¬ ll (ay L)):aW L=8:=by unfold aW; rw [if_neg h,if_neg (by rw [J]; decide),if_neg (fun e=>h3 (A3.1 e))]
theorem FN {L:List PV} (h:¬ (L.length < 3∨64 < L.length)) (J:fw L=false) (h3:ll (ay L)) (h4:¬ Ring (ay L)):aW L=15:=by
 unfold aW
 rw [if_neg h,if_neg (by rw [J]; decide),if_pos (A3.2 h3),if_neg (fun e=>h4 ((EA (by rw [b8]; omega) h3).1 e))]
theorem L8 {L:List PV} (h:¬ (L.length < 3∨64 < L.length)) (J:fw L=false) (h3:ll (ay L)) (h4:Ring (ay L)):aW L=0:=by
 unfold aW
 rw [if_neg h,if_neg (by rw [J]; decide),if_pos (A3.2 h3),if_pos ((EA (by rw [b8]; omega) h3).2 h4)]
theorem qY {L:List PV} (h:fw L=false) {p:PV} (hp:p∈L):p=cB p.p:=by
 have hc:p.canon:=Decidable.byContradiction fun e=>by
  have:fw L=true:=List.any_eq_true.2 ⟨p,hp,decide_eq_true e⟩
  rw [h] at this; cases this
 exact Prod.ext hc.1 hc.2
/-- The first points stand behind the very first one. -/
def wO (Q:List Q2) (i:Nat):Prop:=∀ k,0 < k→k≤i→iL (aE Q 0) (aE Q k)
theorem J4 (Q:List Q2):wO Q 0:=fun k h0 h=>by omega
theorem KH {Q:List Q2} {i:Nat} (h:wO Q i) (J:iL (aE Q 0) (aE Q (i+1))):wO Q (i+1):=fun k h0 hk=>by
 rcases Nat.lt_or_eq_of_le hk with e | e
 ·exact h k h0 (by omega)
 ·rw [e]; exact J
theorem Lm {Q:List Q2} {i:Nat} (h:wO Q i) (hi:i+1=Q.length):ll Q:=fun k h0 hk=>h k h0 (by omega)
theorem Nv {a b:Q2}:iL a b↔0 < fL b a:=by
 rw [← x6]
 have h1:=Kz a b
 have J:=Kz b a
 have h3:=R8 (p:=a) (q:=b)
 have h4:=tA (a:=a) (b:=b)
 have h5:=tA (a:=b) (b:=a)
 have h6:fL a b < 0↔iL a b:=x6
 have h7:fL b a < 0↔iL b a:=x6
 have h8:¬ (iL a b∧iL b a):=fun ⟨x,y⟩=>by unfold iL at x y; grind
 constructor
 ·intro h
  have:¬ fL b a < 0:=fun e=>h8 ⟨h6.1 h,h7.1 e⟩
  omega
 ·intro h
  refine Decidable.byContradiction fun hc=>?_
  have h9:iw b a:=h5.2 hc
  have Iu:iw a b:=h4.2 (by omega)
  have:a=b:=LZ Iu h9
  have:=h3.2 (og.2 this)
  omega
theorem YP {L:List PV} {j:Nat} {a b:PV} (h:j < L.length) (ha:a=ja L j) (hb:b=ja L (bd L.length j)) (J:L.any (r4 a b)=false):¬ yo (ay L) j:=by
 rintro ⟨q,hq,h3,h4,h5⟩
 obtain ⟨p,hp,rfl⟩:=List.mem_map.1 hq
 rw [b8] at h4 h5
 rw [← jP h,← ha] at h3 h5
 rw [← jP (c6 h),← hb] at h4 h5
 have:L.any (r4 a b)=true:=List.any_eq_true.2 ⟨p,hp,decide_eq_true ⟨fun e=>h3 (by rw [e]),fun e=>h4 (by rw [e]),Int.not_lt.1 fun e=>Rat.not_lt.2 h5 (vO.1 e)⟩⟩
 rw [J] at this; cases this
theorem V5 {L:List PV} {j:Nat} {a b p:PV} (hc:fw L=false) (h:j < L.length) (ha:a=ja L j) (hb:b=ja L (bd L.length j)) (hp:p∈L) (J:r4 a b p=true):yo (ay L) j:=by
 obtain ⟨h3,h4,h5⟩:=of_decide_eq_true J
 have ca:=qY hc (p:=a) (by rw [ha]; exact oj h)
 have cb:=qY hc (p:=b) (by rw [hb]; exact oj (c6 h))
 have cp:=qY hc hp
 refine ⟨p.p,List.mem_map_of_mem hp,?_,?_,?_⟩
 ·rw [← jP h,← ha]; exact fun e=>h3 (by rw [cp,ca,e])
 ·rw [b8,← jP (c6 h),← hb]; exact fun e=>h4 (by rw [cp,cb,e])
 ·rw [b8,← jP h,← ha,← jP (c6 h),← hb]; exact Rat.not_lt.1 fun e=>by have:=vO.2 e; omega
theorem acG {p q:PV} (h:true=fw [p,q]):p.canon→q.canon→False:=fun h1 J=>by
 unfold fw at h
 simp [h1,J] at h
theorem aa2 {p q:PV} (h:false=fw [p,q]):p.canon∧q.canon:=by
 unfold fw at h
 simp at h
 exact h
/-! what a ring keeps -/
def uu:bG:={ ι:=xl,args:=fun i=>[i.1.v,i.2.1.v,i.2.2.v],pre:=Cs,val:=fun i=>.bool (decide (i.2.1≠i.2.2)) }
def ux:bG:={ ι:=xl,args:=fun i=>[i.1.v,i.2.1.v,i.2.2.v],pre:=Cs,val:=fun i=>.bool (decide (aY (aw i.1.p i.2.1.p i.2.2.p) 0≠0)) }
def rN (b:Bool) (Q:List Q2):List Q2:=match b with
 | false=>gB Q
 | true=>jE Q
def ke (f g:FuncId):aG:={ ι:=QL × Bool,args:=fun i=>[i.1.val,.func (.func (match i.2 with | false=>f | true=>g)) #[] #[]],ae:=fun i=>i.1.ae,pre:=fun i=>i.1.list.length≤549755813888∧∀ v∈i.1.list,Q2.sz 262144 v,val:=fun i=>eU i.1.ae.length (rN i.2 i.1.list).length,new:=fun i=>c8 (rN i.2 i.1.list) }
theorem A4 {R:List Q2} {B:ai} (h:c8 R=some B):B.iR=true:=by
 unfold c8 at h
 split at h
 ·cases h
 ·cases h; rfl
def pO (Q:List Q2) (j:Nat):List Q2:=((aX Q).take j).flatMap mT
def rO (Q:List Q2) (j:Nat):List Q2:=(List.range j).flatMap (nC Q)
theorem Sg {Q:List Q2} {j:Nat} {a b:PV} (h:j < Q.length) (ha:a=cB (aE Q j)) (hb:b=cB (aE Q (bd Q.length j))):pO Q (j+1)=pO Q j++if a≠b then [aE Q j] else []:=by
 unfold pO
 rw [Li (qW (gI h) (gI (c6 h)))]
 congr 1
 show (if fL (aE Q j) (aE Q (bd Q.length j))≠0 then [aE Q j] else [])=_
 by_cases e:aE Q j=aE Q (bd Q.length j)
 ·rw [if_neg (fun h=>h (og.2 e)),if_neg (fun h=>h (by rw [ha,hb,e]))]
 ·rw [if_pos (fun h=>e (og.1 h)),if_pos (fun h=>e ((VY ha hb).1 h))]
theorem Sh {Q:List Q2} {j:Nat} {a b c:Q2} (ha:a=aE Q (eP Q.length j)) (hb:b=aE Q j) (hc:c=aE Q (bd Q.length j)):rO Q (j+1)=rO Q j++if aY (aw a b c) 0≠0 then [b] else []:=by
 unfold rO
 rw [List.range_succ,List.flatMap_append,List.flatMap_singleton,UO ha hb hc rfl]
theorem Ln (Q:List Q2):pO Q Q.length=gB Q:=by unfold pO gB; rw [← kS Q,List.take_length]
theorem UU (Q:List Q2) (j:Nat):(pO Q j).length≤Q.length:=VZ Q j
theorem UW (Q:List Q2) (j:Nat):(rO Q j).length≤j:=V0 Q j
theorem L9 {L:List Q2} {n j:Nat} {a b d:PV} (hn:n=L.length) (h:j < n) (ha:a.p=aE L (eP n j)) (hb:b=cB (aE L j)) (hd:d=cB (aE L (bd n j))):∃ z:Bool,uu.val (a,b,d)=.bool z∧pO L (j+1)=pO L j++if z=true then [aE L j] else []:=by
 refine ⟨decide (b≠d),rfl,?_⟩
 rw [Sg (a:=b) (b:=d) (by omega) hb (by rw [← hn]; exact hd)]
 by_cases e:b=d
 ·rw [if_neg (fun h=>h e),if_neg (by rw [decide_eq_false (fun h=>h e)]; decide)]
 ·rw [if_pos e,if_pos (decide_eq_true e)]
theorem Ma {L:List Q2} {n j:Nat} {a b d:PV} (hn:n=L.length) (h:j < n) (ha:a.p=aE L (eP n j)) (hb:b=cB (aE L j)) (hd:d=cB (aE L (bd n j))):∃ z:Bool,ux.val (a,b,d)=.bool z∧rO L (j+1)=rO L j++if z=true then [aE L j] else []:=by
 have eb:b.p=aE L j:=by rw [hb,ig]
 have ed:d.p=aE L (bd n j):=by rw [hd,ig]
 refine ⟨decide (aY (aw a.p b.p d.p) 0≠0),rfl,?_⟩
 rw [Sh (a:=a.p) (b:=b.p) (c:=d.p) (by rw [← hn]; exact ha) eb (by rw [← hn]; exact ed),eb]
 by_cases e:aY (aw a.p (aE L j) d.p) 0=0
 ·rw [if_neg (fun h=>h e),if_neg (by rw [decide_eq_false (fun h=>h e)]; decide)]
 ·rw [if_pos e,if_pos (decide_eq_true e)]
theorem Lo (Q:List Q2):rO Q Q.length=jE Q:=rfl
theorem Tt (Q:List Q2):fR Q=if (rN true (rN false Q)).length < 3 then [] else eW (rN true (rN false Q)):=rfl
theorem V6 {R:List Q2} {n:Nat} (h:R.length=n) (h0:0 < n):c8 R=some (.flat true n 6 (cc R)):=by
 unfold c8
 rw [h]
 cases n with
 | zero=>omega
 | succ n=>rfl
theorem V7 {k n:Nat} (h0:0 < n):eU k n=.slice (some ⟨k,0,none⟩) n aN:=by
 cases n with
 | zero=>omega
 | succ n=>rfl
/-! what is left of a polygon by a line -/
def Hw (f:FuncId):aG:={ ι:=QL × qD,args:=fun i=>[.func (.func f) #[] #[.pointer (some ⟨i.1.ae.length,0,none⟩),.pointer (some ⟨i.1.ae.length+1,0,none⟩),.pointer (some ⟨i.1.ae.length+2,0,none⟩)]],ae:=fun i=>i.1.ae++[.aQ false 1 [[i.1.val]],.aQ false 6 [i.2.1.cells], .aQ false 6 [i.2.2.cells]],pre:=fun i=>i.1.list.length≤1073741824∧(∀ v∈i.1.list,Q2.sz 2048 v)∧i.2.1.sz 2048∧i.2.2.sz 2048,val:=fun i=>eU (i.1.ae.length+3) (fo (eV i.2.1.p i.2.2.p) i.1.list).length,new:=fun i=>c8 (fo (eV i.2.1.p i.2.2.p) i.1.list) }
theorem wP {a b p:Q2} {k l m:Nat} (ha:Q2.sz k a) (hb:Q2.sz l b) (hp:Q2.sz m p):QB (aw a b p) (l+k+1+(m+k+1)+(l+k+1+(m+k+1))+1):=xT (ou hb ha) (ou hp ha)
theorem Lp {m:Q3} {L:List Q2} {j:Nat} {a b w:PV} {O:List Q2} {x y:Rat} (e9:(aX L)[j]?=some (a.p,b.p)) (hO:O=((aX L).take j).flatMap (mX m)) (hx:x=bk m a.p) (hy:y=bk m b.p) (hw:w.p=atR a.p b.p (x / (x - y))) :
  ((aX L).take (j+1)).flatMap (mX m)=O++((if aY x 0 ≥ 0 then [a.p] else [])++if aY x 0*aY y 0 < 0 then [w.p] else []):=by
 rw [Li e9,← hO,mX]
 subst hx; subst hy
 congr 1
 unfold mS gK ji
 rw [hw]
theorem Mb (m:Q3) (L:List Q2):((aX L).take L.length).flatMap (mX m)=fo m L:=by rw [MK,← kS L,List.take_length]
theorem V8 (m:Q3) (L:List Q2) (j:Nat):(((aX L).take j).flatMap (mX m)).length≤2*L.length:=by
 have:=Ez m ((aX L).take j)
 rw [List.length_take,kS] at this
 omega
theorem V9 {L:List PV} (h:fw L=false):bJ (ay L)=L:=by
 unfold bJ ay
 rw [List.map_map]
 refine (List.map_congr_left (fun p hp=>?_)).trans (List.map_id L)
 exact (qY h hp).symm
theorem xX {L:List PV} (h:aW L=0):fw L=false:=by
 cases e:fw L
 ·rfl
 ·obtain ⟨p,hp,hc⟩:=List.any_eq_true.1 e
  exact absurd ((jd h).2.1 p hp) (of_decide_eq_true hc)
theorem tg {L:List PV} (h:aW L=0):cc (ay L)=bS L:=by unfold cc; rw [V9 (xX h)]
theorem Wa {R:List Q2} (h:R.length=0):ur R=([],11):=if_pos h
theorem Wb {R:List Q2} (h:64 < R.length):ur R=([],4):=by unfold ur; rw [if_neg (by omega),if_pos h]
theorem Nw {R:List Q2} (h:¬ R.length=0) (J:¬ 64 < R.length):ur R=(R,0):=by unfold ur; rw [if_neg h,if_neg J]
theorem Wc {k:Nat} {m:Q3} {P:List Q2} (sm:Q3.sz k m) (hP:∀ v∈P,Q2.sz 2048 v) (hk:k≤12291):∀ v∈fo m P,Q2.sz 262144 v:=by
 intro v hv
 rcases VR hv with ⟨h1,_⟩ | ⟨e,he,hx⟩
 ·exact Q2.mono (hP v h1) (by decide)
 ·have hx:=xA hx
  rw [hx.2.1]
  have h1:=hP _ (o5 he).1
  have J:=hP _ (o5 he).2
  have s1:=Np sm h1
  have s2:=Np sm J
  have:=yI h1 J (s1.div (s1.sub s2) (by omega))
  exact Q2.mono this (by omega)
theorem Fc {P:List Q2} {a b:Q2} (hl:P.length≤1073741824) (hP:∀ v∈P,Q2.sz 2048 v) (ha:Q2.sz 2048 a) (hb:Q2.sz 2048 b):(fo (eV a b) P).length≤549755813888∧∀ v∈fo (eV a b) P,Q2.sz 262144 v :=
 ⟨by have:=UN (eV a b) P; omega,Wc (k:=12291) (Q3.mono (No ha hb) (by decide)) hP (Nat.le_refl _)⟩
/-! meeting -/
def acH (v:Value) (q:Nat):Nat→Value
 | 0=>v
 | _+1=>eU 5 q
def acI (F:Nat→List Value) (q:Nat):Nat→ax
 | 0=>[]
 | _+1=>yU 6 F q
theorem GQ {A B:List PV} (h:¬ (aW A=0∧aW B=0)):g7 A B=([],1):=if_neg h
theorem Nx {A B:List PV} {R:List Q2} (h:aW A=0∧aW B=0) (hR:R=jk (ay A) (ay B) B.length):g7 A B=ur R:=by
 unfold g7
 rw [if_pos h,hR,← b8 B,Tr]
theorem DV {P Q C R:List Q2} {j:Nat} {a b:Q2} (e9:(aX Q)[j]?=some (a,b)) (hC:C=fo (eV a b) (jk P Q j)) (hR:R=fR C):R=jk P Q (j+1):=by
 rw [Sb e9,hR,hC]; rfl
/-! separating edges -/
def pZ (s:Bool):bG:={ ι:=Int,args:=fun z=>[.int .i64 z],pre:=fun _=>True,val:=fun z=>.bool (lQ s z) }
abbrev SI:=((List Q2 × Nat) × (List Q2 × Nat)) × FuncId × Bool
def fg (o:Option (Q2 × Q2)):XV × Bool:=match o with
 | some e=>(IE e,true)
 | none=>(jq,false)
def SI.ok (f1 f2 f3:FuncId) (i:SI):Prop:=(i.2=(f1,true)∨i.2=(f2,false)∨i.2=(f3,true))∧(i.1.1.1.length≤1073741824∧∀ v∈i.1.1.1,Q2.sz 2048 v)∧i.1.2.1.length≤1073741824∧∀ v∈i.1.2.1,Q2.sz 2048 v
def w6 (f1 f2 f3:FuncId) (V:Bool→List Q2→List Q2→Option (Q2 × Q2)):aG:={ ι:=SI,args:=fun i=>[.slice (some ⟨0,0,none⟩) i.1.1.1.length i.1.1.2,.slice (some ⟨1,0,none⟩) i.1.2.1.length i.1.2.2,.func (.func i.2.1) #[] #[]],ae:=fun i=>[.flat false i.1.1.1.length 6 (cc i.1.1.1),.flat false i.1.2.1.length 6 (cc i.1.2.1)],pre:=SI.ok f1 f2 f3,val:=fun i=>.tuple ⟨[(fg (V i.2.2 i.1.1.1 i.1.2.1)).1.v,.bool (fg (V i.2.2 i.1.1.1 i.1.2.1)).2]⟩,new:=fun _=>none }
def fp (s:Bool) (B:List Q2) (e:Q2 × Q2):Bool:=B.all fun x=>lQ s (aY (aw e.1 e.2 x) 0)
def r6 (s:Bool) (a b x:Q2):Bool:=!lQ s (aY (aw a b x) 0)
theorem Wd {s:Bool} {B:List Q2} {a b:Q2} (h:B.any (r6 s a b)=false):fp s B (a,b)=true:=by
 unfold fp
 rw [List.all_eq_true]
 intro x hx
 cases e:lQ s (aY (aw a b x) 0)
 ·have:B.any (r6 s a b)=true:=List.any_eq_true.2 ⟨x,hx,by unfold r6; rw [e]; rfl⟩
  rw [h] at this; cases this
 ·rfl
theorem FO {s:Bool} {B:List Q2} {a b x:Q2} (hx:x∈B) (h:r6 s a b x=true):fp s B (a,b)=false:=by
 unfold fp
 cases e:B.all fun x=>lQ s (aY (aw (a,b).1 (a,b).2 x) 0)
 ·rfl
 ·have:=List.all_eq_true.1 e x hx
  unfold r6 at h
  rw [show lQ s (aY (aw a b x) 0)=true from this] at h
  cases h
theorem UX {s:Bool} {A B:List Q2} {j:Nat} {e:Q2 × Q2} (h:kY (fp s B) (aX A) j) (he:(aX A)[j]?=some e) (J:fp s B e=true):eF s A B=some e:=by
 unfold eF
 rw [show (fun e:Q2 × Q2=>B.all fun x=>lQ s (aY (aw e.1 e.2 x) 0))=fp s B from rfl]
 have hj:=(List.getElem?_eq_some_iff.1 he).1
 rw [← List.take_append_drop j (aX A),List.find?_append,List.find?_eq_none.2,List.drop_eq_getElem_cons hj]
 ·rw [List.find?_cons,(List.getElem?_eq_some_iff.1 he).2,J]; rfl
 ·intro x hx hc
  have:((aX A).take j).any (fp s B)=true:=List.any_eq_true.2 ⟨x,hx,hc⟩
  rw [show ((aX A).take j).any (fp s B)=false from h] at this
  cases this
theorem UY {s:Bool} {A B:List Q2} {n:Nat} (hn:n=A.length) (h:kY (fp s B) (aX A) n):eF s A B=none:=by
 unfold eF
 rw [List.find?_eq_none]
 intro x hx hc
 rw [hn,← kS A] at h
 have:=AB h
 have J:(aX A).any (fp s B)=true:=List.any_eq_true.2 ⟨x,hx,hc⟩
 rw [this] at J
 cases J
theorem We {s:Bool} {A B:List Q2} {x:XV} (h:fg (eF s A B)=(x,true)):fg (dQ s A B)=(x,true):=by
 unfold dQ
 cases e:eF s A B with
 | none=>rw [e] at h; cases h
 | some y=>rw [e] at h; exact h
theorem Wf {s:Bool} {A B:List Q2} {x:XV} (h:fg (eF s A B)=(x,false)):fg (dQ s A B)=fg (eF s B A):=by
 unfold dQ
 cases e:eF s A B with
 | none=>rfl
 | some y=>rw [e] at h; cases h
theorem kZ {s:Bool} {A B:List PV} (h:¬ (aW A=0∧aW B=0)):ck s A B=(false,1):=if_neg h
theorem MQ {s:Bool} {A B:List PV} {x:XV} {z:Bool} (h:aW A=0∧aW B=0) (J:fg (dQ s (ay A) (ay B))=(x,z)):ck s A B=(!z,0):=by
 unfold ck
 rw [if_pos h]
 cases e:dQ s (ay A) (ay B) with
 | none=>rw [e] at J; cases J; rfl
 | some y=>rw [e] at J; cases J; rfl
theorem tK {A B:List PV} (h:¬ (aW A=0∧aW B=0)):dm A B=(jq,1):=if_neg h
theorem Wg {A B:List PV} {x:XV} {z:Bool} (h:aW A=0∧aW B=0) (J:fg (dQ true (ay A) (ay B))=(x,z)):dm A B=if z=true then (x,0) else (jq,6):=by
 unfold dm
 rw [if_pos h]
 cases e:dQ true (ay A) (ay B) with
 | none=>rw [e] at J; cases J; rfl
 | some y=>rw [e] at J; cases J; rfl
/-! sizes -/
def r8:bG:={ ι:=PV,args:=fun i=>[i.v],pre:=fun _=>True,val:=fun i=>.bool (decide (¬ i.sz 12)) }
def jm (L:List PV):Bool:=decide ((10 < L.length∧L.length < 63)∨66 < L.length) || tI 12 L
def dg:aG:={ ι:=PL,args:=fun i=>[i.val],ae:=PL.ae,pre:=fun i=>i.list.length≤9223372036854775807,val:=fun i=>.bool (jm i.list),new:=fun _=>none }
theorem KI {L:List PV} (h:(10 < L.length∧L.length < 63)∨66 < L.length):jm L=true:=by unfold jm; rw [decide_eq_true h]; rfl
theorem Si {L:List PV} (h:¬ ((10 < L.length∧L.length < 63)∨66 < L.length)):jm L=tI 12 L:=by unfold jm; rw [decide_eq_false h]; rfl
theorem Tu {L:List PV} (h:jm L=false):(L.length≤10∨(63≤L.length∧L.length≤66))∧∀ p∈L,p.sz 12:=by
 unfold jm at h
 rw [Bool.or_eq_false_iff] at h
 have h1:=of_decide_eq_false h.1
 exact ⟨by omega,QE h.2⟩
def cM:aG:={ ι:=lO,args:=fun i=>[i.1.val,i.2.tZ i.1.ae.length],ae:=fun i=>i.1.ae++i.2.ae,pre:=lO.fit,val:=fun i=>.bool (decide (aW i.1.list=0∧aW i.2.list=0)),new:=fun _=>none }
theorem Bl {n1 n2:Bool} {a1 b1 a2 b2:ByteArray} (h:12 < a1.size∨12 < b1.size∨12 < a2.size∨12 < b2.size):Value.bool true=r8.val ((n1,a1,b1),(n2,a2,b2)):=by
 have hn:¬ PV.sz 12 ((n1,a1,b1),(n2,a2,b2)):=fun e=>by
  have e:(a1.size≤12∧b1.size≤12)∧a2.size≤12∧b2.size≤12:=e
  omega
 exact congrArg Value.bool (decide_eq_true hn).symm
theorem YQ {n1 n2:Bool} {a1 b1 a2 b2:ByteArray} (h:¬ (12 < a1.size∨12 < b1.size∨12 < a2.size∨12 < b2.size)):Value.bool false=r8.val ((n1,a1,b1),(n2,a2,b2)):=by
 refine (congrArg Value.bool (decide_eq_false fun e=>e ?_)).symm
 show (a1.size≤12∧b1.size≤12)∧a2.size≤12∧b2.size≤12
 omega
end Go.Ae
/- Rationals: the inverse, as the reference makes it. -/
namespace Go.Ae
open Go
end Go.Ae
/- Convex rings: the part of a segment. -/
namespace Go.Ae
open Go
/-- The bounds, as the program finds them. -/
def yW (a b:Q2) (st:Option (Rat × Rat)) (e:Q2 × Q2):Option (Rat × Rat) :=
 match st with
 | none=>none
 | some (lo,hi) =>
  if aw e.1 e.2 a≤0∧aw e.1 e.2 b≤0 then none
  else if 0 < aw e.1 e.2 a∧0 < aw e.1 e.2 b then some (lo,hi)
  else if 0 < aw e.1 e.2 b then some (lH lo (aw e.1 e.2 a / (aw e.1 e.2 a - aw e.1 e.2 b)),hi)
  else some (lo,lI hi (aw e.1 e.2 a / (aw e.1 e.2 a - aw e.1 e.2 b)))
def r9 (st:Option (Rat × Rat)):Option (Rat × Rat):=match st with
 | none=>none
 | some (lo,hi)=>if hi≤lo then none else some (lo,hi)
theorem Wh (Q:List Q2) (a b:Q2):pY Q a b=r9 ((aX Q).foldl (wZ a b) (some (0,1))):=rfl
theorem max_le (x y:Rat):x≤lH x y∧y≤lH x y:=by unfold lH; split <;> grind
theorem min_le (x y:Rat):lI x y≤x∧lI x y≤y:=by unfold lI; split <;> grind
theorem max_eq {x y:Rat} (h:y≤x):lH x y=x:=by unfold lH; rw [if_neg (by grind)]
theorem min_eq {x y:Rat} (h:x≤y):lI x y=x:=by unfold lI; rw [if_neg (by grind)]
theorem Fe {a b:Q2}:∀ l:List (Q2 × Q2),l.foldl (wZ a b) none=none
 | []=>rfl
 | e::l=>by rw [List.foldl_cons]; exact Fe l
theorem xY {a b:Q2}:∀ l:List (Q2 × Q2),l.foldl (yW a b) none=none
 | []=>rfl
 | e::l=>by rw [List.foldl_cons]; exact xY l
theorem Lq (a b:Q2) (lo hi:Rat) (e:Q2 × Q2):wZ a b (some (lo,hi)) e=if aw e.1 e.2 b - aw e.1 e.2 a=0 then (if aw e.1 e.2 a≤0 then none else some (lo,hi))
  else if 0 < aw e.1 e.2 b - aw e.1 e.2 a then some (lH lo (-aw e.1 e.2 a / (aw e.1 e.2 b - aw e.1 e.2 a)),hi)
  else some (lo,lI hi (-aw e.1 e.2 a / (aw e.1 e.2 b - aw e.1 e.2 a))):=rfl
theorem Lr (a b:Q2) (lo hi:Rat) (e:Q2 × Q2):yW a b (some (lo,hi)) e=if aw e.1 e.2 a≤0∧aw e.1 e.2 b≤0 then none
  else if 0 < aw e.1 e.2 a∧0 < aw e.1 e.2 b then some (lo,hi)
  else if 0 < aw e.1 e.2 b then some (lH lo (aw e.1 e.2 a / (aw e.1 e.2 a - aw e.1 e.2 b)),hi)
  else some (lo,lI hi (aw e.1 e.2 a / (aw e.1 e.2 a - aw e.1 e.2 b))):=rfl
theorem Mc {a b:Q2}:∀ (l:List (Q2 × Q2)) (lo hi:Rat),hi≤lo→r9 (l.foldl (wZ a b) (some (lo,hi)))=none:=by
 intro l
 induction l with
 | nil=>intro lo hi h; unfold r9; simp only [List.foldl_nil]; rw [if_pos h]
 | cons e l ih =>
  intro lo hi h
  rw [List.foldl_cons,Lq]
  split
  ·split
   ·rw [Fe]; rfl
   ·exact ih _ _ h
  ·split
   ·refine ih _ _ ?_
    have:=(max_le lo (-aw e.1 e.2 a / (aw e.1 e.2 b - aw e.1 e.2 a))).1
    grind
   ·refine ih _ _ ?_
    have:=(min_le hi (-aw e.1 e.2 a / (aw e.1 e.2 b - aw e.1 e.2 a))).1
    grind
/-- Where a line is crossed. -/
theorem Wi {x y:Rat} (h:y - x≠0):(-x / (y - x))*(y - x)=-x∧-x / (y - x)=x / (x - y):=by
 refine ⟨by rw [Rat.div_def]; grind,?_⟩
 have J:x - y≠0:=by grind
 have e1:(-x / (y - x))*(y - x)=-x:=by rw [Rat.div_def]; grind
 have e2:(x / (x - y))*(x - y)=x:=by rw [Rat.div_def]; grind
 have:(y - x)*(-x / (y - x) - x / (x - y))=0:=by grind
 have:=(Rat.mul_eq_zero.1 this).resolve_left h
 grind
theorem AQ {a b k:Rat} (hk:0 < k) (h:a*k≤b*k):a≤b:=by
 by_cases h1:a≤b
 ·exact h1
 ·have:=Rat.mul_pos (show 0 < a - b by grind) hk
  grind
theorem MR {a b:Q2}:∀ (l:List (Q2 × Q2)) (lo hi:Rat),0≤lo→hi≤1→r9 (l.foldl (yW a b) (some (lo,hi)))=r9 (l.foldl (wZ a b) (some (lo,hi))):=by
 intro l
 induction l with
 | nil=>intro lo hi _ _; rfl
 | cons e l ih =>
  intro lo hi h0 h1
  rw [List.foldl_cons,List.foldl_cons,Lq,Lr]
  generalize aw e.1 e.2 a=x
  generalize aw e.1 e.2 b=y
  by_cases hs:y - x=0
  ·rw [if_pos hs]
   by_cases hx:x≤0
   ·rw [if_pos ⟨hx,by grind⟩,if_pos hx,xY,Fe]
   ·rw [if_neg (fun e=>hx e.1),if_pos ⟨by grind,by grind⟩,if_neg hx]
    exact ih _ _ h0 h1
  ·obtain ⟨ht,te⟩:=Wi hs
   rw [if_neg hs,te]
   rw [te] at ht
   generalize x / (x - y)=t at ht
   by_cases hp:0 < y - x
   ·rw [if_pos hp]
    by_cases hy:y≤0
    ·rw [if_pos ⟨by grind,hy⟩,xY,Mc]
     ·rfl
     ·have J:1≤t:=AQ hp (by grind)
      have:=(max_le lo t).2
      grind
    ·rw [if_neg (fun e=>hy e.2)]
     by_cases hx:0 < x
     ·rw [if_pos ⟨hx,by grind⟩]
      have J:t≤0:=AQ hp (by grind)
      rw [max_eq (by grind)]
      exact ih _ _ h0 h1
     ·rw [if_neg (fun e=>hx e.1),if_pos (by grind)]
      exact ih _ _ (by have:=(max_le lo t).1; grind) h1
   ·have hn:0 < x - y:=by grind
    rw [if_neg hp]
    by_cases hx:x≤0
    ·rw [if_pos ⟨hx,by grind⟩,xY,Mc]
     ·rfl
     ·have J:t≤0:=AQ hn (by grind)
      have:=(min_le hi t).2
      grind
    ·rw [if_neg (fun e=>hx e.1)]
     by_cases hy:0 < y
     ·rw [if_pos ⟨by grind,hy⟩]
      have J:1≤t:=AQ hn (by grind)
      rw [min_eq (by grind)]
      exact ih _ _ h0 h1
     ·rw [if_neg (fun e=>hy e.2),if_neg hy]
      exact ih _ _ h0 (by have:=(min_le hi t).1; grind)
def ub (Q:List Q2) (a b:Q2) (j:Nat):Option (Rat × Rat):=((aX Q).take j).foldl (yW a b) (some (0,1))
theorem Sj {Q:List Q2} {a b p q:Q2} {j:Nat} {lo hi x y:Rat} (h:ub Q a b j=some (lo,hi)) (he:(aX Q)[j]?=some (p,q)) (hx:x=aw p q a) (hy:y=aw p q b) :
  ub Q a b (j+1)=if x≤0∧y≤0 then none else if 0 < x∧0 < y then some (lo,hi) else if 0 < y then some (lH lo (x / (x - y)),hi) else some (lo,lI hi (x / (x - y))):=by
 unfold ub at *
 rw [EB he,h,Lr]
 subst hx; subst hy
 simp only
theorem Sk {Q:List Q2} {a b:Q2} {j:Nat} (h:ub Q a b j=none):pY Q a b=none:=by
 rw [Wh,← MR _ _ _ (by grind) (by grind)]
 have e:aX Q=(aX Q).take j++(aX Q).drop j:=(List.take_append_drop ..).symm
 rw [e,List.foldl_append,show List.foldl (yW a b) (some (0,1)) ((aX Q).take j)=none from h,xY]
 rfl
theorem Tv {Q:List Q2} {a b:Q2} {n:Nat} (hn:n=Q.length):r9 (ub Q a b n)=pY Q a b:=by
 unfold ub
 rw [hn,← kS Q,List.take_length,MR _ _ _ (by grind) (by grind)]
 rfl
theorem Ny {L:List PV} {s:XV} (h:¬ (aW L=0∧s.1.canon∧s.2.canon)):gX L s=((dv,dv),false,1):=if_neg h
theorem MS {L:List PV} {s:XV} (h:aW L=0∧s.1.canon∧s.2.canon) (J:pY (ay L) s.1.p s.2.p=none):gX L s=((dv,dv),false,0):=by unfold gX; rw [if_pos h,J]
theorem Wj {L:List PV} {s:XV} {lo hi:Rat} (h:aW L=0∧s.1.canon∧s.2.canon) (J:pY (ay L) s.1.p s.2.p=some (lo,hi)):gX L s=((RV.of lo,RV.of hi),true,0):=by unfold gX; rw [if_pos h,J]
theorem UZ {lo hi:Rat} (h:hi≤lo):r9 (some (lo,hi))=none:=if_pos h
theorem U0 {lo hi:Rat} (h:¬ hi≤lo):r9 (some (lo,hi))=some (lo,hi):=if_neg h
theorem Wk {L:List PV} {p q:PV} {lo hi:RV} (h:aW L=0∧p.canon∧q.canon) (J:pY (ay L) p.p q.p=some (lo.q,hi.q)) (c1:lo=RV.of lo.q) (c2:hi=RV.of hi.q):gX L (p,q)=((lo,hi),true,0):=by
 have:=Wj (s:=(p,q)) h J
 rw [← c1,← c2] at this
 exact this
end Go.Ae
/- Convex rings: separating edges as the reference finds them. -/
namespace Go.Ae
open Go
def w8 (a b:Q2) (z:Int) (x:Q2):Int:=if z < aY (aw a b x) 0 then aY (aw a b x) 0 else z
def rP (a b:Q2) (B:List Q2) (k:Nat):Int:=(B.take k).foldl (w8 a b) (-1)
theorem Sl {a b x:Q2} {B:List Q2} {k:Nat} (h:B[k]?=some x):rP a b B (k+1)=if rP a b B k < aY (aw a b x) 0 then aY (aw a b x) 0 else rP a b B k:=by
 unfold rP
 rw [EB h]
 rfl
theorem Md {a b:Q2}:∀ (B:List Q2) (z:Int),B.foldl (w8 a b) z≤0↔z≤0∧∀ x∈B,aY (aw a b x) 0≤0
 | [],z=>⟨fun h=>⟨h,fun x hx=>nomatch hx⟩,fun h=>h.1⟩
 | y::B,z=>by
  rw [List.foldl_cons,Md B]
  simp only [List.mem_cons,forall_eq_or_imp]
  unfold w8
  split
  ·constructor
   ·rintro ⟨h1,J⟩; exact ⟨by omega,h1,J⟩
   ·rintro ⟨h1,J,h3⟩; exact ⟨J,h3⟩
  ·constructor
   ·rintro ⟨h1,J⟩; exact ⟨h1,by omega,J⟩
   ·rintro ⟨h1,J,h3⟩; exact ⟨h1,h3⟩
theorem Ls {a b:Q2}:∀ (B:List Q2) (z:Int),B.foldl (w8 a b) z < 0↔z < 0∧∀ x∈B,aY (aw a b x) 0 < 0
 | [],z=>⟨fun h=>⟨h,fun x hx=>nomatch hx⟩,fun h=>h.1⟩
 | y::B,z=>by
  rw [List.foldl_cons,Ls B]
  simp only [List.mem_cons,forall_eq_or_imp]
  unfold w8
  split
  ·constructor
   ·rintro ⟨h1,J⟩; exact ⟨by omega,h1,J⟩
   ·rintro ⟨h1,J,h3⟩; exact ⟨J,h3⟩
  ·constructor
   ·rintro ⟨h1,J⟩; exact ⟨h1,by omega,J⟩
   ·rintro ⟨h1,J,h3⟩; exact ⟨h1,h3⟩
theorem Tw {s:Bool} {a b:Q2} {B:List Q2} {k:Nat} (hk:k=B.length):fp s B (a,b)=(decide (rP a b B k < 0) || (s && decide (rP a b B k=0))):=by
 unfold rP
 rw [hk,List.take_length]
 have h1:=Md (a:=a) (b:=b) B (-1)
 have J:=Ls (a:=a) (b:=b) B (-1)
 generalize hz:B.foldl (w8 a b) (-1)=z at h1 J ⊢
 rw [Bool.eq_iff_iff]
 unfold fp
 rw [List.all_eq_true]
 cases s
 ·simp only [Bool.false_and,Bool.or_false,decide_eq_true_eq]
  rw [J]
  exact ⟨fun h=>⟨by decide,fun x hx=>by have:=h x hx; simpa [lQ] using this⟩,fun h x hx=>by simpa [lQ] using h.2 x hx⟩
 ·simp only [Bool.true_and,Bool.or_eq_true,decide_eq_true_eq]
  have h3:(z < 0∨z=0)↔z≤0:=by omega
  rw [h3,h1]
  exact ⟨fun h=>⟨by decide,fun x hx=>by have:=h x hx; simpa [lQ] using this⟩,fun h x hx=>by simpa [lQ] using h.2 x hx⟩
def jt (s:Bool) (A B:List Q2):Int:=if (aX A).findIdx (fp s B) < (aX A).length then (((aX A).findIdx (fp s B):Nat):Int) else -1
theorem Me {s:Bool} {A B:List Q2} {j:Nat} {e:Q2 × Q2} (h:kY (fp s B) (aX A) j) (he:(aX A)[j]?=some e) (J:fp s B e=true):jt s A B=(j:Int):=by
 obtain ⟨hj,hv⟩:=List.getElem?_eq_some_iff.1 he
 have:(aX A).findIdx (fp s B)=j:=by
  rw [List.findIdx_eq hj]
  refine ⟨by rw [hv]; exact J,fun i hi=>?_⟩
  cases hc:fp s B (aX A)[i]
  ·rfl
  ·have:((aX A).take j).any (fp s B)=true:=List.any_eq_true.2 ⟨_,List.mem_take_iff_getElem.2 ⟨i,by omega,rfl⟩,hc⟩
   rw [show ((aX A).take j).any (fp s B)=false from h] at this
   cases this
 unfold jt
 rw [this,if_pos hj]
theorem U1 {s:Bool} {A B:List Q2} {n:Nat} (hn:n=A.length) (h:kY (fp s B) (aX A) n):jt s A B=-1:=by
 unfold jt
 rw [if_neg]
 intro hc
 rw [List.findIdx_lt_length] at hc
 obtain ⟨x,hx,hp⟩:=hc
 rw [hn,← kS A] at h
 have:=AB h
 rw [List.any_eq_true.2 ⟨x,hx,hp⟩] at this
 cases this
theorem EC (s:Bool) (A B:List Q2):(jt s A B=-1∧eF s A B=none)∨∃ (j:Nat) (e:Q2 × Q2),jt s A B=(j:Int)∧j < A.length∧(aX A)[j]?=some e∧eF s A B=some e:=by
 rcases Nat.lt_or_ge ((aX A).findIdx (fp s B)) (aX A).length with h | h
 ·refine .inr ⟨_,(aX A)[(aX A).findIdx (fp s B)],if_pos h,by rw [← kS A]; exact h,List.getElem?_eq_getElem h,?_⟩
  have:=List.find?_eq_some_iff_getElem (xs:=aX A) (p:=fp s B) (b:=(aX A)[(aX A).findIdx (fp s B)])
  exact this.2 ⟨List.findIdx_getElem,_,h,rfl,fun i hi=>by
   have:=List.not_of_lt_findIdx hi
   simpa using this⟩
 ·refine .inl ⟨if_neg (by omega),?_⟩
  have J:=List.findIdx_eq_length.1 (show (aX A).findIdx (fp s B)=(aX A).length from Nat.le_antisymm List.findIdx_le_length h)
  exact List.find?_eq_none.2 fun x hx=>by rw [show (B.all fun y=>lQ s (aY (aw x.1 x.2 y) 0))=false from J x hx]; decide
def eK:aG:={ ι:=((List PV × Nat) × (List PV × Nat)) × Bool,args:=fun i=>[.slice (some ⟨0,0,none⟩) i.1.1.1.length i.1.1.2,.slice (some ⟨1,0,none⟩) i.1.2.1.length i.1.2.2,.bool i.2],ae:=fun i=>[.flat false i.1.1.1.length 6 (bS i.1.1.1),.flat false i.1.2.1.length 6 (bS i.1.2.1)],pre:=fun i=>(i.1.1.1.length≤1099511627776∧∀ v∈i.1.1.1,v.sz 2048)∧i.1.2.1.length≤1099511627776∧∀ v∈i.1.2.1,v.sz 2048,val:=fun i=>.int .i64 (jt i.2 (ay i.1.1.1) (ay i.1.2.1)),new:=fun _=>none }
def nK:aG:={ ι:=(List PV × Nat) × (List PV × Nat),args:=fun i=>[.slice (some ⟨0,0,none⟩) i.1.1.length i.1.2,.slice (some ⟨1,0,none⟩) i.2.1.length i.2.2],ae:=fun i=>[.flat false i.1.1.length 6 (bS i.1.1),.flat false i.2.1.length 6 (bS i.2.1)],pre:=fun i=>(i.1.1.length≤1099511627776∧∀ v∈i.1.1,v.sz 2048)∧i.2.1.length≤1099511627776∧∀ v∈i.2.1,v.sz 2048,val:=fun i=>.bool (dQ true (ay i.1.1) (ay i.2.1)).isNone,new:=fun _=>none }
theorem FP {s:Bool} {A B:List Q2}:jt s A B < 0↔eF s A B=none:=by
 rcases EC s A B with ⟨h1,J⟩ | ⟨j,e,h1,_,_,J⟩
 ·rw [h1,J]; simp
 ·rw [h1,J]; simp
theorem Ff {s:Bool} {A B:List Q2}:dQ s A B=none↔eF s A B=none∧eF s B A=none:=by
 unfold dQ
 cases eF s A B <;> simp
theorem MT {s:Bool} {A B:List Q2} {z w:Int} (h1:z < 0) (hz:z=jt s A B) (hw:w=jt s B A):decide (w < 0)=(dQ s A B).isNone:=by
 rw [Bool.eq_iff_iff,Option.isNone_iff_eq_none,Ff,decide_eq_true_eq,hw,FP]
 exact ⟨fun h=>⟨FP.1 (by rw [← hz]; exact h1),h⟩,fun h=>h.2⟩
theorem MU {s:Bool} {A B:List Q2} {z:Int} (h1:¬ z < 0) (hz:z=jt s A B):false=(dQ s A B).isNone:=by
 rw [Bool.eq_iff_iff,Option.isNone_iff_eq_none,Ff]
 exact Iff.intro (fun h=>nomatch h) (fun h=>absurd (FP.2 h.1) (by rw [← hz]; exact h1))
theorem pG {A B:List PV} {z:Bool} (h:decide (aW A=0∧aW B=0)=z):Value.bool (decide (aW A=0∧aW B=0))=.bool z:=by rw [h]
theorem vQ {B:List PV}:decide (aW []=0∧aW B=0)=false:=decide_eq_false fun e=>by have:=e.1; cases this
theorem Fg {B:List PV}:decide (aW B=0∧aW []=0)=false:=decide_eq_false fun e=>by have:=e.2; cases this
theorem Gh {s:Bool} {A B:List PV} {z:Bool} (h:aW A=0∧aW B=0) (J:z=(dQ s (ay A) (ay B)).isNone):ck s A B=(z,0):=by unfold ck; rw [if_pos h,J]
theorem U2 {A B:List PV} (h:aW A=0∧aW B=0) (J:eF true (ay A) (ay B)=none) (h3:eF true (ay B) (ay A)=none):dm A B=(jq,6):=by
 unfold dm
 rw [if_pos h,Ff.2 ⟨J,h3⟩]
theorem Wl {A B:List PV} {a b:PV} (h:aW A=0∧aW B=0) (ha:a∈A) (hb:b∈A) (J:eF true (ay A) (ay B)=some (a.p,b.p)):dm A B=((a,b),0):=by
 unfold dm dQ
 rw [if_pos h,J]
 show ((cB a.p,cB b.p),(0:Int))=_
 rw [← qY (xX h.1) ha,← qY (xX h.1) hb]
theorem Wm {A B:List PV} {a b:PV} (h:aW A=0∧aW B=0) (ha:a∈B) (hb:b∈B) (J:eF true (ay A) (ay B)=none) (h3:eF true (ay B) (ay A)=some (a.p,b.p)):dm A B=((a,b),0):=by
 unfold dm dQ
 rw [if_pos h,J]
 show (match eF true (ay B) (ay A) with | some e=>(IE e,(0:Int)) | none=>(jq,6))=_
 rw [h3]
 show ((cB a.p,cB b.p),(0:Int))=_
 rw [← qY (xX h.2) ha,← qY (xX h.2) hb]
end Go.Ae
/- Convex rings: the examples, and what the laws call. -/
namespace Go.Ae
open Go
/-! lists of whole numbers -/
abbrev II:=List (Int × Int)
def iq (x:Int × Int):Q2:=((x.1:Rat),(x.2:Rat))
def bB (l:II):List Q2:=l.map iq
def qF (l:II) (k:Nat):Int × Int:=l.getD k (0,0)
def mU (l:II) (r:Nat):List Value:=[.int .i64 (if r % 2=0 then (qF l (r / 2)).1 else (qF l (r / 2)).2)]
def ic:aG:={ ι:=II,args:=fun i=>[.slice (some ⟨0,0,none⟩) (2*i.length) (2*i.length)],ae:=fun i=>[.flat false (2*i.length) 1 (mU i)],pre:=fun i=>(0 < i.length∧i.length≤1000000)∧∀ x∈i,x.1.natAbs < 256∧x.2.natAbs < 256,val:=fun i=>.slice (some ⟨1,0,none⟩) i.length aN,new:=fun i=>some (.flat true i.length 6 (cc (bB i))) }
theorem Mf {l:II} {j:Nat} {x:Int × Int} (h:x=qF l j):mU l (2*j)=[.int .i64 x.1]:=by
 unfold mU
 rw [if_pos (by omega),show 2*j / 2=j by omega,h]
theorem Mg {l:II} {j:Nat} {x:Int × Int} (h:x=qF l j):mU l (2*j+1)=[.int .i64 x.2]:=by
 unfold mU
 rw [if_neg (by omega),show (2*j+1) / 2=j by omega,h]
theorem MV {l:II} {j:Nat} (h:j < l.length):qF l j∈l∧l[j]?=some (qF l j):=by
 unfold qF
 rw [List.getD_eq_getElem?_getD,List.getElem?_eq_getElem h]
 exact ⟨List.getElem_mem h,rfl⟩
theorem Mh {l:II} {j:Nat} {x:Int × Int} (h:l[j]?=some x):bB (l.take (j+1))=bB (l.take j)++[iq x]:=by
 unfold bB
 rw [List.take_add_one,h,List.map_append]
 rfl
theorem A5 (l:II) (rows:List (List Value)) (h:rows=(List.range (2*l.length)).map (mU l)):aA (.flat false (2*l.length) 1 (mU l)) (.aQ true 1 rows) :=
 E4 (by rw [h]; simp) (fun r hr=>by
  rw [h,List.getD_eq_getElem?_getD,List.getElem?_map,List.getElem?_range hr]
  rfl) (fun r hr=>rfl)
theorem ED (x:Q2):(cB x).canon:=⟨by show RV.of x.1=RV.of (RV.of x.1).q; rw [RV.ik],by show RV.of x.2=RV.of (RV.of x.2).q; rw [RV.ik]⟩
/-! the examples -/
def dz:II:=[(0,0),(4,0),(4,4),(0,4)]
def jA:II:=[(3,3),(7,3),(3,7)]
def jY:II:=[(4,1),(6,1),(4,3)]
def jB:II:=[(3,3),(4,3),(4,4),(3,4)]
theorem v9 (L:List Q2):ay (bJ L)=L:=by
 unfold bJ ay
 rw [List.map_map]
 refine (List.map_congr_left (fun p hp=>?_)).trans (List.map_id L)
 exact ig p
theorem Tx {L:List Q2}:∀ p∈bJ L,p.canon:=fun p hp=>by
 obtain ⟨x,_,rfl⟩:=List.mem_map.1 hp
 exact ED x
theorem Gi {l:II} (h1:3≤l.length∧l.length≤64) (J:Cv (bB l)=true) (h3:B8 (bB l)=true):aW (bJ (bB l))=0:=by
 unfold aW
 rw [if_neg (by rw [KE]; unfold bB; rw [List.length_map]; omega),if_neg (fun e=>by obtain ⟨p,hp,hc⟩:=List.any_eq_true.1 e; exact of_decide_eq_true hc (Tx p hp)),v9,if_pos J,if_pos h3]
theorem FQ:aW (bJ (bB dz))=0:=Gi (by decide) (by decide +kernel) (by decide +kernel)
theorem Wn:aW (bJ (bB jA))=0:=Gi (by decide) (by decide +kernel) (by decide +kernel)
theorem Wo:aW (bJ (bB jY))=0:=Gi (by decide) (by decide +kernel) (by decide +kernel)
theorem U3:B7 (bB dz) (bB jA)=bB jB:=by decide +kernel
theorem NX:g7 (bJ (bB dz)) (bJ (bB jA))=(bB jB,0):=by
 unfold g7
 rw [if_pos ⟨FQ,Wn⟩,v9,v9,U3]
 exact Nw (by decide) (by decide)
theorem YR:dm (bJ (bB dz)) (bJ (bB jY))=((cB (iq (4,0)),cB (iq (4,4))),0):=by
 unfold dm
 rw [if_pos ⟨FQ,Wo⟩,v9,v9,show dQ true (bB dz) (bB jY)=some (iq (4,0),iq (4,4)) by decide +kernel]
 rfl
theorem YT:gX (bJ (bB dz)) (cB (iq (-2,1)),cB (iq (6,1)))=((RV.of (1 / 4),RV.of (3 / 4)),true,0):=by
 unfold gX
 rw [if_pos ⟨FQ,ED _,ED _⟩,v9]
 show (match pY (bB dz) (cB (iq (-2,1))).p (cB (iq (6,1))).p with | some (lo,hi)=>((RV.of lo,RV.of hi),true,(0:Int)) | none=>((dv,dv),false,0))=_
 rw [ig,ig,show pY (bB dz) (iq (-2,1)) (iq (6,1))=some (1 / 4,3 / 4) by decide +kernel]
theorem aa3 {A B:List PV} (hA:∀ v∈A,v.sz 12) (hB:∀ v∈B,v.sz 12):Cw A B:=fun h1 J=>by
 have a:=jd h1
 have b:=jd J
 refine V4 (S:=rB (ay A)) b.2.2.1 (fun m hm=>Q3.mono (L7 (k:=12) (rn hA (by decide)) m hm) (by decide)) (fun m hm=>Q3.mono (L7 (k:=12) (rn hB (by decide)) m hm) (by decide)) (by rw [Lj,b8,b8]; omega) (.inr ⟨a.2.2.1,a.2.2.2,UT a.2.2.1⟩)
theorem GR {l:II} (h:∀ x∈l,x.1.natAbs < 256∧x.2.natAbs < 256):∀ v∈bJ (bB l),v.sz 12:=fun v hv=>by
 obtain ⟨x,hx,rfl⟩:=List.mem_map.1 hv
 obtain ⟨y,hy,rfl⟩:=List.mem_map.1 hx
 exact wm (uo y.1 y.2 (h y hy).1 (h y hy).2) (by decide)
theorem OK {L:List PV} (h:∀ v∈L,v.sz 12):∀ v∈L,v.sz 2048:=fun v hv=>PV.a8 (h v hv) (by decide)
theorem Gj {l:II} {c:Nat} (h:∀ x∈l,x.1.natAbs < 256∧x.2.natAbs < 256) (hl:l.length≤1000):PL.fit (some (bJ (bB l),c)):=⟨by show (bJ (bB l)).length≤_; rw [KE]; unfold bB; rw [List.length_map]; omega,OK (GR h)⟩
theorem Mi {c:Nat}:jl.val (some (bJ (bB dz),c),some (bJ (bB jA),c))=.tuple ⟨[.slice (some ⟨2,0,none⟩) 4 aN,.int .i64 0]⟩∧jl.new (some (bJ (bB dz),c),some (bJ (bB jA),c))=some (.flat true 4 6 (cc (bB jB))):=by
 refine ⟨?_,?_⟩
 ·show Value.tuple ⟨[eU 2 (g7 (bJ (bB dz)) (bJ (bB jA))).1.length,.int .i64 (g7 (bJ (bB dz)) (bJ (bB jA))).2]⟩=_
  rw [NX]; rfl
 ·show c8 (g7 (bJ (bB dz)) (bJ (bB jA))).1=_
  rw [NX]; rfl
theorem Wp {c:Nat} {a b:PV} (ha:a=cB (iq (4,0))) (hb:b=cB (iq (4,4))):bP.val (some (bJ (bB dz),c),some (bJ (bB jY),c))=.tuple ⟨[XV.v (a,b),.int .i64 0]⟩:=by
 show Value.tuple ⟨[(dm (bJ (bB dz)) (bJ (bB jY))).1.v,.int .i64 (dm (bJ (bB dz)) (bJ (bB jY))).2]⟩=_
 rw [YR,ha,hb]
theorem Wq {c:Nat} {a b:PV} {x y:RV} (ha:a=cB (iq (-2,1))) (hb:b=cB (iq (6,1))) (hx:x=RV.of (1 / 4)) (hy:y=RV.of (3 / 4)):mf.val (some (bJ (bB dz),c),(a,b))=.tuple ⟨[x.v,y.v,.bool true,.int .i64 0]⟩:=by
 show Value.tuple ⟨[(gX (bJ (bB dz)) (a,b)).1.1.v,(gX (bJ (bB dz)) (a,b)).1.2.v,.bool (gX (bJ (bB dz)) (a,b)).2.1,.int .i64 (gX (bJ (bB dz)) (a,b)).2.2]⟩=_
 rw [ha,hb,YT,hx,hy]
/-! the laws -/
def mc:aG:={ ι:=lO,args:=fun i=>[i.1.val,i.2.tZ i.1.ae.length],ae:=fun i=>i.1.ae++i.2.ae,pre:=fun i=>i.1.list.length*80≤140737488351232∧i.2.list.length*80≤140737488351232,val:=fun _=>.bool true,new:=fun _=>none }
theorem aa4 {L:List PV} (h:jm L=false):L.length≤66∧∀ p∈L,p.sz 12:=by
 have:=Tu h
 exact ⟨by omega,this.2⟩
theorem cN {L:List PV} (h:jm L=false):L.length≤1099511627776∧∀ v∈L,v.sz 2048:=by
 have:=aa4 h
 exact ⟨by omega,OK this.2⟩
end Go.Ae
/- The arguments of a statement, opened: structs of plain cells. -/
namespace Go.Ae
open Go Go.RowKit
section
variable {P:Program} {w:World} {r:Reach} {base:Nat} {t:TypeId} {v:Value}
end
end Go.Ae
/- The arguments of a statement, opened: slices of points. -/
namespace Go.Ae
open Go Go.RowKit Go.ChangeShapes Go.WideShapes Go.ChangeAt
theorem Qo {P:Program} {f:FuncId} {S:aG} (h:cZ P f S) {i:S.ι} (hp:S.pre i) {IF:List Value} {ν:Nu} {w:World} (ha:bh ν (S.args i) IF) (hH:bT ν ((S.ae i).map some) w)
  (hν:∀ id,(S.ae i).length≤id→ν id=none) {b:Bool} (hv:S.val i=.bool b) :
  Calls P f ⟨IF⟩ w fun e w'=>e=.returned (.bool b)∧Below w.heap.size w w':=by
 have h1:=h.calls i hp ν IF w 0 ha hH hν
 rw [callsIn_wide] at h1
 refine h1.mono fun e w' ⟨v',aj,he,hq⟩=>⟨?_,hq.below⟩
 have hr:=hq.val
 rw [hv] at hr
 rw [he,hr.j5]
section
variable {H:Type} {enc:TypeId × Value→H} {P:Program} {w:World} {base:Nat} {spare:Nat→Bool} {held:Bool}
/-- The types of a point. -/
structure Cx (P:Program) (tr tp b s:TypeId):Prop where
 rat:∃ f0 f1 f2,P.underlying tr=some (.struct #[f0,f1,f2])∧(f0.type=b∧f0.offset=0)∧(f1.type=s∧f1.offset=1)∧f2.type=s∧f2.offset=2
 pt:∃ f0 f1,P.underlying tp=some (.struct #[f0,f1])∧(f0.type=tr∧f0.offset=0)∧f1.type=tr∧f1.offset=3
 bool:P.underlying b=some .bool
 str:P.underlying s=some .string
 cr:P.cellsOf tr=3
 cp:P.cellsOf tp=6
 cb:P.cellsOf b=1
 cs:P.cellsOf s=1
theorem Mj {tr tp b s:TypeId} (T:Cx P tr tp b s) {n:Nat} {l:List Value} {y:DataW H × List MemPlace} (h:DataW.trod enc P w base spare held n tr l=some y):∃ i:RV,l=i.cells:=by
 obtain ⟨f0,f1,f2,hu,⟨t0,o0⟩,⟨t1,o1⟩,t2,o2⟩:=T.rat
 obtain ⟨y0,y1,y2,m,_,hl,h0,h1,J⟩:=Deep.trod_struct3 hu h
 rw [T.cr] at hl
 rw [t0,o0,T.cb] at h0
 rw [t1,o1,T.cs] at h1
 rw [t2,o2,T.cs] at J
 match l,hl with
 | [x,y,z],_ =>
  obtain ⟨b,e0,_⟩:=DataW.trod_bool T.bool h0
  obtain ⟨s1,e1,_⟩:=DataW.trod_string T.str h1
  obtain ⟨s2,e2,_⟩:=DataW.trod_string T.str J
  simp at e0 e1 e2
  subst e0; subst e1; subst e2
  exact ⟨(b,s1,s2),rfl⟩
theorem Wr {tr tp b s:TypeId} (T:Cx P tr tp b s) {n:Nat} {l:List Value} {y:DataW H × List MemPlace} (h:DataW.trod enc P w base spare held n tp l=some y):∃ p:PV,l=p.cells:=by
 obtain ⟨f0,f1,hu,⟨t0,o0⟩,t1,o1⟩:=T.pt
 obtain ⟨y0,y1,m,_,hl,h0,h1⟩:=trod_struct2 hu h
 rw [T.cp] at hl
 rw [t0,o0,T.cr] at h0
 rw [t1,o1,T.cr] at h1
 obtain ⟨i,e0⟩:=Mj T h0
 obtain ⟨j,e1⟩:=Mj T h1
 match l,hl with
 | [x,y,z,x',y',z'],_ =>
  have e0:[x,y,z]=i.cells:=e0
  have e1:[x',y',z']=j.cells:=e1
  refine ⟨(i,j),?_⟩
  show [x,y,z]++[x',y',z']=i.cells++j.cells
  rw [e0,e1]
end
end Go.Ae
/- Arguments of a statement: a line. -/
namespace Go.Ae
open Go Go.RowKit Go.ChangeShapes Go.WideShapes Go.ChangeAt
section
variable {P:Program} {w:World} {r:Reach} {base:Nat} {t:TypeId} {v:Value}
end
/-- The types of a line. -/
structure adb (P:Program) (tr tn:TypeId):Prop where
 ln:∃ f0 f1 f2,P.underlying tn=some (.struct #[f0,f1,f2])∧(f0.type=tr∧f0.offset=0)∧(f1.type=tr∧f1.offset=3)∧f2.type=tr∧f2.offset=6
 cn:P.cellsOf tn=9
section
variable {H:Type} {enc:TypeId × Value→H} {P:Program} {w:World} {base:Nat} {spare:Nat→Bool} {held:Bool}
end
end Go.Ae
/- Arguments of a statement: two slices of points. -/
namespace Go.Ae
open Go Go.RowKit Go.ChangeShapes Go.WideShapes Go.ChangeAt
section
variable {H:Type} {enc:TypeId × Value→H} {P:Program} {w:World} {base:Nat} {spare:Nat→Bool} {held:Bool}
theorem JI {tl tr tp b s:TypeId} (T:Cx P tr tp b s) (ht:P.underlying tl=some (.slice tp)) {v:Value} {d:DataW H} {ps:List MemPlace} {r:Reach} {b0:Nat} (hv:Value.okWide P w r b0 tl v)
  (h:DataW.Trod enc P w base (fun _=>true) held tl v d ps) :
  ∃ (i:PL) (ν:Nu),i.list.length≤9223372036854775807∧(∀ B m,(∀ elems spare,d=.slice elems spare→(elems.length+spare.length)*B≤m)→i.list.length*B≤m)∧an ν i.val v∧bT ν (i.ae.map some) w∧∀ id,i.ae.length≤id→ν id=none:=by
 obtain ⟨a0,oJ,acJ,rfl⟩:=okWide_slice ht hv
 obtain ⟨fuel,hf⟩:=h
 rcases Deep.open_slice ht hf with ⟨zM,_⟩ | ⟨a,len,cap,m,n,D,Pl,zM,hb,hl,hm,mC,hd,hx⟩
 ·simp [Value.cells] at zM
  obtain ⟨rfl,rfl,rfl⟩:=zM
  refine ⟨none,fun _=>none,Nat.zero_le _,fun B m _=>by show 0*B≤m; omega,.iF,⟨fun id b h=>by simp [PL.ae] at h,fun i j bi bj li lj h=>by simp [PL.ae] at h⟩,fun _ _=>rfl⟩
 ·simp [Value.cells] at zM
  obtain ⟨rfl,rfl,rfl⟩:=zM
  have mC:m=acJ:=mC
  subst mC
  simp only [Value.okWide,ht,Cell.okWide,Cell.ok] at hv
  obtain ⟨_,_,_,qH,row,cells,Gk,_⟩:=hv
  have Gt:a.block < w.heap.size:=by
   unfold World.shape? at Gk
   split at Gk
   ·rename_i hh
    exact (Array.getElem?_eq_some_iff.1 hh).1
   ·cases Gk
  obtain ⟨V,hV⟩:=Deep.choose_lt (α:=PV) (n:=m) (p:=fun i p=>∀ j,j < 6→w.cell? ((a.add (i*6)).add j)=p.cells[j]?) (fun i hi=>by
   obtain ⟨eL,h1,J⟩:=hx i hi
   rw [T.cp] at h1
   obtain ⟨p,rfl⟩:=Wr T J
   obtain ⟨_,_,hc⟩:=World.cells?_some h1
   exact ⟨p,hc⟩)
  have hlm:oJ≤m:=hl
  refine ⟨some ((List.range oJ).map V,aN),fun id=>if id=0 then some ⟨a.block,a.off,6,m⟩ else none,?_,?_,?_,⟨fun id b bu=>?_,fun i j bi bj li lj h1 J h3 h4=>?_⟩,fun id bu=>?_⟩
  ·show ((List.range oJ).map V).length≤_
   have fa:m≤9223372036854775807:=hm
   rw [List.length_map,List.length_range]
   omega
  ·intro B M hB
   have hd:=hB _ _ (congrArg Prod.fst hd)
   show ((List.range oJ).map V).length*B≤M
   rw [List.length_map,List.length_range]
   refine Nat.le_trans (Nat.mul_le_mul_right _ ?_) hd
   simp
  ·have e:a=Loc.at ⟨a.block,a.off,6,m⟩ 0 0:=by
    obtain ⟨b0,o0,s0⟩:=a
    have:s0=none:=qH
    subst this
    simp [Loc.at]
   have:=an.slice (ν:=fun id=>if id=0 then some ⟨a.block,a.off,6,m⟩ else none) 0 0 oJ aN m ⟨a.block,a.off,6,m⟩ rfl (.inr rfl) hlm (by simp)
   rw [← e] at this
   show an _ (.slice (some ⟨0,0,none⟩) ((List.range oJ).map V).length aN) _
   rw [List.length_map,List.length_range]
   exact this
  ·cases id with
   | succ id=>simp [PL.ae] at bu
   | zero =>
    simp [PL.ae] at bu
    subst bu
    refine ⟨_,rfl,⟨rfl,fun r hr=>rfl,fun r hr j v xn=>?_,fun _ r hr v hv=>?_,fun r hr v hv=>?_,fun h=>(by cases h),(fun r h=>by cases h),Gt⟩⟩
    ·have fi:r < oJ:=hr
     have hr:r < ((List.range oJ).map V).length:=by rw [List.length_map,List.length_range]; exact fi
     obtain ⟨p,hp,_,a9⟩:=qU hr
     have hpV:V r=p:=by
      rw [List.getElem?_map,List.getElem?_range fi] at hp
      simpa using hp
     have xn:(bS ((List.range oJ).map V) r)[j]?=some v:=xn
     rw [a9] at xn
     have hj:j < 6:=(List.getElem?_eq_some_iff.1 xn).1
     have hc:=hV r (by omega) j hj
     rw [hpV,xn] at hc
     refine ⟨v,?_,?_⟩
     ·rw [← hc]
      congr 1
      obtain ⟨b0,o0,s0⟩:=a
      have:s0=none:=qH
      subst this
      by_cases J:r*6=0
      ·have h3:r=0:=by omega
       by_cases h1:j=0 <;> simp [Loc.at,Addr.add,h1,h3]
      ·by_cases h1:j=0 <;> simp [Loc.at,Addr.add,h1,J,Nat.add_assoc]
     ·have hs:mj p.cells=true:=rfl
      exact an.j3 (dG hs v (List.mem_of_getElem? xn))
    ·exact dG (Ky _ r) v hv
    ·have:=dG (Ky ((List.range oJ).map V) r) v hv
     cases v <;> first | rfl | simp [cO] at this
  ·cases i with
   | succ i=>simp [PL.ae] at h1
   | zero =>
    cases j with
    | zero=>exact absurd rfl h3
    | succ j=>simp [PL.ae] at J
  ·have:id≠0:=by
    intro e; subst e
    have bu:1≤0:=bu
    omega
   simp [this]
end
/-- Two lists, one behind the other. -/
theorem aa5 {w:World} {i1 i2:PL} {dR qk:Nu} {v1 v2:Value} (h1:an dR i1.val v1) (H1:bT dR (i1.ae.map some) w) (n1:∀ id,i1.ae.length≤id→dR id=none) (J:an qk i2.val v2) (H2:bT qk (i2.ae.map some) w) (n2:∀ id,i2.ae.length≤id→qk id=none) :
  ∃ ν:Nu,bT ν ((i1.ae++i2.ae).map some) w∧(∀ id,(i1.ae++i2.ae).length≤id→ν id=none)∧an ν i1.val v1∧an ν (i2.tZ i1.ae.length) v2:=by
 have own:∀ i:PL,∀ b∈i.ae,b.own=false∧b.iR=true∧b.rc=none:=fun i b hb=>by
  cases i with
  | none=>cases hb
  | some i=>rw [List.mem_singleton.1 hb]; exact ⟨rfl,rfl,rfl⟩
 have fJ:∀ {ν aj:Nu} {l:Loc} {b:ai},b.iR=true→bQ ν l b w→bQ aj l b w:=fun {ν aj l b} hf h =>
  ⟨h.ah,h.len,fun r hr j v hv=>by
   obtain ⟨v',hc,iI⟩:=h.cell r hr j v hv
   have hs:=h.plain hf r hr v (List.mem_of_getElem? hv)
   rw [iI.j4 hs] at hc
   exact ⟨v,hc,an.j3 hs⟩,h.plain,h.one,h.own,h.lr,h.live⟩
 refine ⟨fun id=>if id < i1.ae.length then dR id else qk (id - i1.ae.length),⟨fun id b bu=>?_,fun i j bi bj li lj hi hj aK ho=>?_⟩,fun id bu=>?_,?_,?_⟩
 ·rw [List.getElem?_map] at bu
  obtain ⟨b',bD,e⟩:=Option.map_eq_some_iff.1 bu
  obtain rfl:b'=b:=Option.some.inj e
  by_cases h:id < i1.ae.length
  ·rw [List.getElem?_append_left h] at bD
   obtain ⟨l,hl,hr⟩:=H1.aH id b' (by rw [List.getElem?_map,bD]; rfl)
   exact ⟨l,by rw [if_pos h]; exact hl,fJ (own _ _ (List.mem_of_getElem? bD)).2.1 hr⟩
  ·rw [List.getElem?_append_right (by omega)] at bD
   obtain ⟨l,hl,hr⟩:=H2.aH (id - i1.ae.length) b' (by rw [List.getElem?_map,bD]; rfl)
   exact ⟨l,by rw [if_neg h]; exact hl,fJ (own _ _ (List.mem_of_getElem? bD)).2.1 hr⟩
 ·rw [List.getElem?_map] at hi
  obtain ⟨b',bD,e⟩:=Option.map_eq_some_iff.1 hi
  obtain rfl:b'=bi:=Option.some.inj e
  have:b'.own=false:=by
   rcases List.mem_append.1 (List.mem_of_getElem? bD) with h | h
   ·exact (own _ _ h).1
   ·exact (own _ _ h).1
  rw [this] at ho
  cases ho
 ·rw [List.length_append] at bu
  show (if id < i1.ae.length then dR id else qk (id - i1.ae.length))=none
  rw [if_neg (by omega)]
  exact n2 _ (by omega)
 ·cases i1 with
  | none=>cases h1; exact .iF
  | some i =>
   obtain ⟨L,c0⟩:=i
   have h1:an dR (.slice (some ⟨0,0,none⟩) L.length c0) v1:=h1
   show an _ (.slice (some ⟨0,0,none⟩) L.length c0) v1
   generalize L.length=k at h1 ⊢
   cases h1 with
   | slice id row n c c' l h hc hn hr=>exact .slice _ _ _ _ _ l (by show (if 0 < 1 then dR 0 else _)=_; exact h) hc hn hr
   | void id row c a hc=>exact .void _ _ _ a hc
 ·cases i2 with
  | none=>cases J; exact .iF
  | some i =>
   obtain ⟨L,c0⟩:=i
   have J:an qk (.slice (some ⟨0,0,none⟩) L.length c0) v2:=J
   show an _ (.slice (some ⟨i1.ae.length,0,none⟩) L.length c0) v2
   generalize L.length=k at J ⊢
   cases J with
   | slice id row n c c' l h hc hn hr=>exact .slice _ _ _ _ _ l (by show (if i1.ae.length < i1.ae.length then _ else qk (i1.ae.length - i1.ae.length))=_; rw [if_neg (by omega),Nat.sub_self]; exact h) hc hn hr
   | void id row c a hc=>exact .void _ _ _ a hc
end Go.Ae
