import Derived.WalkKit
import Derived.ProofKit
import Derived.OpenShut
import Derived.ShutString
import Derived.ChangeOld
import Derived.Below
import Derived.Deep.Slices
import Derived.Deep.Strs
import Derived.SizedLaws
import Derived.Test.YtlapbjdhekcipaaGreatPD
set_option linter.unusedVariables false
set_option linter.unusedSimpArgs false
/- Convex rings: cut one after the other by the edges of another ring. -/
namespace Go.Ae
open Go
theorem wD (a b p:Q2):bd (eE a b) p=au a b p:=by simp only [kj,eV,eE]; grind
theorem Mg {a b:Q2} (h:a≠b):mg (eE a b):=fun e=>h (Prod.ext (by have:=e.2; unfold eE at this; grind) (by have:=e.1; unfold eE at this; grind))
theorem Vb {m:Q3} {x y z:Q2} (hx:bd m x=0) (hy:bd m y=0) (aI:x≠y) (h:au x y z=0):bd m z=0:=by
 rw [kj] at *
 rw [eV] at h
 by_cases h0:y.1 - x.1=0
 ·have h1:y.2 - x.2≠0:=fun e=>aI (Prod.ext (by grind) (by grind))
  have:(y.2 - x.2)*(m.1*z.1+m.2.1*z.2 - m.2.2)=0:=by grind
  exact (Rat.mul_eq_zero.1 this).resolve_left h1
 ·have:(y.1 - x.1)*(m.1*z.1+m.2.1*z.2 - m.2.2)=0:=by grind
  exact (Rat.mul_eq_zero.1 this).resolve_left h0
theorem MY {m:Q3} (hm:mg m) {a b c:Q2} (ha:bd m a=0) (hb:bd m b=0) (hc:bd m c=0):au a b c=0 :=
 Bm (P:=[a,b,c]) ⟨m,hm,fun v hv=>by simp at hv; rcases hv with rfl | rfl | rfl <;> assumption⟩ (by simp) (by simp) (by simp)
theorem Sw {P:List Q2} {v:Q2} (h:v∈P) (hw:∃ w∈P,w≠v):∃ y,(v,y)∈bg P∧v≠y:=by
 obtain ⟨w,hw,aI⟩:=hw
 obtain ⟨A,B,rfl⟩:=List.append_of_mem h
 obtain ⟨y,h1,J⟩:=leave (v:=v) (B++A) ⟨w,by
  rcases List.mem_append.1 hw with h | h
  ·exact List.mem_append_right _ h
  ·rcases List.mem_cons.1 h with h | h
   ·exact absurd h aI
   ·exact List.mem_append_left _ h,aI⟩
 exact ⟨y,AO (A:=v::B) (J8 (m:=[v]) h1),J⟩
theorem Sx {P:List Q2} (hT:bG P):(Flat P∧fw P=[])∨(¬ Flat P∧Ring (fw P)∧kS (fw P)∧il (fw P) P∧∀ v∈fw P,v∈P):=by
 by_cases hF:Flat P
 ·exact .inl ⟨hF,(TG hF).1⟩
 ·have hc:=KL hT hF
  rw [(Wa hT hF).1]
  refine .inr ⟨hF,TJ hc,fun i h0 hi=>?_,(il.om fun v=>th).trans (D1 hT hF).1,fun v hv=>(EH P).subset (th.1 hv)⟩
  have:=RB hc hi h0
  have hle:ia (aC (eF (fj P)) 0) (aC (eF (fj P)) i):=tC.2 (by omega)
  have aI:aC (eF (fj P)) 0≠aC (eF (fj P)) i:=fun e=>by rw [e,n9.2 rfl] at this; omega
  rcases hle with h | ⟨h,h'⟩
  ·exact .inl h
  ·exact .inr ⟨h,Rat.lt_of_le_of_ne h' fun e=>aI (Prod.ext h e)⟩
/-- The ring's edges lie on the lines of the polygon's. -/
theorem Wf {S:Q3→Prop} {P C:List Q2} (hT:bG P) (hC:Ring C) (hs:il C P) (HD:∀ v∈C,v∈P) (h:∀ e∈bg P,mh S e):∀ e∈bg C,mh S e:=by
 rintro ⟨x,y⟩ he
 have qn:x≠y:=hC.ne _ he
 obtain ⟨x',h1,J⟩:=Sw (HD x (oZ he).1) ⟨y,HD y (oZ he).2,Ne.symm qn⟩
 have a:=o4 hT h1 (HD y (oZ he).2)
 have b:=EF hC.gh he ((hs x').2 (.om (oZ h1).2))
 rw [xU] at b
 obtain ⟨m,hm,hl,v1,v2⟩:=h _ h1
 exact ⟨m,hm,hl,v1,Vb v1 v2 J (by grind)⟩
theorem Wg {α:Type} [DecidableEq α]:∀ (n:Nat) (S:List α) (f:Nat→α),(∀ k,k < n→f k∈S)→(∀ i j,i < n→j < n→f i=f j→i=j)→n≤S.length:=by
 intro n
 induction n with
 | zero=>intro S f _ _; omega
 | succ n ih =>
  intro S f h1 J
  have hn:=h1 n (by omega)
  have:=ih (S.erase (f n)) f (fun k hk=>(List.mem_erase_of_ne fun e=>by have:=J k n (by omega) (by omega) e; omega).2 (h1 k (by omega))) (fun i j hi hj=>J i j (by omega) (by omega))
  rw [List.length_erase_of_mem hn] at this
  have:0 < S.length:=List.length_pos_of_mem hn
  omega
theorem Vc {S:List Q3} {C:List Q2} (hC:Ring C) (h:∀ e∈bg C,mh (·∈S) e):C.length≤S.length:=by
 have h3:=hC.three
 have hf:∀ k,∃ m:Q3,k < C.length→m∈S∧mg m∧bd m (aC C k)=0∧bd m (aC C (ba C.length k))=0:=fun k=>by
  by_cases hk:k < C.length
  ·obtain ⟨m,h⟩:=h _ (mB hk)
   exact ⟨m,fun _=>h⟩
  ·exact ⟨(0,0,0),fun h=>absurd h hk⟩
 obtain ⟨f,hf⟩:=Classical.axiomOfChoice hf
 refine Wg C.length S f (fun k hk=>(hf k hk).1) fun i j hi hj e=>Decidable.byContradiction fun aI=>?_
 obtain ⟨_,hl,i1,i2⟩:=hf i hi
 obtain ⟨_,_,j1,j2⟩:=hf j hj
 rw [← e] at j1 j2
 have hx:∀ a b c,a < C.length→b < C.length→c < C.length→a≠b→a≠c→b≠c→bd (f i) (aC C a)=0→bd (f i) (aC C b)=0→bd (f i) (aC C c)=0→False:=fun a b c ha hb hc dT zJ oJ va vb vc =>
  Ab (hC.ext.1 (eU ha)) (hC.ext.1 (eU hb)) (hC.ext.1 (eU hc)) (fun e=>dT (we hC.nodup ha hb e)) (fun e=>zJ (we hC.nodup ha hc e)) (fun e=>oJ (we hC.nodup hb hc e)) (MY hl va vb vc)
 by_cases h1:ba C.length i=j
 ·subst h1
  refine hx i _ _ hi hj (cR hj) aI (fun e=>?_) (Ne.symm (wA hj (by omega))) i1 i2 j2
  unfold ba at e
  rcases Nat.lt_or_ge (i+1) C.length with h | h
  ·rw [Nat.mod_eq_of_lt h] at e
   rcases Nat.lt_or_ge (i+1+1) C.length with h' | h'
   ·rw [Nat.mod_eq_of_lt h'] at e; omega
   ·rw [show i+1+1=C.length by omega,Nat.mod_self] at e; omega
  ·rw [show i+1=C.length by omega,Nat.mod_self,Nat.mod_eq_of_lt (by omega)] at e; omega
 ·exact hx i j _ hi hj (cR hi) aI (Ne.symm (wA hi (by omega))) (Ne.symm h1) i1 j1 i2
theorem Wh {k:Nat} {C:List Q2} (hC:Ring C) (h:∀ e∈bg C,mh (Q3.sz k) e):∀ v∈C,Q2.sz (8*k+2) v:=by
 intro v hv
 obtain ⟨i,hi,rfl⟩:=wc hv
 obtain ⟨l,sl,hl,l1,l2⟩:=h _ (re hi)
 obtain ⟨m,sm,hm,m1,m2⟩:=h _ (mB hi)
 have l2:bd l (aC C i)=0:=l2
 have m1:bd m (aC C i)=0:=m1
 have hd:pV l m≠0:=YY hl l1 l2 (fun e=>by
  have hc:=hC.wB i hi
  rw [MY hm (e.trans m1) m1 m2] at hc
  grind)
 rw [YX l2 m1 hd]
 exact Q2.mono (YW sl sm) (by omega)
/-! one after the other -/
def Ce (P:List Q2) (e:Q2 × Q2):List Q2:=fw (eY (eE e.1 e.2) P)
def Cf (P B:List Q2):List Q2:=(bg B).foldl Ce P
def iT (P B:List Q2) (j:Nat):List Q2:=((bg B).take j).foldl Ce P
theorem Sy {P B:List Q2} {j:Nat} {e:Q2 × Q2} (h:(bg B)[j]?=some e):iT P B (j+1)=Ce (iT P B j) e:=by
 unfold iT
 rw [List.take_add_one,h,List.foldl_append]; rfl
theorem TN (P B:List Q2):iT P B B.length=Cf P B:=by
 unfold iT Cf
 rw [← lG B,List.take_length]
/-- A ring that begins at its least point, with its edges on lines out of a list; or nothing. -/
def pW (S:Q3→Prop) (P:List Q2):Prop:=P=[]∨(Ring P∧kS P∧∀ e∈bg P,mh S e)
theorem TO {S:Q3→Prop} {P:List Q2} {e:Q2 × Q2} (aI:e.1≠e.2) (hS:S (eE e.1 e.2)) (h:pW S P):pW S (Ce P e):=by
 rcases h with rfl | ⟨hR,ho,C9⟩
 ·exact .inl rfl
 ·have hT:=UY (m:=eE e.1 e.2) hR.gh
  rcases Sx hT with ⟨_,h⟩ | ⟨_,h1,J,h3,h4⟩
  ·exact .inl h
  ·exact .inr ⟨h1,J,Wf hT h1 h3 h4 (YZ hS (Mg aI) C9)⟩
theorem Sz {S:Q3→Prop} {P B:List Q2} (hB:∀ e∈bg B,e.1≠e.2∧S (eE e.1 e.2)) (h:pW S P) (j:Nat):pW S (iT P B j):=by
 unfold iT
 have hl:∀ e∈(bg B).take j,e.1≠e.2∧S (eE e.1 e.2):=fun e he=>hB e (List.mem_of_mem_take he)
 revert hl
 generalize (bg B).take j=l
 intro hl
 induction l generalizing P with
 | nil=>exact h
 | cons e l ih=>exact ih (TO (hl e (List.mem_cons_self ..)).1 (hl e (List.mem_cons_self ..)).2 h) fun x hx=>hl x (List.mem_cons_of_mem _ hx)
theorem SA {S:List Q3} {k:Nat} {P:List Q2} (hk:∀ m∈S,Q3.sz k m) (h:pW (·∈S) P):P.length≤S.length∧∀ v∈P,Q2.sz (8*k+2) v:=by
 rcases h with rfl | ⟨hR,_,C9⟩
 ·exact ⟨Nat.zero_le _,fun v hv=>nomatch hv⟩
 ·exact ⟨Vc hR C9,Wh hR fun e he=>(C9 e he).imp fun m hm=>⟨hk m hm.1,hm.2⟩⟩
/-- The lines of a ring's edges. -/
def rB (P:List Q2):List Q3:=(bg P).map fun e=>eE e.1 e.2
theorem Lv (P:List Q2):(rB P).length=P.length:=by unfold rB; rw [List.length_map,lG]
theorem Lw {P:List Q2} {e:Q2 × Q2} (h:e∈bg P):eE e.1 e.2∈rB P:=List.mem_map_of_mem (f:=fun e:Q2 × Q2=>eE e.1 e.2) h
theorem Vd {P:List Q2} (h:Ring P):∀ e∈bg P,mh (·∈rB P) e:=fun e he=>⟨_,Lw he,Mg (h.ne e he),by rw [wD,rn],by rw [wD,ph]⟩
theorem Mh {P:List Q2} {k:Nat} (h:∀ v∈P,Q2.sz k v):∀ m∈rB P,Q3.sz (6*k+3) m:=fun m hm=>by
 obtain ⟨e,he,rfl⟩:=List.mem_map.1 hm
 have:=oZ he
 exact Q3.mono (Nz (h _ this.1) (h _ this.2)) (by omega)
theorem mh.mono {S T:Q3→Prop} {e:Q2 × Q2} (h:mh S e) (hs:∀ m,S m→T m):mh T e:=h.imp fun m hm=>⟨hs m hm.1,hm.2⟩
theorem pW.mono {S T:Q3→Prop} {P:List Q2} (h:pW S P) (hs:∀ m,S m→T m):pW T P:=h.imp id fun h=>⟨h.1,h.2.1,fun e he=>(h.2.2 e he).mono hs⟩
/-- What the walks want: the steps stay short and small. -/
def NF (P B:List Q2):Prop:=∀ j,j≤B.length→(iT P B j).length≤1073741824∧∀ v∈iT P B j,Q2.sz 2048 v
theorem Wi {S:List Q3} {P B:List Q2} (hB:Ring B) (hk:∀ m∈S,Q3.sz 255 m) (hl:∀ m∈rB B,Q3.sz 255 m) (hn:S.length+B.length≤1073741824) (h:pW (·∈S) P):NF P B:=fun j hj=>by
 have hm:=Sz (S:=(·∈S++rB B)) (B:=B) (fun e he=>⟨hB.ne e he,List.mem_append_right _ (Lw he)⟩) (h.mono fun m hm=>List.mem_append_left _ hm) j
 obtain ⟨h1,J⟩:=SA (k:=255) (fun m hm=>(List.mem_append.1 hm).elim (hk m) (hl m)) hm
 rw [List.length_append,Lv] at h1
 exact ⟨by omega,fun v hv=>Q2.mono (J v hv) (by decide)⟩
end Go.Ae
/- Contracts of convex rings. -/
namespace Go.Ae
open Go
/-! what is checked -/
def dm (l:List PV):Bool:=l.any fun p=>decide (¬ p.canon)
instance (a b:Q2):Decidable (iz a b):=inferInstanceAs (Decidable (_∨_))
def CD (Q:List Q2):Bool:=(List.range Q.length).all fun i=>decide (i=0∨iz (aC Q 0) (aC Q i))
instance (Q:List Q2) (i:Nat):Decidable (oo Q i):=inferInstanceAs (Decidable (_∨_))
def Cg (Q:List Q2):Bool:=(List.range Q.length).all fun i=>decide (¬ oo Q i)
theorem A4 {Q:List Q2}:CD Q=true↔kS Q:=by
 unfold CD kS
 rw [List.all_eq_true]
 constructor
 ·intro h i h0 hi
  exact (of_decide_eq_true (h i (List.mem_range.2 hi))).resolve_left (by omega)
 ·intro h i hi
  by_cases h0:i=0
  ·exact decide_eq_true (.inl h0)
  ·exact decide_eq_true (.inr (h i (by omega) (List.mem_range.1 hi)))
theorem EM {Q:List Q2} (h3:3≤Q.length) (ho:kS Q):Cg Q=true↔Ring Q:=by
 rw [xV h3 ho]
 unfold Cg
 rw [List.all_eq_true]
 exact ⟨fun h i hi=>of_decide_eq_true (h i (List.mem_range.2 hi)),fun h i hi=>decide_eq_true (h i (List.mem_range.1 hi))⟩
def bw (L:List PV):Int :=
 if L.length < 3∨64 < L.length then 4 else if dm L=true then 1 else if CD (aS L)=true then (if Cg (aS L)=true then 0 else 15) else 8
/-- What a list is that passes. -/
theorem o5 {L:List PV} (h:bw L=0):(3≤L.length∧L.length≤64)∧(∀ p∈L,p.canon)∧Ring (aS L)∧kS (aS L):=by
 unfold bw at h
 split at h
 ·cases h
 ·rename_i h1
  split at h
  ·cases h
  ·rename_i J
   split at h
   ·rename_i h3
    split at h
    ·rename_i h4
     have ho:=A4.1 h3
     exact ⟨by omega,fun p hp=>Decidable.byContradiction fun e=>J (List.any_eq_true.2 ⟨p,hp,decide_eq_true e⟩),(EM (by rw [c8]; omega) ho).1 h4,ho⟩
    ·cases h
   ·cases h
def HE (p:Q2) (o:Int) (e:Q2 × Q2):Int:=if aU (au e.1 e.2 p) 0 < o then aU (au e.1 e.2 p) 0 else o
def rL (Q:List Q2) (p:Q2):Int:=(bg Q).foldl (HE p) 1
def l8 (L:List PV) (p:PV):Int × Int:=if bw L=0∧p.canon then (rL (aS L) p.p,0) else (0,1)
def ux (R:List Q2):List Q2 × Int:=if R.length=0 then ([],11) else if 64 < R.length then ([],4) else (R,0)
def gN (A B:List PV):List Q2 × Int:=if bw A=0∧bw B=0 then ux (Cf (aS A) (aS B)) else ([],1)
/-- The sign of an orientation, when it tells the side. -/
def qE (s:Bool) (o:Int):Bool:=if s then decide (o≤0) else decide (o < 0)
def g7 (s:Bool) (A B:List Q2):Option (Q2 × Q2):=(bg A).find? fun e=>B.all fun x=>qE s (aU (au e.1 e.2 x) 0)
def jZ (s:Bool) (A B:List Q2):Option (Q2 × Q2):=match g7 s A B with
 | some e=>some e
 | none=>g7 s B A
def OZ (s:Bool) (A B:List PV):Bool × Int:=if bw A=0∧bw B=0 then ((jZ s (aS A) (aS B)).isNone,0) else (false,1)
def PZ (e:Q2 × Q2):XV:=(ck e.1,ck e.2)
def mU (A B:List PV):XV × Int:=if bw A=0∧bw B=0 then (match jZ true (aS A) (aS B) with | some e=>(PZ e,0) | none=>(mN,6)) else (mN,1)
/-- The bounds of the parameters of a segment, edge by edge. -/
def rX (a b:Q2) (st:Option (Rat × Rat)) (e:Q2 × Q2):Option (Rat × Rat) :=
 match st with
 | none=>none
 | some (lo,hi) =>
  if au e.1 e.2 b - au e.1 e.2 a=0 then (if au e.1 e.2 a≤0 then none else some (lo,hi))
  else if 0 < au e.1 e.2 b - au e.1 e.2 a then some (jB lo (-au e.1 e.2 a / (au e.1 e.2 b - au e.1 e.2 a)),hi)
  else some (lo,jC hi (-au e.1 e.2 a / (au e.1 e.2 b - au e.1 e.2 a)))
def j3 (Q:List Q2) (a b:Q2):Option (Rat × Rat):=match (bg Q).foldl (rX a b) (some (0,1)) with
 | none=>none
 | some (lo,hi)=>if hi≤lo then none else some (lo,hi)
def cH (L:List PV) (s:XV):(RV × RV) × Bool × Int :=
 if bw L=0∧s.1.canon∧s.2.canon then (match j3 (aS L) s.1.p s.2.p with | some (lo,hi)=>((RV.of lo,RV.of hi),true,0) | none=>((bV,bV),false,0)) else ((bV,bV),false,1)
/-! contracts -/
/-- A list of points that a function makes: none, or a new block. -/
abbrev QL:=Option (List Q2 × Nat)
def QL.val:QL→Value
 | none=>.slice none 0 0
 | some i=>.slice (some ⟨0,0,none⟩) i.1.length i.2
def QL.ai:QL→List ah
 | none=>[]
 | some i=>[.flat false i.1.length 6 (bT i.1)]
def QL.list:QL→List Q2
 | none=>[]
 | some i=>i.1
def cT (R:List Q2):Option ah:=match R.length with
 | 0=>none
 | n+1=>some (.flat true (n+1) 6 (bT R))
def RV.c1 (x:RV):List Value:=[.bool x.1,.string x.2.1,.string x.2.2]
def PL.fit (i:PL):Prop:=i.list.length≤1099511627776∧∀ v∈i.list,v.sz 2048
def Ch:bz:={ ι:=PV,args:=fun i=>[i.v],pre:=fun i=>i.sz 2048,val:=fun i=>.bool (decide (¬ i.canon)) }
def dp:bk:={ ι:=PL,args:=fun i=>[i.val],ai:=PL.ai,pre:=PL.fit,val:=fun i=>.bool (!dm i.list),new:=fun _=>none }
def aV:bk:={ ι:=PL,args:=fun i=>[i.val],ai:=PL.ai,pre:=PL.fit,val:=fun i=>.int .i64 (bw i.list),new:=fun _=>none }
def gg:bk:={ ι:=PL × PV,args:=fun i=>[i.1.val,i.2.v],ai:=fun i=>i.1.ai,pre:=fun i=>i.1.fit∧i.2.sz 2048,val:=fun i=>.int .i64 (rL (aS i.1.list) i.2.p),new:=fun _=>none }
def dB:bk:={ ι:=PL × PV,args:=fun i=>[i.1.val,i.2.v],ai:=fun i=>i.1.ai,pre:=fun i=>i.1.fit∧i.2.sz 2048,val:=fun i=>ZE.v (l8 i.1.list i.2),new:=fun _=>none }
def pj:bz:={ ι:=xp,args:=fun i=>[i.1.v,i.2.1.v,i.2.2.v],pre:=CA,val:=fun i=>(RV.of (au i.1.p i.2.1.p i.2.2.p)).v }
def fa:bk:={ ι:=QL,args:=fun i=>[i.val],ai:=QL.ai,pre:=fun i=>i.list.length≤549755813888∧∀ v∈i.list,Q2.sz 262144 v,val:=fun i=>eD i.ai.length (fw i.list).length,new:=fun i=>cT (fw i.list) }
/-- Two lists, and what their meeting wants. -/
def qC.fit (i:qC):Prop:=(i.1.fit∧i.2.fit)
def CE (A B:List PV):Prop:=bw A=0→bw B=0→NF (aS A) (aS B)
def iU:bk:={ ι:=qC,args:=fun i=>[i.1.val,i.2.Cb i.1.ai.length],ai:=fun i=>i.1.ai++i.2.ai,pre:=fun i=>qC.fit i∧CE i.1.list i.2.list,val:=fun i=>.tuple ⟨[eD (i.1.ai++i.2.ai).length (gN i.1.list i.2.list).1.length,.int .i64 (gN i.1.list i.2.list).2]⟩,new:=fun i=>cT (gN i.1.list i.2.list).1 }
def N7 (s:Bool):bk:={ ι:=qC,args:=fun i=>[i.1.val,i.2.Cb i.1.ai.length],ai:=fun i=>i.1.ai++i.2.ai,pre:=qC.fit,val:=fun i=>.tuple ⟨[.bool (OZ s i.1.list i.2.list).1,.int .i64 (OZ s i.1.list i.2.list).2]⟩,new:=fun _=>none }
def l9:bk:={ ι:=qC,args:=fun i=>[i.1.val,i.2.Cb i.1.ai.length],ai:=fun i=>i.1.ai++i.2.ai,pre:=qC.fit,val:=fun i=>.tuple ⟨[(mU i.1.list i.2.list).1.v,.int .i64 (mU i.1.list i.2.list).2]⟩,new:=fun _=>none }
def cY:bk:={ ι:=PL × XV,args:=fun i=>[i.1.val,i.2.v],ai:=fun i=>i.1.ai,pre:=fun i=>i.1.fit∧i.2.1.sz 2048∧i.2.2.sz 2048,val:=fun i=>.tuple ⟨[(cH i.1.list i.2).1.1.v,(cH i.1.list i.2).1.2.v,.bool (cH i.1.list i.2).2.1,.int .i64 (cH i.1.list i.2).2.2]⟩,new:=fun _=>none }
def rY (a b p:PV):Bool:=decide (p≠a∧p≠b∧aU (au a.p b.p p.p) 0≤0)
def rM:bk:={ ι:=xp,args:=fun i=>[i.2.2.v,.pointer (some ⟨0,0,none⟩),.pointer (some ⟨1,0,none⟩)],ai:=fun i=>[.flat false 1 6 (fun _=>i.1.cells),.flat false 1 6 (fun _=>i.2.1.cells)],pre:=fun i=>i.1.sz 2048∧i.2.1.sz 2048∧i.2.2.sz 2048,val:=fun i=>.bool (rY i.1 i.2.1 i.2.2),new:=fun _=>none }
/-! walks through lists -/
def ub (L:List PV) (i:Nat):Prop:=∀ p∈L.take i,p.canon
theorem J9 (L:List PV):ub L 0:=fun p hp=>by simp at hp
theorem KO {L:List PV} {i:Nat} {p:PV} (h:ub L i) (hp:L[i]?=some p) (hc:p.canon):ub L (i+1):=fun q hq=>by
 rw [List.take_add_one,hp] at hq
 simp only [Option.toList_some,List.mem_append,List.mem_singleton] at hq
 rcases hq with hq | rfl
 ·exact h q hq
 ·exact hc
theorem Lx {L:List PV} (h:ub L L.length):dm L=false:=by
 cases e:dm L
 ·rfl
 ·obtain ⟨p,hp,hg⟩:=List.any_eq_true.1 e
  rw [ub,List.take_length] at h
  exact absurd (h p hp) (of_decide_eq_true hg)
theorem o6 {L:List PV} {n j:Nat} (hn:n=L.length) (h:j < n):∃ a b:PV,cO L j=a.cells∧cO L (ba n j)=b.cells∧(a∈L∧b∈L)∧(bg (aS L))[j]?=some (a.p,b.p)∧ba n j < n∧a=iM L j∧b=iM L (ba n j):=by
 have hl:=cR h
 refine ⟨iM L j,iM L (ba n j),qY (by omega),qY (by omega),⟨oe (by omega),oe (by omega)⟩,?_,hl,rfl,rfl⟩
 rw [jU (by omega),jU (by omega)]
 exact qX (gR (by rw [c8]; omega)) (by rw [c8,← hn]; exact gR (by rw [c8]; show ba n j < _; omega))
theorem EN {α β:Type} {f:β→α→β} {l:List α} {z:β} {j:Nat} {e:α} (h:l[j]?=some e):(l.take (j+1)).foldl f z=f ((l.take j).foldl f z) e:=by
 rw [List.take_add_one,h,List.foldl_append]; rfl
theorem SB (L:List PV):(bg (aS L)).take L.length=bg (aS L):=by
 rw [← c8 L,← lG (aS L),List.take_length]
def rC (Q:List Q2) (p:Q2) (j:Nat):Int:=((bg Q).take j).foldl (HE p) 1
theorem Ka {Q:List Q2} {p a b:Q2} {j:Nat} (h:(bg Q)[j]?=some (a,b)):rC Q p (j+1)=if aU (au a b p) 0 < rC Q p j then aU (au a b p) 0 else rC Q p j:=by
 unfold rC
 rw [EN h]
 simp only [HE]
theorem KP {L:List PV} {p:Q2}:rC (aS L) p L.length=rL (aS L) p:=by unfold rC; rw [SB]; rfl
theorem Bo {L:List PV} (h:L.length < 3∨64 < L.length):bw L=4:=if_pos h
theorem MZ {L:List PV} (h:¬ (L.length < 3∨64 < L.length)) (J:dm L=true):bw L=1:=by unfold bw; rw [if_neg h,if_pos J]
theorem M0 {L:List PV} (h:¬ (L.length < 3∨64 < L.length)) (J:dm L=false) (h3:¬ kS (aS L)):bw L=8:=by unfold bw; rw [if_neg h,if_neg (by rw [J]; decide),if_neg (fun e=>h3 (A4.1 e))]
theorem FY {L:List PV} (h:¬ (L.length < 3∨64 < L.length)) (J:dm L=false) (h3:kS (aS L)) (h4:¬ Ring (aS L)):bw L=15:=by
 unfold bw
 rw [if_neg h,if_neg (by rw [J]; decide),if_pos (A4.2 h3),if_neg (fun e=>h4 ((EM (by rw [c8]; omega) h3).1 e))]
theorem Mi {L:List PV} (h:¬ (L.length < 3∨64 < L.length)) (J:dm L=false) (h3:kS (aS L)) (h4:Ring (aS L)):bw L=0:=by
 unfold bw
 rw [if_neg h,if_neg (by rw [J]; decide),if_pos (A4.2 h3),if_pos ((EM (by rw [c8]; omega) h3).2 h4)]
theorem AQ {L:List PV} (h:dm L=false) {p:PV} (hp:p∈L):p=ck p.p:=by
 have hc:p.canon:=Decidable.byContradiction fun e=>by
  have:dm L=true:=List.any_eq_true.2 ⟨p,hp,decide_eq_true e⟩
  rw [h] at this; cases this
 exact Prod.ext hc.1 hc.2
/-- The first points stand behind the very first one. -/
def wS (Q:List Q2) (i:Nat):Prop:=∀ k,0 < k→k≤i→iz (aC Q 0) (aC Q k)
theorem Kb (Q:List Q2):wS Q 0:=fun k h0 h=>by omega
theorem KQ {Q:List Q2} {i:Nat} (h:wS Q i) (J:iz (aC Q 0) (aC Q (i+1))):wS Q (i+1):=fun k h0 hk=>by
 rcases Nat.lt_or_eq_of_le hk with e | e
 ·exact h k h0 (by omega)
 ·rw [e]; exact J
theorem Ly {Q:List Q2} {i:Nat} (h:wS Q i) (hi:i+1=Q.length):kS Q:=fun k h0 hk=>h k h0 (by omega)
theorem NG {a b:Q2}:iz a b↔0 < fm b a:=by
 rw [← x6]
 have h1:=KH a b
 have J:=KH b a
 have h3:=Sv (p:=a) (q:=b)
 have h4:=tC (a:=a) (b:=b)
 have h5:=tC (a:=b) (b:=a)
 have h6:fm a b < 0↔iz a b:=x6
 have h7:fm b a < 0↔iz b a:=x6
 have h8:¬ (iz a b∧iz b a):=fun ⟨x,y⟩=>by unfold iz at x y; grind
 constructor
 ·intro h
  have:¬ fm b a < 0:=fun e=>h8 ⟨h6.1 h,h7.1 e⟩
  omega
 ·intro h
  refine Decidable.byContradiction fun hc=>?_
  have h9:ia b a:=h5.2 hc
  have IB:ia a b:=h4.2 (by omega)
  have:a=b:=Md IB h9
  have:=h3.2 (n9.2 this)
  omega
theorem Y5 {L:List PV} {j:Nat} {a b:PV} (h:j < L.length) (ha:a=iM L j) (hb:b=iM L (ba L.length j)) (J:L.any (rY a b)=false):¬ yn (aS L) j:=by
 rintro ⟨q,hq,h3,h4,h5⟩
 obtain ⟨p,hp,rfl⟩:=List.mem_map.1 hq
 rw [c8] at h4 h5
 rw [← jU h,← ha] at h3 h5
 rw [← jU (cR h),← hb] at h4 h5
 have:L.any (rY a b)=true:=List.any_eq_true.2 ⟨p,hp,decide_eq_true ⟨fun e=>h3 (by rw [e]),fun e=>h4 (by rw [e]),Int.not_lt.1 fun e=>Rat.not_lt.2 h5 (n8.1 e)⟩⟩
 rw [J] at this; cases this
theorem Wj {L:List PV} {j:Nat} {a b p:PV} (hc:dm L=false) (h:j < L.length) (ha:a=iM L j) (hb:b=iM L (ba L.length j)) (hp:p∈L) (J:rY a b p=true):yn (aS L) j:=by
 obtain ⟨h3,h4,h5⟩:=of_decide_eq_true J
 have ca:=AQ hc (p:=a) (by rw [ha]; exact oe h)
 have cb:=AQ hc (p:=b) (by rw [hb]; exact oe (cR h))
 have cp:=AQ hc hp
 refine ⟨p.p,List.mem_map_of_mem hp,?_,?_,?_⟩
 ·rw [← jU h,← ha]; exact fun e=>h3 (by rw [cp,ca,e])
 ·rw [c8,← jU (cR h),← hb]; exact fun e=>h4 (by rw [cp,cb,e])
 ·rw [c8,← jU h,← ha,← jU (cR h),← hb]; exact Rat.not_lt.1 fun e=>by have:=n8.2 e; omega
theorem ac1 {p:PV} (h:true=dm [p]):p.canon→False:=fun hc=>by
 unfold dm at h
 simp [hc] at h
theorem abl {p:PV} (h:false=dm [p]):p.canon:=Decidable.byContradiction fun hc=>by
 unfold dm at h
 simp [hc] at h
theorem O0 {p q:PV} (h:true=dm [p,q]):p.canon→q.canon→False:=fun h1 J=>by
 unfold dm at h
 simp [h1,J] at h
theorem N8 {p q:PV} (h:false=dm [p,q]):p.canon∧q.canon:=by
 unfold dm at h
 simp at h
 exact h
theorem BN {L:List PV} {p:PV} (h:¬ (bw L=0∧p.canon)):l8 L p=(0,1):=if_neg h
theorem M1 {L:List PV} {p:PV} (h:bw L=0∧p.canon):l8 L p=(rL (aS L) p.p,0):=if_pos h
/-! what a ring keeps -/
def uy:bz:={ ι:=xp,args:=fun i=>[i.1.v,i.2.1.v,i.2.2.v],pre:=CA,val:=fun i=>.bool (decide (i.2.1≠i.2.2)) }
def uz:bz:={ ι:=xp,args:=fun i=>[i.1.v,i.2.1.v,i.2.2.v],pre:=CA,val:=fun i=>.bool (decide (aU (au i.1.p i.2.1.p i.2.2.p) 0≠0)) }
def rN (b:Bool) (Q:List Q2):List Q2:=match b with
 | false=>gm Q
 | true=>jn Q
def jV (f g:FuncId):bk:={ ι:=QL × Bool,args:=fun i=>[i.1.val,.func (.func (match i.2 with | false=>f | true=>g)) #[] #[]],ai:=fun i=>i.1.ai,pre:=fun i=>i.1.list.length≤549755813888∧∀ v∈i.1.list,Q2.sz 262144 v,val:=fun i=>eD i.1.ai.length (rN i.2 i.1.list).length,new:=fun i=>cT (rN i.2 i.1.list) }
theorem A5 {R:List Q2} {B:ah} (h:cT R=some B):B.js=true:=by
 unfold cT at h
 split at h
 ·cases h
 ·cases h; rfl
def pL (Q:List Q2) (j:Nat):List Q2:=((bg Q).take j).flatMap mP
def rO (Q:List Q2) (j:Nat):List Q2:=(List.range j).flatMap (nw Q)
theorem SC {Q:List Q2} {j:Nat} {a b:PV} (h:j < Q.length) (ha:a=ck (aC Q j)) (hb:b=ck (aC Q (ba Q.length j))):pL Q (j+1)=pL Q j++if a≠b then [aC Q j] else []:=by
 unfold pL
 rw [Lu (qX (gR h) (gR (cR h)))]
 congr 1
 show (if fm (aC Q j) (aC Q (ba Q.length j))≠0 then [aC Q j] else [])=_
 by_cases e:aC Q j=aC Q (ba Q.length j)
 ·rw [if_neg (fun h=>h (n9.2 e)),if_neg (fun h=>h (by rw [ha,hb,e]))]
 ·rw [if_pos (fun h=>e (n9.1 h)),if_pos (fun h=>e ((Wc ha hb).1 h))]
theorem SD {Q:List Q2} {j:Nat} {a b c:Q2} (ha:a=aC Q (ef Q.length j)) (hb:b=aC Q j) (hc:c=aC Q (ba Q.length j)):rO Q (j+1)=rO Q j++if aU (au a b c) 0≠0 then [b] else []:=by
 unfold rO
 rw [List.range_succ,List.flatMap_append,List.flatMap_singleton,U8 ha hb hc rfl]
theorem Lz (Q:List Q2):pL Q Q.length=gm Q:=by unfold pL gm; rw [← lG Q,List.take_length]
theorem Ve (Q:List Q2) (j:Nat):(pL Q j).length≤Q.length:=Wd Q j
theorem Vf (Q:List Q2) (j:Nat):(rO Q j).length≤j:=We Q j
theorem Mj {L:List Q2} {n j:Nat} {a b d:PV} (hn:n=L.length) (h:j < n) (ha:a.p=aC L (ef n j)) (hb:b=ck (aC L j)) (hd:d=ck (aC L (ba n j))):∃ z:Bool,uy.val (a,b,d)=.bool z∧pL L (j+1)=pL L j++if z=true then [aC L j] else []:=by
 refine ⟨decide (b≠d),rfl,?_⟩
 rw [SC (a:=b) (b:=d) (by omega) hb (by rw [← hn]; exact hd)]
 by_cases e:b=d
 ·rw [if_neg (fun h=>h e),if_neg (by rw [decide_eq_false (fun h=>h e)]; decide)]
 ·rw [if_pos e,if_pos (decide_eq_true e)]
theorem Mk {L:List Q2} {n j:Nat} {a b d:PV} (hn:n=L.length) (h:j < n) (ha:a.p=aC L (ef n j)) (hb:b=ck (aC L j)) (hd:d=ck (aC L (ba n j))):∃ z:Bool,uz.val (a,b,d)=.bool z∧rO L (j+1)=rO L j++if z=true then [aC L j] else []:=by
 have eb:b.p=aC L j:=by rw [hb,gY]
 have ed:d.p=aC L (ba n j):=by rw [hd,gY]
 refine ⟨decide (aU (au a.p b.p d.p) 0≠0),rfl,?_⟩
 rw [SD (a:=a.p) (b:=b.p) (c:=d.p) (by rw [← hn]; exact ha) eb (by rw [← hn]; exact ed),eb]
 by_cases e:aU (au a.p (aC L j) d.p) 0=0
 ·rw [if_neg (fun h=>h e),if_neg (by rw [decide_eq_false (fun h=>h e)]; decide)]
 ·rw [if_pos e,if_pos (decide_eq_true e)]
theorem LA (Q:List Q2):rO Q Q.length=jn Q:=rfl
theorem TP (Q:List Q2):fw Q=if (rN true (rN false Q)).length < 3 then [] else eF (rN true (rN false Q)):=rfl
theorem Wk {R:List Q2} {n:Nat} (h:R.length=n) (h0:0 < n):cT R=some (.flat true n 6 (bT R)):=by
 unfold cT
 rw [h]
 cases n with
 | zero=>omega
 | succ n=>rfl
theorem Wl {k n:Nat} (h0:0 < n):eD k n=.slice (some ⟨k,0,none⟩) n aJ:=by
 cases n with
 | zero=>omega
 | succ n=>rfl
/-! what is left of a polygon by a line -/
def HF (f:FuncId):bk:={ ι:=QL × nf,args:=fun i=>[.func (.func f) #[] #[.pointer (some ⟨i.1.ai.length,0,none⟩),.pointer (some ⟨i.1.ai.length+1,0,none⟩),.pointer (some ⟨i.1.ai.length+2,0,none⟩)]],ai:=fun i=>i.1.ai++[.aL false 1 [[i.1.val]],.aL false 6 [i.2.1.cells], .aL false 6 [i.2.2.cells]],pre:=fun i=>i.1.list.length≤1073741824∧(∀ v∈i.1.list,Q2.sz 2048 v)∧i.2.1.sz 2048∧i.2.2.sz 2048,val:=fun i=>eD (i.1.ai.length+3) (eY (eE i.2.1.p i.2.2.p) i.1.list).length,new:=fun i=>cT (eY (eE i.2.1.p i.2.2.p) i.1.list) }
theorem wT {a b p:Q2} {k l m:Nat} (ha:Q2.sz k a) (hb:Q2.sz l b) (hp:Q2.sz m p):QB (au a b p) (l+k+1+(m+k+1)+(l+k+1+(m+k+1))+1):=tg (lP hb ha) (lP hp ha)
theorem LB {m:Q3} {L:List Q2} {j:Nat} {a b w:PV} {O:List Q2} {x y:Rat} (fI:(bg L)[j]?=some (a.p,b.p)) (hO:O=((bg L).take j).flatMap (mT m)) (hx:x=bd m a.p) (hy:y=bd m b.p) (hw:w.p=atR a.p b.p (x / (x - y))) :
  ((bg L).take (j+1)).flatMap (mT m)=O++((if aU x 0 ≥ 0 then [a.p] else [])++if aU x 0*aU y 0 < 0 then [w.p] else []):=by
 rw [Lu fI,← hO,mT]
 subst hx; subst hy
 congr 1
 unfold mO gA iS
 rw [hw]
theorem Ml (m:Q3) (L:List Q2):((bg L).take L.length).flatMap (mT m)=eY m L:=by rw [MV,← lG L,List.take_length]
theorem Wm (m:Q3) (L:List Q2) (j:Nat):(((bg L).take j).flatMap (mT m)).length≤2*L.length:=by
 have:=EL m ((bg L).take j)
 rw [List.length_take,lG] at this
 omega
theorem Wn {L:List PV} (h:dm L=false):bH (aS L)=L:=by
 unfold bH aS
 rw [List.map_map]
 refine (List.map_congr_left (fun p hp=>?_)).trans (List.map_id L)
 exact (AQ h hp).symm
theorem Vg {L:List PV} (h:bw L=0):dm L=false:=by
 cases e:dm L
 ·rfl
 ·obtain ⟨p,hp,hc⟩:=List.any_eq_true.1 e
  exact absurd ((o5 h).2.1 p hp) (of_decide_eq_true hc)
theorem Fq {L:List PV} (h:bw L=0):bT (aS L)=cO L:=by unfold bT; rw [Wn (Vg h)]
theorem Wo {R:List Q2} (h:R.length=0):ux R=([],11):=if_pos h
theorem Wp {R:List Q2} (h:64 < R.length):ux R=([],4):=by unfold ux; rw [if_neg (by omega),if_pos h]
theorem NH {R:List Q2} (h:¬ R.length=0) (J:¬ 64 < R.length):ux R=(R,0):=by unfold ux; rw [if_neg h,if_neg J]
theorem Wq {k:Nat} {m:Q3} {P:List Q2} (sm:Q3.sz k m) (hP:∀ v∈P,Q2.sz 2048 v) (hk:k≤12291):∀ v∈eY m P,Q2.sz 262144 v:=by
 intro v hv
 rcases V5 hv with ⟨h1,_⟩ | ⟨e,he,hx⟩
 ·exact Q2.mono (hP v h1) (by decide)
 ·have hx:=xD hx
  rw [hx.2.1]
  have h1:=hP _ (oZ he).1
  have J:=hP _ (oZ he).2
  have s1:=NA sm h1
  have s2:=NA sm J
  have:=yH h1 J (s1.div (s1.sub s2) (by omega))
  exact Q2.mono this (by omega)
theorem Fs {P:List Q2} {a b:Q2} (hl:P.length≤1073741824) (hP:∀ v∈P,Q2.sz 2048 v) (ha:Q2.sz 2048 a) (hb:Q2.sz 2048 b):(eY (eE a b) P).length≤549755813888∧∀ v∈eY (eE a b) P,Q2.sz 262144 v :=
 ⟨by have:=U7 (eE a b) P; omega,Wq (k:=12291) (Q3.mono (Nz ha hb) (by decide)) hP (Nat.le_refl _)⟩
/-! meeting -/
def ac2 (v:Value) (q:Nat):Nat→Value
 | 0=>v
 | _+1=>eD 5 q
def ac3 (F:Nat→List Value) (q:Nat):Nat→ax
 | 0=>[]
 | _+1=>yU 6 F q
theorem G1 {A B:List PV} (h:¬ (bw A=0∧bw B=0)):gN A B=([],1):=if_neg h
theorem NI {A B:List PV} {R:List Q2} (h:bw A=0∧bw B=0) (hR:R=iT (aS A) (aS B) B.length):gN A B=ux R:=by
 unfold gN
 rw [if_pos h,hR,← c8 B,TN]
theorem D5 {P Q C R:List Q2} {j:Nat} {a b:Q2} (fI:(bg Q)[j]?=some (a,b)) (hC:C=eY (eE a b) (iT P Q j)) (hR:R=fw C):R=iT P Q (j+1):=by
 rw [Sy fI,hR,hC]; rfl
/-! separating edges -/
def pX (s:Bool):bz:={ ι:=Int,args:=fun z=>[.int .i64 z],pre:=fun _=>True,val:=fun z=>.bool (qE s z) }
abbrev SI:=((List Q2 × Nat) × (List Q2 × Nat)) × FuncId × Bool
def gy (o:Option (Q2 × Q2)):XV × Bool:=match o with
 | some e=>(PZ e,true)
 | none=>(mN,false)
def SI.ok (f1 f2 f3:FuncId) (i:SI):Prop:=(i.2=(f1,true)∨i.2=(f2,false)∨i.2=(f3,true))∧(i.1.1.1.length≤1073741824∧∀ v∈i.1.1.1,Q2.sz 2048 v)∧i.1.2.1.length≤1073741824∧∀ v∈i.1.2.1,Q2.sz 2048 v
def xc (f1 f2 f3:FuncId) (V:Bool→List Q2→List Q2→Option (Q2 × Q2)):bk:={ ι:=SI,args:=fun i=>[.slice (some ⟨0,0,none⟩) i.1.1.1.length i.1.1.2,.slice (some ⟨1,0,none⟩) i.1.2.1.length i.1.2.2,.func (.func i.2.1) #[] #[]],ai:=fun i=>[.flat false i.1.1.1.length 6 (bT i.1.1.1),.flat false i.1.2.1.length 6 (bT i.1.2.1)],pre:=SI.ok f1 f2 f3,val:=fun i=>.tuple ⟨[(gy (V i.2.2 i.1.1.1 i.1.2.1)).1.v,.bool (gy (V i.2.2 i.1.1.1 i.1.2.1)).2]⟩,new:=fun _=>none }
def mV (s:Bool) (B:List Q2) (e:Q2 × Q2):Bool:=B.all fun x=>qE s (aU (au e.1 e.2 x) 0)
def rZ (s:Bool) (a b x:Q2):Bool:=!qE s (aU (au a b x) 0)
theorem Wr {s:Bool} {B:List Q2} {a b:Q2} (h:B.any (rZ s a b)=false):mV s B (a,b)=true:=by
 unfold mV
 rw [List.all_eq_true]
 intro x hx
 cases e:qE s (aU (au a b x) 0)
 ·have:B.any (rZ s a b)=true:=List.any_eq_true.2 ⟨x,hx,by unfold rZ; rw [e]; rfl⟩
  rw [h] at this; cases this
 ·rfl
theorem FZ {s:Bool} {B:List Q2} {a b x:Q2} (hx:x∈B) (h:rZ s a b x=true):mV s B (a,b)=false:=by
 unfold mV
 cases e:B.all fun x=>qE s (aU (au (a,b).1 (a,b).2 x) 0)
 ·rfl
 ·have:=List.all_eq_true.1 e x hx
  unfold rZ at h
  rw [show qE s (aU (au a b x) 0)=true from this] at h
  cases h
theorem Vh {s:Bool} {A B:List Q2} {j:Nat} {e:Q2 × Q2} (h:np (mV s B) (bg A) j) (he:(bg A)[j]?=some e) (J:mV s B e=true):g7 s A B=some e:=by
 unfold g7
 rw [show (fun e:Q2 × Q2=>B.all fun x=>qE s (aU (au e.1 e.2 x) 0))=mV s B from rfl]
 have hj:=(List.getElem?_eq_some_iff.1 he).1
 rw [← List.take_append_drop j (bg A),List.find?_append,List.find?_eq_none.2,List.drop_eq_getElem_cons hj]
 ·rw [List.find?_cons,(List.getElem?_eq_some_iff.1 he).2,J]; rfl
 ·intro x hx hc
  have:((bg A).take j).any (mV s B)=true:=List.any_eq_true.2 ⟨x,hx,hc⟩
  rw [show ((bg A).take j).any (mV s B)=false from h] at this
  cases this
theorem Vi {s:Bool} {A B:List Q2} {n:Nat} (hn:n=A.length) (h:np (mV s B) (bg A) n):g7 s A B=none:=by
 unfold g7
 rw [List.find?_eq_none]
 intro x hx hc
 rw [hn,← lG A] at h
 have:=D3 h
 have J:(bg A).any (mV s B)=true:=List.any_eq_true.2 ⟨x,hx,hc⟩
 rw [this] at J
 cases J
theorem Ws {s:Bool} {A B:List Q2} {x:XV} (h:gy (g7 s A B)=(x,true)):gy (jZ s A B)=(x,true):=by
 unfold jZ
 cases e:g7 s A B with
 | none=>rw [e] at h; cases h
 | some y=>rw [e] at h; exact h
theorem Wt {s:Bool} {A B:List Q2} {x:XV} (h:gy (g7 s A B)=(x,false)):gy (jZ s A B)=gy (g7 s B A):=by
 unfold jZ
 cases e:g7 s A B with
 | none=>rfl
 | some y=>rw [e] at h; cases h
theorem BO {A B:List PV} (h:¬ (bw A=0∧bw B=0)):mU A B=(mN,1):=if_neg h
theorem Wu {A B:List PV} {x:XV} {z:Bool} (h:bw A=0∧bw B=0) (J:gy (jZ true (aS A) (aS B))=(x,z)):mU A B=if z=true then (x,0) else (mN,6):=by
 unfold mU
 rw [if_pos h]
 cases e:jZ true (aS A) (aS B) with
 | none=>rw [e] at J; cases J; rfl
 | some y=>rw [e] at J; cases J; rfl
/-! sizes -/
def r4:bz:={ ι:=PV,args:=fun i=>[i.v],pre:=fun _=>True,val:=fun i=>.bool (decide (¬ i.sz 12)) }
def km (L:List PV):Bool:=decide ((10 < L.length∧L.length < 63)∨66 < L.length) || tM 12 L
def fZ:bk:={ ι:=PL,args:=fun i=>[i.val],ai:=PL.ai,pre:=fun i=>i.list.length≤9223372036854775807,val:=fun i=>.bool (km i.list),new:=fun _=>none }
theorem KR {L:List PV} (h:(10 < L.length∧L.length < 63)∨66 < L.length):km L=true:=by unfold km; rw [decide_eq_true h]; rfl
theorem SE {L:List PV} (h:¬ ((10 < L.length∧L.length < 63)∨66 < L.length)):km L=tM 12 L:=by unfold km; rw [decide_eq_false h]; rfl
theorem TQ {L:List PV} (h:km L=false):(L.length≤10∨(63≤L.length∧L.length≤66))∧∀ p∈L,p.sz 12:=by
 unfold km at h
 rw [Bool.or_eq_false_iff] at h
 have h1:=of_decide_eq_false h.1
 exact ⟨by omega,Q6 h.2⟩
theorem Bp {n1 n2:Bool} {a1 b1 a2 b2:ByteArray} (h:12 < a1.size∨12 < b1.size∨12 < a2.size∨12 < b2.size):Value.bool true=r4.val ((n1,a1,b1),(n2,a2,b2)):=by
 have hn:¬ PV.sz 12 ((n1,a1,b1),(n2,a2,b2)):=fun e=>by
  have e:(a1.size≤12∧b1.size≤12)∧a2.size≤12∧b2.size≤12:=e
  omega
 exact congrArg Value.bool (decide_eq_true hn).symm
theorem Y6 {n1 n2:Bool} {a1 b1 a2 b2:ByteArray} (h:¬ (12 < a1.size∨12 < b1.size∨12 < a2.size∨12 < b2.size)):Value.bool false=r4.val ((n1,a1,b1),(n2,a2,b2)):=by
 refine (congrArg Value.bool (decide_eq_false fun e=>e ?_)).symm
 show (a1.size≤12∧b1.size≤12)∧a2.size≤12∧b2.size≤12
 omega
end Go.Ae
/- Rationals: the inverse, as the reference makes it. -/
namespace Go.Ae
open Go
def yW (b:RV):RV:=(decide (b.n < 0),nb b.d,nb b.n.natAbs)
theorem abm (b:RV) (h:b.n≠0):(yW b).q=b.q⁻¹:=by
 have e1:(yW b).n=if b.n < 0 then -(b.d:Int) else b.d:=by
  show aW (decide (b.n < 0)) (ab (nb b.d))=_
  rw [gp]
  unfold aW
  by_cases hn:b.n < 0 <;> simp [hn]
 have e2:(yW b).d=b.n.natAbs:=by
  show (if ab (nb b.n.natAbs)=0 then 1 else ab (nb b.n.natAbs))=_
  rw [gp,if_neg (by omega)]
 have hd:=natCast_pos b.iX
 rw [tf,tf b,e1,e2]
 have bJ:(b.n:Rat)≠0:=fun e=>h (by exact_mod_cast e)
 have hinv:((b.n:Rat) / ((b.d:Nat):Rat))⁻¹=((b.d:Nat):Rat) / (b.n:Rat):=by grind
 rw [hinv]
 by_cases hn:b.n < 0
 ·rw [if_pos hn]
  have:((b.n.natAbs:Nat):Rat)=-(b.n:Rat):=by
   rw [← Rat.intCast_natCast,show ((b.n.natAbs:Nat):Int)=-b.n by omega,Rat.intCast_neg]
  rw [this,Rat.intCast_neg,Rat.intCast_natCast]
  grind
 ·rw [if_neg hn]
  have:((b.n.natAbs:Nat):Rat)=(b.n:Rat):=by
   rw [← Rat.intCast_natCast,show ((b.n.natAbs:Nat):Int)=b.n by omega]
  rw [this,Rat.intCast_natCast]
theorem Y7 {b:RV} (h:b.ok):(yW b).ok:=by
 refine ⟨?_,?_⟩
 ·show (nb b.d).size≤_
  rw [fJ]
  unfold RV.d
  split
  ·exact Nat.le_trans (gr (show 1 < C ^ 1 by decide)) (by decide)
  ·exact Nat.le_trans (ig _) h.2
 ·show (nb b.n.natAbs).size≤_
  rw [fJ]
  unfold RV.n
  rw [q7]
  exact Nat.le_trans (ig _) h.1
theorem O1:bD 0=bV.v:=by
 show Value.agg ⟨[.bool false,.string (nb 0),.string (fc 1)]⟩=_
 rw [oa]; rfl
end Go.Ae
/- Convex rings: the part of a segment. -/
namespace Go.Ae
open Go
/-- The bounds, as the program finds them. -/
def yX (a b:Q2) (st:Option (Rat × Rat)) (e:Q2 × Q2):Option (Rat × Rat) :=
 match st with
 | none=>none
 | some (lo,hi) =>
  if au e.1 e.2 a≤0∧au e.1 e.2 b≤0 then none
  else if 0 < au e.1 e.2 a∧0 < au e.1 e.2 b then some (lo,hi)
  else if 0 < au e.1 e.2 b then some (jB lo (au e.1 e.2 a / (au e.1 e.2 a - au e.1 e.2 b)),hi)
  else some (lo,jC hi (au e.1 e.2 a / (au e.1 e.2 a - au e.1 e.2 b)))
def pY (st:Option (Rat × Rat)):Option (Rat × Rat):=match st with
 | none=>none
 | some (lo,hi)=>if hi≤lo then none else some (lo,hi)
theorem M3 (Q:List Q2) (a b:Q2):j3 Q a b=pY ((bg Q).foldl (rX a b) (some (0,1))):=rfl
theorem max_le (x y:Rat):x≤jB x y∧y≤jB x y:=by unfold jB; split <;> grind
theorem min_le (x y:Rat):jC x y≤x∧jC x y≤y:=by unfold jC; split <;> grind
theorem max_eq {x y:Rat} (h:y≤x):jB x y=x:=by unfold jB; rw [if_neg (by grind)]
theorem min_eq {x y:Rat} (h:x≤y):jC x y=x:=by unfold jC; rw [if_neg (by grind)]
theorem A6 {a b:Q2}:∀ l:List (Q2 × Q2),l.foldl (rX a b) none=none
 | []=>rfl
 | e::l=>by rw [List.foldl_cons]; exact A6 l
theorem xW {a b:Q2}:∀ l:List (Q2 × Q2),l.foldl (yX a b) none=none
 | []=>rfl
 | e::l=>by rw [List.foldl_cons]; exact xW l
theorem EO (a b:Q2) (lo hi:Rat) (e:Q2 × Q2):rX a b (some (lo,hi)) e=if au e.1 e.2 b - au e.1 e.2 a=0 then (if au e.1 e.2 a≤0 then none else some (lo,hi))
  else if 0 < au e.1 e.2 b - au e.1 e.2 a then some (jB lo (-au e.1 e.2 a / (au e.1 e.2 b - au e.1 e.2 a)),hi)
  else some (lo,jC hi (-au e.1 e.2 a / (au e.1 e.2 b - au e.1 e.2 a))):=rfl
theorem LC (a b:Q2) (lo hi:Rat) (e:Q2 × Q2):yX a b (some (lo,hi)) e=if au e.1 e.2 a≤0∧au e.1 e.2 b≤0 then none
  else if 0 < au e.1 e.2 a∧0 < au e.1 e.2 b then some (lo,hi)
  else if 0 < au e.1 e.2 b then some (jB lo (au e.1 e.2 a / (au e.1 e.2 a - au e.1 e.2 b)),hi)
  else some (lo,jC hi (au e.1 e.2 a / (au e.1 e.2 a - au e.1 e.2 b))):=rfl
theorem Mm {a b:Q2}:∀ (l:List (Q2 × Q2)) (lo hi:Rat),hi≤lo→pY (l.foldl (rX a b) (some (lo,hi)))=none:=by
 intro l
 induction l with
 | nil=>intro lo hi h; unfold pY; simp only [List.foldl_nil]; rw [if_pos h]
 | cons e l ih =>
  intro lo hi h
  rw [List.foldl_cons,EO]
  split
  ·split
   ·rw [A6]; rfl
   ·exact ih _ _ h
  ·split
   ·refine ih _ _ ?_
    have:=(max_le lo (-au e.1 e.2 a / (au e.1 e.2 b - au e.1 e.2 a))).1
    grind
   ·refine ih _ _ ?_
    have:=(min_le hi (-au e.1 e.2 a / (au e.1 e.2 b - au e.1 e.2 a))).1
    grind
/-- Where a line is crossed. -/
theorem Wv {x y:Rat} (h:y - x≠0):(-x / (y - x))*(y - x)=-x∧-x / (y - x)=x / (x - y):=by
 refine ⟨by rw [Rat.div_def]; grind,?_⟩
 have J:x - y≠0:=by grind
 have e1:(-x / (y - x))*(y - x)=-x:=by rw [Rat.div_def]; grind
 have e2:(x / (x - y))*(x - y)=x:=by rw [Rat.div_def]; grind
 have:(y - x)*(-x / (y - x) - x / (x - y))=0:=by grind
 have:=(Rat.mul_eq_zero.1 this).resolve_left h
 grind
theorem AR {a b k:Rat} (hk:0 < k) (h:a*k≤b*k):a≤b:=by
 by_cases h1:a≤b
 ·exact h1
 ·have:=Rat.mul_pos (show 0 < a - b by grind) hk
  grind
theorem M4 {a b:Q2}:∀ (l:List (Q2 × Q2)) (lo hi:Rat),0≤lo→hi≤1→pY (l.foldl (yX a b) (some (lo,hi)))=pY (l.foldl (rX a b) (some (lo,hi))):=by
 intro l
 induction l with
 | nil=>intro lo hi _ _; rfl
 | cons e l ih =>
  intro lo hi h0 h1
  rw [List.foldl_cons,List.foldl_cons,EO,LC]
  generalize au e.1 e.2 a=x
  generalize au e.1 e.2 b=y
  by_cases hs:y - x=0
  ·rw [if_pos hs]
   by_cases hx:x≤0
   ·rw [if_pos ⟨hx,by grind⟩,if_pos hx,xW,A6]
   ·rw [if_neg (fun e=>hx e.1),if_pos ⟨by grind,by grind⟩,if_neg hx]
    exact ih _ _ h0 h1
  ·obtain ⟨ht,te⟩:=Wv hs
   rw [if_neg hs,te]
   rw [te] at ht
   generalize x / (x - y)=t at ht
   by_cases hp:0 < y - x
   ·rw [if_pos hp]
    by_cases hy:y≤0
    ·rw [if_pos ⟨by grind,hy⟩,xW,Mm]
     ·rfl
     ·have J:1≤t:=AR hp (by grind)
      have:=(max_le lo t).2
      grind
    ·rw [if_neg (fun e=>hy e.2)]
     by_cases hx:0 < x
     ·rw [if_pos ⟨hx,by grind⟩]
      have J:t≤0:=AR hp (by grind)
      rw [max_eq (by grind)]
      exact ih _ _ h0 h1
     ·rw [if_neg (fun e=>hx e.1),if_pos (by grind)]
      exact ih _ _ (by have:=(max_le lo t).1; grind) h1
   ·have hn:0 < x - y:=by grind
    rw [if_neg hp]
    by_cases hx:x≤0
    ·rw [if_pos ⟨hx,by grind⟩,xW,Mm]
     ·rfl
     ·have J:t≤0:=AR hn (by grind)
      have:=(min_le hi t).2
      grind
    ·rw [if_neg (fun e=>hx e.1)]
     by_cases hy:0 < y
     ·rw [if_pos ⟨by grind,hy⟩]
      have J:1≤t:=AR hn (by grind)
      rw [min_eq (by grind)]
      exact ih _ _ h0 h1
     ·rw [if_neg (fun e=>hy e.2),if_neg hy]
      exact ih _ _ h0 (by have:=(min_le hi t).1; grind)
def uc (Q:List Q2) (a b:Q2) (j:Nat):Option (Rat × Rat):=((bg Q).take j).foldl (yX a b) (some (0,1))
def ud (Q:List Q2) (a b:Q2) (j:Nat):Option (Rat × Rat):=((bg Q).take j).foldl (rX a b) (some (0,1))
theorem SF {Q:List Q2} {a b p q:Q2} {j:Nat} {lo hi x y:Rat} (h:uc Q a b j=some (lo,hi)) (he:(bg Q)[j]?=some (p,q)) (hx:x=au p q a) (hy:y=au p q b) :
  uc Q a b (j+1)=if x≤0∧y≤0 then none else if 0 < x∧0 < y then some (lo,hi) else if 0 < y then some (jB lo (x / (x - y)),hi) else some (lo,jC hi (x / (x - y))):=by
 unfold uc at *
 rw [EN he,h,LC]
 subst hx; subst hy
 simp only
theorem SG {Q:List Q2} {a b:Q2} {j:Nat} (h:uc Q a b j=none):j3 Q a b=none:=by
 rw [M3,← M4 _ _ _ (by grind) (by grind)]
 have e:bg Q=(bg Q).take j++(bg Q).drop j:=(List.take_append_drop ..).symm
 rw [e,List.foldl_append,show List.foldl (yX a b) (some (0,1)) ((bg Q).take j)=none from h,xW]
 rfl
theorem TR {Q:List Q2} {a b:Q2} {n:Nat} (hn:n=Q.length):pY (uc Q a b n)=j3 Q a b:=by
 unfold uc
 rw [hn,← lG Q,List.take_length,M4 _ _ _ (by grind) (by grind)]
 rfl
theorem SH {Q:List Q2} {a b p q:Q2} {j:Nat} {lo hi x s:Rat} (h:ud Q a b j=some (lo,hi)) (he:(bg Q)[j]?=some (p,q)) (hx:x=au p q a) (hs:s=au p q b - au p q a) :
  ud Q a b (j+1)=if s=0 then (if x≤0 then none else some (lo,hi)) else if 0 < s then some (jB lo (-x / s),hi) else some (lo,jC hi (-x / s)):=by
 unfold ud at *
 rw [EN he,h,EO]
 subst hx; subst hs
 simp only
theorem SJ {Q:List Q2} {a b:Q2} {j:Nat} (h:ud Q a b j=none):j3 Q a b=none:=by
 rw [M3]
 have e:bg Q=(bg Q).take j++(bg Q).drop j:=(List.take_append_drop ..).symm
 rw [e,List.foldl_append,show List.foldl (rX a b) (some (0,1)) ((bg Q).take j)=none from h,A6]
 rfl
theorem TS {Q:List Q2} {a b:Q2} {n:Nat} (hn:n=Q.length):pY (ud Q a b n)=j3 Q a b:=by
 unfold ud
 rw [hn,← lG Q,List.take_length]
 rfl
theorem BP {L:List PV} {s:XV} (h:¬ (bw L=0∧s.1.canon∧s.2.canon)):cH L s=((bV,bV),false,1):=if_neg h
theorem F0 {L:List PV} {s:XV} (h:bw L=0∧s.1.canon∧s.2.canon) (J:j3 (aS L) s.1.p s.2.p=none):cH L s=((bV,bV),false,0):=by unfold cH; rw [if_pos h,J]
theorem M5 {L:List PV} {s:XV} {lo hi:Rat} (h:bw L=0∧s.1.canon∧s.2.canon) (J:j3 (aS L) s.1.p s.2.p=some (lo,hi)):cH L s=((RV.of lo,RV.of hi),true,0):=by unfold cH; rw [if_pos h,J]
theorem Mn {lo hi:Rat} (h:hi≤lo):pY (some (lo,hi))=none:=if_pos h
theorem Mo {lo hi:Rat} (h:¬ hi≤lo):pY (some (lo,hi))=some (lo,hi):=if_neg h
theorem Ww {L:List PV} {p q:PV} {lo hi:RV} (h:bw L=0∧p.canon∧q.canon) (J:j3 (aS L) p.p q.p=some (lo.q,hi.q)) (c1:lo=RV.of lo.q) (c2:hi=RV.of hi.q):cH L (p,q)=((lo,hi),true,0):=by
 have:=M5 (s:=(p,q)) h J
 rw [← c1,← c2] at this
 exact this
def jD (L:List PV) (s:XV):(RV × RV) × Bool:=match j3 (aS L) s.1.p s.2.p with
 | some (lo,hi)=>((RV.of lo,RV.of hi),true)
 | none=>((bV,bV),false)
def mc:bk:={ ι:=(List PV × Nat) × XV,args:=fun i=>[.slice (some ⟨0,0,none⟩) i.1.1.length i.1.2,i.2.v],ai:=fun i=>[.flat false i.1.1.length 6 (cO i.1.1)],pre:=fun i=>(i.1.1.length≤1099511627776∧∀ v∈i.1.1,v.sz 2048)∧i.2.1.sz 2048∧i.2.2.sz 2048,val:=fun i=>.tuple ⟨[(jD i.1.1 i.2).1.1.v,(jD i.1.1 i.2).1.2.v,.bool (jD i.1.1 i.2).2]⟩,new:=fun _=>none }
theorem M6 {L:List PV} {s:XV} (h:j3 (aS L) s.1.p s.2.p=none):jD L s=((bV,bV),false):=by unfold jD; rw [h]
theorem Wx {L:List PV} {p q:PV} {lo hi:RV} (h:j3 (aS L) p.p q.p=some (lo.q,hi.q)) (c1:lo=RV.of lo.q) (c2:hi=RV.of hi.q):jD L (p,q)=((lo,hi),true):=by
 unfold jD
 rw [show j3 (aS L) (p,q).1.p (p,q).2.p=some (lo.q,hi.q) from h]
 show ((RV.of lo.q,RV.of hi.q),true)=_
 rw [← c1,← c2]
theorem Wy {L:List PV} {s:XV} {x y:RV} {z:Bool} (h:bw L=0∧s.1.canon∧s.2.canon) (J:jD L s=((x,y),z)):cH L s=((x,y),z,0):=by
 unfold jD at J
 cases e:j3 (aS L) s.1.p s.2.p with
 | none=>rw [e] at J; cases J; exact F0 h e
 | some st =>
  obtain ⟨lo,hi⟩:=st
  rw [e] at J; cases J; exact M5 h e
theorem Y8 {lo t w:RV} {k:Nat} (hw:w=if lo.q < t.q then t else lo) (c1:lo=RV.of lo.q) (c2:t=RV.of t.q) (s1:lo.sz k) (s2:t.sz k) (q1:QB lo.q k) (q2:QB t.q k):w.q=jB lo.q t.q∧w=RV.of w.q∧w.sz k∧QB w.q k:=by
 unfold jB
 by_cases h:lo.q < t.q
 ·rw [if_pos h] at hw ⊢; subst hw; exact ⟨rfl,c2,s2,q2⟩
 ·rw [if_neg h] at hw ⊢; subst hw; exact ⟨rfl,c1,s1,q1⟩
theorem Y9 {lo t w:RV} {k:Nat} (hw:w=if t.q < lo.q then t else lo) (c1:lo=RV.of lo.q) (c2:t=RV.of t.q) (s1:lo.sz k) (s2:t.sz k) (q1:QB lo.q k) (q2:QB t.q k):w.q=jC lo.q t.q∧w=RV.of w.q∧w.sz k∧QB w.q k:=by
 unfold jC
 by_cases h:t.q < lo.q
 ·rw [if_pos h] at hw ⊢; subst hw; exact ⟨rfl,c2,s2,q2⟩
 ·rw [if_neg h] at hw ⊢; subst hw; exact ⟨rfl,c1,s1,q1⟩
theorem Wz:bV=RV.of bV.q:=by
 rw [FQ]
 exact RV.k9 O1.symm
theorem Vj (p q a b:Q2):mF (oD q p) (oD b a)=au p q b - au p q a:=by
 rw [eV,eV]
 show (q.1 - p.1)*(b.2 - a.2) - (q.2 - p.2)*(b.1 - a.1)=_
 grind
end Go.Ae
/- Convex rings: separating edges as the reference finds them. -/
namespace Go.Ae
open Go
end Go.Ae
/- Convex rings: the examples, and what the laws call. -/
namespace Go.Ae
open Go
/-! lists of whole numbers -/
abbrev II:=List (Int × Int)
def iq (x:Int × Int):Q2:=((x.1:Rat),(x.2:Rat))
def bo (l:II):List Q2:=l.map iq
def qF (l:II) (k:Nat):Int × Int:=l.getD k (0,0)
def mQ (l:II) (r:Nat):List Value:=[.int .i64 (if r % 2=0 then (qF l (r / 2)).1 else (qF l (r / 2)).2)]
def gW:bk:={ ι:=II,args:=fun i=>[.slice (some ⟨0,0,none⟩) (2*i.length) (2*i.length)],ai:=fun i=>[.flat false (2*i.length) 1 (mQ i)],pre:=fun i=>(0 < i.length∧i.length≤1000000)∧∀ x∈i,x.1.natAbs < 256∧x.2.natAbs < 256,val:=fun i=>.slice (some ⟨1,0,none⟩) i.length aJ,new:=fun i=>some (.flat true i.length 6 (bT (bo i))) }
theorem Mp {l:II} {j:Nat} {x:Int × Int} (h:x=qF l j):mQ l (2*j)=[.int .i64 x.1]:=by
 unfold mQ
 rw [if_pos (by omega),show 2*j / 2=j by omega,h]
theorem Mq {l:II} {j:Nat} {x:Int × Int} (h:x=qF l j):mQ l (2*j+1)=[.int .i64 x.2]:=by
 unfold mQ
 rw [if_neg (by omega),show (2*j+1) / 2=j by omega,h]
theorem M7 {l:II} {j:Nat} (h:j < l.length):qF l j∈l∧l[j]?=some (qF l j):=by
 unfold qF
 rw [List.getD_eq_getElem?_getD,List.getElem?_eq_getElem h]
 exact ⟨List.getElem_mem h,rfl⟩
theorem Mr {l:II} {j:Nat} {x:Int × Int} (h:l[j]?=some x):bo (l.take (j+1))=bo (l.take j)++[iq x]:=by
 unfold bo
 rw [List.take_add_one,h,List.map_append]
 rfl
theorem A7 (l:II) (rows:List (List Value)) (h:rows=(List.range (2*l.length)).map (mQ l)):aO (.flat false (2*l.length) 1 (mQ l)) (.aL true 1 rows) :=
 Fh (by rw [h]; simp) (fun r hr=>by
  rw [h,List.getD_eq_getElem?_getD,List.getElem?_map,List.getElem?_range hr]
  rfl) (fun r hr=>rfl)
theorem EP (x:Q2):(ck x).canon:=⟨by show RV.of x.1=RV.of (RV.of x.1).q; rw [RV.g0],by show RV.of x.2=RV.of (RV.of x.2).q; rw [RV.g0]⟩
/-! the examples -/
def dh:II:=[(0,0),(4,0),(4,4),(0,4)]
def ji:II:=[(3,3),(7,3),(3,7)]
def jK:II:=[(4,1),(6,1),(4,3)]
def jk:II:=[(3,3),(4,3),(4,4),(3,4)]
theorem wg (L:List Q2):aS (bH L)=L:=by
 unfold bH aS
 rw [List.map_map]
 refine (List.map_congr_left (fun p hp=>?_)).trans (List.map_id L)
 exact gY p
theorem TU {L:List Q2}:∀ p∈bH L,p.canon:=fun p hp=>by
 obtain ⟨x,_,rfl⟩:=List.mem_map.1 hp
 exact EP x
theorem Gr {l:II} (h1:3≤l.length∧l.length≤64) (J:CD (bo l)=true) (h3:Cg (bo l)=true):bw (bH (bo l))=0:=by
 unfold bw
 rw [if_neg (by rw [KM]; unfold bo; rw [List.length_map]; omega),if_neg (fun e=>by obtain ⟨p,hp,hc⟩:=List.any_eq_true.1 e; exact of_decide_eq_true hc (TU p hp)),wg,if_pos J,if_pos h3]
theorem F1:bw (bH (bo dh))=0:=Gr (by decide) (by decide +kernel) (by decide +kernel)
theorem WA:bw (bH (bo ji))=0:=Gr (by decide) (by decide +kernel) (by decide +kernel)
theorem WB:bw (bH (bo jK))=0:=Gr (by decide) (by decide +kernel) (by decide +kernel)
theorem Vk:Cf (bo dh) (bo ji)=bo jk:=by decide +kernel
theorem N9:gN (bH (bo dh)) (bH (bo ji))=(bo jk,0):=by
 unfold gN
 rw [if_pos ⟨F1,WA⟩,wg,wg,Vk]
 exact NH (by decide) (by decide)
theorem Za:mU (bH (bo dh)) (bH (bo jK))=((ck (iq (4,0)),ck (iq (4,4))),0):=by
 unfold mU
 rw [if_pos ⟨F1,WB⟩,wg,wg,show jZ true (bo dh) (bo jK)=some (iq (4,0),iq (4,4)) by decide +kernel]
 rfl
theorem Zb:cH (bH (bo dh)) (ck (iq (-2,1)),ck (iq (6,1)))=((RV.of (1 / 4),RV.of (3 / 4)),true,0):=by
 unfold cH
 rw [if_pos ⟨F1,EP _,EP _⟩,wg]
 show (match j3 (bo dh) (ck (iq (-2,1))).p (ck (iq (6,1))).p with | some (lo,hi)=>((RV.of lo,RV.of hi),true,(0:Int)) | none=>((bV,bV),false,0))=_
 rw [gY,gY,show j3 (bo dh) (iq (-2,1)) (iq (6,1))=some (1 / 4,3 / 4) by decide +kernel]
theorem abn {A B:List PV} (hA:∀ v∈A,v.sz 12) (hB:∀ v∈B,v.sz 12):CE A B:=fun h1 J=>by
 have a:=o5 h1
 have b:=o5 J
 refine Wi (S:=rB (aS A)) b.2.2.1 (fun m hm=>Q3.mono (Mh (k:=12) (Bn hA (by decide)) m hm) (by decide)) (fun m hm=>Q3.mono (Mh (k:=12) (Bn hB (by decide)) m hm) (by decide)) (by rw [Lv,c8,c8]; omega) (.inr ⟨a.2.2.1,a.2.2.2,Vd a.2.2.1⟩)
theorem G3 {l:II} (h:∀ x∈l,x.1.natAbs < 256∧x.2.natAbs < 256):∀ v∈bH (bo l),v.sz 12:=fun v hv=>by
 obtain ⟨x,hx,rfl⟩:=List.mem_map.1 hv
 obtain ⟨y,hy,rfl⟩:=List.mem_map.1 hx
 exact wx (ur y.1 y.2 (h y hy).1 (h y hy).2) (by decide)
theorem O2 {L:List PV} (h:∀ v∈L,v.sz 12):∀ v∈L,v.sz 2048:=fun v hv=>PV.aR (h v hv) (by decide)
theorem Gs {l:II} {c:Nat} (h:∀ x∈l,x.1.natAbs < 256∧x.2.natAbs < 256) (hl:l.length≤1000):PL.fit (some (bH (bo l),c)):=⟨by show (bH (bo l)).length≤_; rw [KM]; unfold bo; rw [List.length_map]; omega,O2 (G3 h)⟩
theorem Ms {c:Nat}:iU.val (some (bH (bo dh),c),some (bH (bo ji),c))=.tuple ⟨[.slice (some ⟨2,0,none⟩) 4 aJ,.int .i64 0]⟩∧iU.new (some (bH (bo dh),c),some (bH (bo ji),c))=some (.flat true 4 6 (bT (bo jk))):=by
 refine ⟨?_,?_⟩
 ·show Value.tuple ⟨[eD 2 (gN (bH (bo dh)) (bH (bo ji))).1.length,.int .i64 (gN (bH (bo dh)) (bH (bo ji))).2]⟩=_
  rw [N9]; rfl
 ·show cT (gN (bH (bo dh)) (bH (bo ji))).1=_
  rw [N9]; rfl
theorem WC {c:Nat} {a b:PV} (ha:a=ck (iq (4,0))) (hb:b=ck (iq (4,4))):l9.val (some (bH (bo dh),c),some (bH (bo jK),c))=.tuple ⟨[XV.v (a,b),.int .i64 0]⟩:=by
 show Value.tuple ⟨[(mU (bH (bo dh)) (bH (bo jK))).1.v,.int .i64 (mU (bH (bo dh)) (bH (bo jK))).2]⟩=_
 rw [Za,ha,hb]
theorem WD {c:Nat} {a b:PV} {x y:RV} (ha:a=ck (iq (-2,1))) (hb:b=ck (iq (6,1))) (hx:x=RV.of (1 / 4)) (hy:y=RV.of (3 / 4)):cY.val (some (bH (bo dh),c),(a,b))=.tuple ⟨[x.v,y.v,.bool true,.int .i64 0]⟩:=by
 show Value.tuple ⟨[(cH (bH (bo dh)) (a,b)).1.1.v,(cH (bH (bo dh)) (a,b)).1.2.v,.bool (cH (bH (bo dh)) (a,b)).2.1,.int .i64 (cH (bH (bo dh)) (a,b)).2.2]⟩=_
 rw [ha,hb,Zb,hx,hy]
/-! the laws -/
theorem Oa {L:List PV} (h:km L=false):L.length≤66∧∀ p∈L,p.sz 12:=by
 have:=TQ h
 exact ⟨by omega,this.2⟩
theorem mG {L:List PV} (h:km L=false):L.length≤1099511627776∧∀ v∈L,v.sz 2048:=by
 have:=Oa h
 exact ⟨by omega,O2 this.2⟩
def pk:bk:={ ι:=PL × nf,args:=fun i=>[i.1.val,i.2.1.v,i.2.2.v],ai:=fun i=>i.1.ai,pre:=fun i=>i.1.list.length*80≤140737488351232,val:=fun _=>.bool true,new:=fun _=>none }
theorem NJ {p q:PV} (h:km [p,q]=false):p.sz 12∧q.sz 12:=by
 have:=(Oa h).2
 exact ⟨this p (by simp),this q (by simp)⟩
end Go.Ae
/- The arguments of a statement, opened: structs of plain cells. -/
namespace Go.Ae
open Go Go.RowKit
section
variable {P:Program} {w:World} {r:Reach} {base:Nat} {t:TypeId} {v:Value}
theorem LD (ht:P.underlying t=some .bool) (h:Cell.okWide P w r base t v):∃ b,v=.bool b:=by
 simp only [Cell.okWide,ht] at h
 cases v <;> simp_all [Cell.ok]
theorem Av (ht:P.underlying t=some .string) (h:Cell.okWide P w r base t v):∃ s,v=.string s:=by
 simp only [Cell.okWide,ht] at h
 cases v <;> simp_all [Cell.ok]
/-- A struct's cells. -/
theorem SL {fs:Array Field} (ht:P.underlying t=some (.struct fs)) {ts:List TypeId} (IM:P.cellTypes P.depth t=some ts) (h:Value.okWide P w r base t v) :
  ∃ l:List Value,v=.agg ⟨l⟩∧l.length=P.cellsOf t∧∀ i x,l[i]?=some x→∃ u,ts[i % ts.length]?=some u∧Cell.okWide P w r base u x:=by
 simp only [Value.okWide,ht] at h
 obtain ⟨cs,rfl,J,ts',h3,_,h5⟩:=h
 rw [IM] at h3
 cases h3
 exact ⟨cs.toList,rfl,J,fun i x hx=>h5 i x (by simpa using hx)⟩
theorem WE {fs:Array Field} (ht:P.underlying t=some (.struct fs)) {b s:TypeId} (IM:P.cellTypes P.depth t=some [b,s,s,b,s,s]) (hn:P.cellsOf t=6) (hb:P.underlying b=some .bool) (hs:P.underlying s=some .string)
  (h:Value.okWide P w r base t v):∃ p:PV,v=p.v:=by
 obtain ⟨l,rfl,hl,hc⟩:=SL ht IM h
 rw [hn] at hl
 match l,hl with
 | [x,y,z,x',y',z'],_ =>
  obtain ⟨u,hu,h0⟩:=hc 0 x rfl
  obtain ⟨u1,uH,h1⟩:=hc 1 y rfl
  obtain ⟨u2,sF,J⟩:=hc 2 z rfl
  obtain ⟨u3,hu3,h3⟩:=hc 3 x' rfl
  obtain ⟨u4,hu4,h4⟩:=hc 4 y' rfl
  obtain ⟨u5,hu5,h5⟩:=hc 5 z' rfl
  cases hu; cases uH; cases sF; cases hu3; cases hu4; cases hu5
  obtain ⟨b0,rfl⟩:=LD hb h0
  obtain ⟨s1,rfl⟩:=Av hs h1
  obtain ⟨s2,rfl⟩:=Av hs J
  obtain ⟨b3,rfl⟩:=LD hb h3
  obtain ⟨s4,rfl⟩:=Av hs h4
  obtain ⟨s5,rfl⟩:=Av hs h5
  exact ⟨((b0,s1,s2),(b3,s4,s5)),rfl⟩
end
end Go.Ae
/- The arguments of a statement, opened: slices of points. -/
namespace Go.Ae
open Go Go.RowKit Go.ChangeShapes Go.WideShapes Go.ChangeAt
theorem QO {P:Program} {f:FuncId} {S:bk} (h:c4 P f S) {i:S.ι} (hp:S.pre i) {IN:List Value} {ν:Nu} {w:World} (ha:bc ν (S.args i) IN) (hH:bR ν ((S.ai i).map some) w)
  (hν:∀ id,(S.ai i).length≤id→ν id=none) {b:Bool} (hv:S.val i=.bool b) :
  Calls P f ⟨IN⟩ w fun e w'=>e=.returned (.bool b)∧Below w.heap.size w w':=by
 have h1:=h.calls i hp ν IN w 0 ha hH hν
 rw [callsIn_wide] at h1
 refine h1.mono fun e w' ⟨v',aj,he,hq⟩=>⟨?_,hq.below⟩
 have hr:=hq.val
 rw [hv] at hr
 rw [he,hr.jM]
section
variable {H:Type} {enc:TypeId × Value→H} {P:Program} {w:World} {base:Nat} {spare:Nat→Bool} {held:Bool}
/-- The types of a point. -/
structure CF (P:Program) (tr tp b s:TypeId):Prop where
 rat:∃ f0 f1 f2,P.underlying tr=some (.struct #[f0,f1,f2])∧(f0.type=b∧f0.offset=0)∧(f1.type=s∧f1.offset=1)∧f2.type=s∧f2.offset=2
 pt:∃ f0 f1,P.underlying tp=some (.struct #[f0,f1])∧(f0.type=tr∧f0.offset=0)∧f1.type=tr∧f1.offset=3
 bool:P.underlying b=some .bool
 str:P.underlying s=some .string
 cr:P.cellsOf tr=3
 cp:P.cellsOf tp=6
 cb:P.cellsOf b=1
 cs:P.cellsOf s=1
theorem Mt {tr tp b s:TypeId} (T:CF P tr tp b s) {n:Nat} {l:List Value} {y:DataW H × List MemPlace} (h:DataW.trod enc P w base spare held n tr l=some y):∃ i:RV,l=i.cells:=by
 obtain ⟨f0,f1,f2,hu,⟨t0,o0⟩,⟨t1,o1⟩,t2,o2⟩:=T.rat
 obtain ⟨y0,y1,y2,m,_,hl,h0,h1,J⟩:=Deep.trod_struct3 hu h
 rw [T.cr] at hl
 rw [t0,o0,T.cb] at h0
 rw [t1,o1,T.cs] at h1
 rw [t2,o2,T.cs] at J
 match l,hl with
 | [x,y,z],_ =>
  obtain ⟨b,e0,_⟩:=DataW.trod_bool T.bool h0
  obtain ⟨s1,e1,_⟩:=DataW.trod_string T.str h1
  obtain ⟨s2,e2,_⟩:=DataW.trod_string T.str J
  simp at e0 e1 e2
  subst e0; subst e1; subst e2
  exact ⟨(b,s1,s2),rfl⟩
theorem WG {tr tp b s:TypeId} (T:CF P tr tp b s) {n:Nat} {l:List Value} {y:DataW H × List MemPlace} (h:DataW.trod enc P w base spare held n tp l=some y):∃ p:PV,l=p.cells:=by
 obtain ⟨f0,f1,hu,⟨t0,o0⟩,t1,o1⟩:=T.pt
 obtain ⟨y0,y1,m,_,hl,h0,h1⟩:=trod_struct2 hu h
 rw [T.cp] at hl
 rw [t0,o0,T.cr] at h0
 rw [t1,o1,T.cr] at h1
 obtain ⟨i,e0⟩:=Mt T h0
 obtain ⟨j,e1⟩:=Mt T h1
 match l,hl with
 | [x,y,z,x',y',z'],_ =>
  have e0:[x,y,z]=i.cells:=e0
  have e1:[x',y',z']=j.cells:=e1
  refine ⟨(i,j),?_⟩
  show [x,y,z]++[x',y',z']=i.cells++j.cells
  rw [e0,e1]
end
end Go.Ae
/- Arguments of a statement: a line. -/
namespace Go.Ae
open Go Go.RowKit Go.ChangeShapes Go.WideShapes Go.ChangeAt
section
variable {P:Program} {w:World} {r:Reach} {base:Nat} {t:TypeId} {v:Value}
end
/-- The types of a line. -/
structure adA (P:Program) (tr tn:TypeId):Prop where
 ln:∃ f0 f1 f2,P.underlying tn=some (.struct #[f0,f1,f2])∧(f0.type=tr∧f0.offset=0)∧(f1.type=tr∧f1.offset=3)∧f2.type=tr∧f2.offset=6
 cn:P.cellsOf tn=9
section
variable {H:Type} {enc:TypeId × Value→H} {P:Program} {w:World} {base:Nat} {spare:Nat→Bool} {held:Bool}
end
end Go.Ae
/- Arguments of a statement: two slices of points. -/
namespace Go.Ae
open Go Go.RowKit Go.ChangeShapes Go.WideShapes Go.ChangeAt
section
variable {H:Type} {enc:TypeId × Value→H} {P:Program} {w:World} {base:Nat} {spare:Nat→Bool} {held:Bool}
theorem Q9 {tl tr tp b s:TypeId} (T:CF P tr tp b s) (ht:P.underlying tl=some (.slice tp)) {v:Value} {d:DataW H} {ps:List MemPlace} {r:Reach} {b0:Nat} (hv:Value.okWide P w r b0 tl v)
  (h:DataW.Trod enc P w base (fun _=>true) held tl v d ps) :
  ∃ (i:PL) (ν:Nu),i.list.length≤9223372036854775807∧(∀ B m,(∀ elems spare,d=.slice elems spare→(elems.length+spare.length)*B≤m)→i.list.length*B≤m)∧ao ν i.val v∧bR ν (i.ai.map some) w∧∀ id,i.ai.length≤id→ν id=none:=by
 obtain ⟨a0,oF,ac4,rfl⟩:=okWide_slice ht hv
 obtain ⟨fuel,hf⟩:=h
 rcases Deep.open_slice ht hf with ⟨zL,_⟩ | ⟨a,len,cap,m,n,D,Pl,zL,hb,hl,hm,mi,hd,hx⟩
 ·simp [Value.cells] at zL
  obtain ⟨rfl,rfl,rfl⟩:=zL
  refine ⟨none,fun _=>none,Nat.zero_le _,fun B m _=>by show 0*B≤m; omega,.iY,⟨fun id b h=>by simp [PL.ai] at h,fun i j bi bj li lj h=>by simp [PL.ai] at h⟩,fun _ _=>rfl⟩
 ·simp [Value.cells] at zL
  obtain ⟨rfl,rfl,rfl⟩:=zL
  have mi:m=ac4:=mi
  subst mi
  simp only [Value.okWide,ht,Cell.okWide,Cell.ok] at hv
  obtain ⟨_,_,_,qH,row,cells,Gt,_⟩:=hv
  have GD:a.block < w.heap.size:=by
   unfold World.shape? at Gt
   split at Gt
   ·rename_i hh
    exact (Array.getElem?_eq_some_iff.1 hh).1
   ·cases Gt
  obtain ⟨V,hV⟩:=Deep.choose_lt (α:=PV) (n:=m) (p:=fun i p=>∀ j,j < 6→w.cell? ((a.add (i*6)).add j)=p.cells[j]?) (fun i hi=>by
   obtain ⟨dW,h1,J⟩:=hx i hi
   rw [T.cp] at h1
   obtain ⟨p,rfl⟩:=WG T J
   obtain ⟨_,_,hc⟩:=World.cells?_some h1
   exact ⟨p,hc⟩)
  have hlm:oF≤m:=hl
  refine ⟨some ((List.range oF).map V,aJ),fun id=>if id=0 then some ⟨a.block,a.off,6,m⟩ else none,?_,?_,?_,⟨fun id b bm=>?_,fun i j bi bj li lj h1 J h3 h4=>?_⟩,fun id bm=>?_⟩
  ·show ((List.range oF).map V).length≤_
   have eJ:m≤9223372036854775807:=hm
   rw [List.length_map,List.length_range]
   omega
  ·intro B M hB
   have hd:=hB _ _ (congrArg Prod.fst hd)
   show ((List.range oF).map V).length*B≤M
   rw [List.length_map,List.length_range]
   refine Nat.le_trans (Nat.mul_le_mul_right _ ?_) hd
   simp
  ·have e:a=Loc.at ⟨a.block,a.off,6,m⟩ 0 0:=by
    obtain ⟨b0,o0,s0⟩:=a
    have:s0=none:=qH
    subst this
    simp [Loc.at]
   have:=ao.slice (ν:=fun id=>if id=0 then some ⟨a.block,a.off,6,m⟩ else none) 0 0 oF aJ m ⟨a.block,a.off,6,m⟩ rfl (.inr rfl) hlm (by simp)
   rw [← e] at this
   show ao _ (.slice (some ⟨0,0,none⟩) ((List.range oF).map V).length aJ) _
   rw [List.length_map,List.length_range]
   exact this
  ·cases id with
   | succ id=>simp [PL.ai] at bm
   | zero =>
    simp [PL.ai] at bm
    subst bm
    refine ⟨_,rfl,⟨rfl,fun r hr=>rfl,fun r hr j v xr=>?_,fun _ r hr v hv=>?_,fun r hr v hv=>?_,fun h=>(by cases h),(fun r h=>by cases h),GD⟩⟩
    ·have eT:r < oF:=hr
     have hr:r < ((List.range oF).map V).length:=by rw [List.length_map,List.length_range]; exact eT
     obtain ⟨p,hp,_,aX⟩:=qV hr
     have hpV:V r=p:=by
      rw [List.getElem?_map,List.getElem?_range eT] at hp
      simpa using hp
     have xr:(cO ((List.range oF).map V) r)[j]?=some v:=xr
     rw [aX] at xr
     have hj:j < 6:=(List.getElem?_eq_some_iff.1 xr).1
     have hc:=hV r (by omega) j hj
     rw [hpV,xr] at hc
     refine ⟨v,?_,?_⟩
     ·rw [← hc]
      congr 1
      obtain ⟨b0,o0,s0⟩:=a
      have:s0=none:=qH
      subst this
      by_cases J:r*6=0
      ·have h3:r=0:=by omega
       by_cases h1:j=0 <;> simp [Loc.at,Addr.add,h1,h3]
      ·by_cases h1:j=0 <;> simp [Loc.at,Addr.add,h1,J,Nat.add_assoc]
     ·have hs:lV p.cells=true:=rfl
      exact ao.kh (dt hs v (List.mem_of_getElem? xr))
    ·exact dt (KF _ r) v hv
    ·have:=dt (KF ((List.range oF).map V) r) v hv
     cases v <;> first | rfl | simp [cC] at this
  ·cases i with
   | succ i=>simp [PL.ai] at h1
   | zero =>
    cases j with
    | zero=>exact absurd rfl h3
    | succ j=>simp [PL.ai] at J
  ·have:id≠0:=by
    intro e; subst e
    have bm:1≤0:=bm
    omega
   simp [this]
end
end Go.Ae
