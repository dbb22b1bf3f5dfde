import Derived.Laws.StructEq
import Derived.Test.YtlapbjdhekcipaaGreatPB
set_option linter.unusedVariables false
set_option linter.unusedSimpArgs false
/- Regions that draw their order, in which slices grow: the evaluation, and that the machine's choice does not matter. -/
namespace Go.Ae
open Go Go.RowKit
/-- Whether one that has gone eats block i. -/
def mK (es:List (Option Nat)) (D:Nat→Bool) (i:Nat):Bool:=(List.range es.length).any fun p=>D p && (es.getD p none == some i)
theorem sY {es:List (Option Nat)} {D:Nat→Bool} {i:Nat}:mK es D i=true↔∃ p,D p=true∧es[p]?=some (some i):=by
 unfold mK
 rw [List.any_eq_true]
 constructor
 ·rintro ⟨p,hp,h⟩
  rw [Bool.and_eq_true,beq_iff_eq,List.getD_eq_getElem?_getD,List.getElem?_eq_getElem (List.mem_range.1 hp)] at h
  exact ⟨p,h.1,by rw [List.getElem?_eq_getElem (List.mem_range.1 hp)]; exact congrArg some h.2⟩
 ·rintro ⟨p,h1,J⟩
  have ak:=(List.getElem?_eq_some_iff.1 J).1
  refine ⟨p,List.mem_range.2 ak,?_⟩
  rw [h1,List.getD_eq_getElem?_getD,J]
  simp
def iG (es:List (Option Nat)) (rs:List cV) (D:Nat→Bool) (m:Nat):List (Option ah):=(List.range m).map fun i=>if D i && !mK es D i then (rs[i]?).bind (·.nb) else none
theorem vF {es:List (Option Nat)} {rs:List cV} {D:Nat→Bool} {m i:Nat} {b:ah}:(iG es rs D m)[i]?=some (some b)↔i < m∧D i=true∧mK es D i=false∧(rs[i]?).bind (·.nb)=some b:=by
 unfold iG
 rw [List.getElem?_map]
 by_cases h:i < m
 ·simp only [List.getElem?_range h,Option.map_some,Option.some.injEq]
  cases D i <;> cases mK es D i <;> simp [h]
 ·rw [List.getElem?_eq_none (by simp; omega)]
  simp [h]
theorem Af (es:List (Option Nat)) (rs:List cV) (D:Nat→Bool) (m:Nat):(iG es rs D m).length=m:=by simp [iG]
/-- The blocks when all of the list have gone. -/
def iH (es:List (Option Nat)) (rs:List cV):List (Option ah):=iG es rs (fun i=>decide (i < rs.length)) rs.length
def GQ (ms:List (List Nat)) (j i:Nat):Bool :=
 decide (i < j) && (ms.getD j []).contains i && (List.range ms.length).all fun q=>q == j || !((ms.getD q []).contains i) || (ms.getD j []).contains q
theorem RS {ms:List (List Nat)} {j i:Nat} (h:GQ ms j i=true):i < j∧i∈ms.getD j []∧∀ q,q≠j→i∈ms.getD q []→q∈ms.getD j []:=by
 unfold GQ at h
 simp only [Bool.and_eq_true,decide_eq_true_eq,List.contains_iff_mem,List.all_eq_true,List.mem_range,Bool.or_eq_true,beq_iff_eq,Bool.not_eq_true'] at h
 refine ⟨h.1.1,h.1.2,fun q hq hi=>?_⟩
 have ak:q < ms.length:=by
  rcases Nat.lt_or_ge q ms.length with h' | h'
  ·exact h'
  ·rw [List.getD_eq_getElem?_getD,List.getElem?_eq_none h'] at hi; cases hi
 rcases h.2 q ak with (h' | h') | h'
 ·exact absurd h' hq
 ·rw [List.contains_iff_mem.2 hi] at h'; cases h'
 ·exact h'
def mL (E:Env) (ops:List Oper) (uR:List (List Nat)) (H:ax) (n0:Nat):List Oper→List (List Nat)→Nat→List Value→List (Option ah)→(List Value→List (Option ah)→Prop)→Prop
 | [],_,_,t,S,k=>k t S
 | o::l,mask::aP,j,t,S,k =>
  match o.guard with
  | none=>match isApp o.op with
   | some (ty,x,y)=>kO S 0 mask fun Sm=>m6 H Sm fun G=>OL E t G n0 (n0+j) ty x y fun v fO nb=>match fO with
    | some i=>GQ uR j i=true∧db t o.dst v fun t'=>iZ S i none fun S1=>iW S1 nb fun S'=>mL E ops uR H n0 l aP (j+1) t' S' k
    | none=>db t o.dst v fun t'=>iW S nb fun S'=>mL E ops uR H n0 l aP (j+1) t' S' k
   | none=>kO S 0 mask fun Sm=>m6 H Sm fun G=>kD E o.op t G (n0+j) fun v nb=>db t o.dst v fun t'=>iW S nb fun S'=>mL E ops uR H n0 l aP (j+1) t' S' k
  | some (g,want)=>match (ops[g]?).bind (·.dst) with
   | some d=>pO t d fun v=>match v with
    | .bool b=>br (b == want)
      (kO S 0 mask fun Sm=>m6 H Sm fun G=>kD E o.op t G (n0+j) fun v nb=>db t o.dst v fun t'=>iW S nb fun S'=>mL E ops uR H n0 l aP (j+1) t' S' k)
      (db t o.dst undef fun t'=>iW S none fun S'=>mL E ops uR H n0 l aP (j+1) t' S' k)
    | .tuple _=>db t o.dst undef fun t'=>iW S none fun S'=>mL E ops uR H n0 l aP (j+1) t' S' k
    | _=>False
   | none=>False
 | _::_,[],_,_,_,_=>False
/-- A region that draws, with growing slices ahead of its last operations. -/
def NY (E:Env) (ops:List Oper) (t:List Value) (H:ax) (k:SK):Prop :=
 ∃ (m:Nat) (aP:List (List Nat)),BC ops m aP=true∧ja H fun n0=>tV ops m fun hd tl=>mL E ops aP H n0 hd aP 0 t [] fun t' S=>m6 H S fun G=>mS E ops tl t' G k
structure ow (P:Program) (ops:List Oper) (t0:List Value) (H:ax) (aP:List (List Nat)) (rs:List cV) (es:List (Option Nat)) (j:Nat):Prop where
 ok:∃ o r fO,ops[j]?=some o∧rs[j]?=some r∧es[j]?=some fO∧(∀ d,o.dst=some d→d < t0.length) ∧
  ((∃ G:ax,(∀ id b,G[id]?=some (some b)→(id < H.length∧H[id]?=some (some b))∨(∃ i,id=H.length+i∧i < j∧i∈aP.getD j []∧(rs[i]?).bind (·.nb)=some b)) ∧
    (∀ i,fO=some i→i < j∧i∈aP.getD j []∧(∀ q,q≠j→i∈aP.getD q []→q∈aP.getD j [])∧∃ b,G[H.length+i]?=some (some b)∧b.own=true) ∧
    (∀ (ν:Nu) (a:Act) (w:World) (q:Option Nat) (n:Nat),(∀ x∈o.op.operands,eW ν (a8 ops rs (fun i=>decide (i < j)) t0 j) a x)→bR ν G w→ν (H.length+j)=none →
     ∀ next Q,(∀ v' w' aj,EPost ν aj (H.length+j) (fO.bind fun i=>ν (H.length+i)) w w' r.v v' r.nb→next (a.put o.dst v') w')→o.wpIn (WF q) n P a w next Q) ∧
    (o.guard=none∨∃ g want d b,o.guard=some (g,want)∧bM ops g=some d∧(a8 ops rs (fun i=>decide (i < j)) t0 j)[d]?=some (.bool b)∧(b == want)=true)) ∨
    (fO=none∧r.v=undef∧r.nb=none∧∃ g want d v,o.guard=some (g,want)∧bM ops g=some d∧(a8 ops rs (fun i=>decide (i < j)) t0 j)[d]?=some v∧((∃ b,v=.bool b∧(b == want)=false)∨∃ vs,v=.tuple vs)))
theorem ow.more {P:Program} {ops:List Oper} {t0:List Value} {H:ax} {aP:List (List Nat)} {rs:List cV} {es:List (Option Nat)} {j:Nat} (h:ow P ops t0 H aP rs es j) (hj:j < rs.length) (hj2:j < es.length) (r:cV) (e:Option Nat):ow P ops t0 H aP (rs++[r]) (es++[e]) j:=by
 have he:∀ i,i≤j→(rs++[r])[i]?=rs[i]?:=fun i hi=>by rw [List.getElem?_append_left (by omega)]
 have hv:∀ D,a8 ops (rs++[r]) D t0 j=a8 ops rs D t0 j:=fun D=>sP (fun i hi=>he i (by omega))
 obtain ⟨o,q,fO,h1,J,jG,h3,h4⟩:=h.ok
 refine ⟨⟨o,q,fO,h1,by rw [he j (Nat.le_refl _)]; exact J,by rw [List.getElem?_append_left hj2]; exact jG,h3,?_⟩⟩
 rw [hv]
 rcases h4 with ⟨G,g1,g2,g3,g4⟩ | h4
 ·exact .inl ⟨G,fun id b hb=>(g1 id b hb).imp (fun x=>x) (fun ⟨i,k1,k2,k3,k4⟩=>⟨i,k1,k2,k3,by rw [he i (by omega)]; exact k4⟩),g2,g3,g4⟩
 ·exact .inr h4
def pJ (S:List (Option ah)):Option Nat→List (Option ah)
 | some i=>S.set i none
 | none=>S
theorem Td {es:List (Option Nat)} {rs:List cV} {i:Nat} {b:ah} (h:(iH es rs)[i]?=some (some b)):(rs[i]?).bind (·.nb)=some b:=(vF.1 h).2.2.2
theorem RT {es:List (Option Nat)} {rs:List cV} (hl:es.length=rs.length) (ak:∀ (p i:Nat),es[p]?=some (some i)→i < p) (r:cV) (e:Option Nat) (he:∀ i,e=some i→i < rs.length) :
  iH (es++[e]) (rs++[r])=pJ (iH es rs) e++[r.nb]:=by
 have hD:∀ i,i < rs.length+1→decide (i < (rs++[r]).length)=true:=fun i hi=>by simp; omega
 have PD:∀ i,mK (es++[e]) (fun i=>decide (i < (rs++[r]).length)) i=(mK es (fun i=>decide (i < rs.length)) i || e == some i):=fun i=>by
  rw [Bool.eq_iff_iff,Bool.or_eq_true,sY,sY,beq_iff_eq]
  constructor
  ·rintro ⟨p,_,J⟩
   rw [List.getElem?_append] at J
   split at J
   ·rename_i hp
    exact .inl ⟨p,by simp; omega,J⟩
   ·right
    have:p - es.length=0:=by
     rcases Nat.eq_zero_or_pos (p - es.length) with h | h
     ·exact h
     ·rw [List.getElem?_eq_none (by simp; omega)] at J; cases J
    rw [this] at J
    simpa using J
  ·rintro (⟨p,h1,J⟩ | J)
   ·have:=(List.getElem?_eq_some_iff.1 J).1
    exact ⟨p,by simp at h1 ⊢; omega,by rw [List.getElem?_append_left this]; exact J⟩
   ·exact ⟨es.length,by simp; omega,by rw [List.getElem?_append_right (Nat.le_refl _)]; simp [J]⟩
 apply List.ext_getElem?
 intro x
 have hlen:(pJ (iH es rs) e).length=rs.length:=by
  cases e <;> simp [pJ,iH,Af]
 unfold iH iG
 rw [List.getElem?_map]
 by_cases hx:x < rs.length
 ·rw [List.getElem?_range (by simp; omega),List.getElem?_append_left (by cases e <;> simp [pJ] <;> omega)]
  simp only [Option.map_some]
  simp only [PD x,hD x (by omega)]
  rw [List.getElem?_append_left hx]
  unfold pJ
  cases e with
  | none =>
   dsimp only
   rw [List.getElem?_map,List.getElem?_range hx]
   simp [hx]
  | some i =>
   dsimp only
   by_cases Ix:i=x
   ·subst Ix
    rw [List.getElem?_set_self (by simpa using hx)]
    simp
   ·rw [List.getElem?_set_ne Ix,List.getElem?_map,List.getElem?_range hx]
    have:(some i == some x)=false:=by simp [Ix]
    rw [this]
    simp [hx]
 ·by_cases p7:x=rs.length
  ·subst p7
   rw [List.getElem?_range (by simp),List.getElem?_append_right (by cases e <;> simp [pJ])]
   have aI:mK es (fun i=>decide (i < rs.length)) rs.length=false:=by
    cases h:mK es (fun i=>decide (i < rs.length)) rs.length with
    | false=>rfl
    | true =>
     obtain ⟨p,h1,J⟩:=sY.1 h
     have:=ak p _ J
     have:=of_decide_eq_true h1
     omega
   have Hw:(e == some rs.length)=false:=by
    cases e with
    | none=>rfl
    | some i=>have:=he i rfl; simp; omega
   simp only [Option.map_some]
   simp only [PD,hD _ (Nat.lt_succ_self _),aI,Hw]
   cases e <;> simp [pJ]
  ·rw [List.getElem?_eq_none (by simp; omega),List.getElem?_eq_none (by cases e <;> simp [pJ] <;> omega)]; rfl
theorem Kt {P:Program} {E:Env} (hE:EnvOk P E) {ops:List Oper} {t0:List Value} {H:ax} {aP:List (List Nat)} {k:List Value→List (Option ah)→Prop} :
  ∀ {l:List Oper} {ms:List (List Nat)} {j:Nat} {rs:List cV} {es:List (Option Nat)},rs.length=j→es.length=j→(∀ (p i:Nat),es[p]?=some (some i)→i < p)→(∀ (i:Nat) o,l[i]?=some o→ops[j+i]?=some o)→(∀ i,i < l.length→ms.getD i []=aP.getD (j+i) []) →
  (∀ i,i < j→ow P ops t0 H aP rs es i)→mL E ops aP H H.length l ms j (a8 ops rs (fun i=>decide (i < j)) t0 j) (iH es rs) k →
  ∃ (bX:List cV) (jI:List (Option Nat)),bX.length=j+l.length∧jI.length=j+l.length∧(∀ i,i < j+l.length→ow P ops t0 H aP bX jI i)∧k (a8 ops bX (fun i=>decide (i < j+l.length)) t0 (j+l.length)) (iH jI bX)
 | [],ms,j,rs,es,hl,iK,_,_,_,a9,h=>⟨rs,es,hl,iK,a9,h⟩
 | o::l,[],j,rs,es,hl,iK,_,_,_,a9,h=>h.elim
 | o::l,mask::ms,j,rs,es,hl,iK,ak,ho,hm,a9,h=>by
  have nO:ops[j]?=some o:=by have:=ho 0 o rfl; simpa using this
  have BY:mask=aP.getD j []:=by have:=hm 0 (by simp); simpa using this
  -- the next step, whatever this one's result
  have next:∀ (r:cV) (e:Option Nat) t',(t'=match o.dst with | some d=>(a8 ops rs (fun i=>decide (i < j)) t0 j).set d r.v | none=>a8 ops rs (fun i=>decide (i < j)) t0 j)→(∀ i,e=some i→i < j) →
    (ow P ops t0 H aP (rs++[r]) (es++[e]) j)→mL E ops aP H H.length l ms (j+1) t' (pJ (iH es rs) e++[r.nb]) k →
    ∃ (bX:List cV) (jI:List (Option Nat)),bX.length=j+(o::l).length∧jI.length=j+(o::l).length∧(∀ i,i < j+(o::l).length→ow P ops t0 H aP bX jI i)∧k (a8 ops bX (fun i=>decide (i < j+(o::l).length)) t0 (j+(o::l).length)) (iH jI bX):=by
   intro r e t' jg ff hj h'
   have hv:a8 ops (rs++[r]) (fun i=>decide (i < j+1)) t0 (j+1)=t':=by
    have hr:(rs++[r])[j]?=some r:=by rw [← hl]; simp
    have hd:bM ops j=o.dst:=by simp [bM,nO]
    have yC:a8 ops (rs++[r]) (fun i=>decide (i < j+1)) t0 j=a8 ops rs (fun i=>decide (i < j)) t0 j:=by
     rw [sP (bX:=rs) (fun i hi=>by rw [List.getElem?_append_left (by omega)])]
     exact xA (fun i hi=>by simp; omega)
    have Ht:decide (j < j+1)=true:=by simp
    rw [jg,DW,hr,hd,yC,Ht]
    cases o.dst <;> rfl
   rw [← hv,← RT (iK.trans hl.symm) ak r e (fun i hi=>by rw [hl]; exact ff i hi)] at h'
   obtain ⟨bX,jI,k1,PF,k2,k3⟩:=Kt hE (l:=l) (ms:=ms) (j:=j+1) (rs:=rs++[r]) (es:=es++[e]) (by simp [hl]) (by simp [iK]) (fun p i hp=>by
     rw [List.getElem?_append] at hp
     split at hp
     ·exact ak p i hp
     ·rename_i dS
      have:p - es.length=0:=by
       rcases Nat.eq_zero_or_pos (p - es.length) with h | h
       ·exact h
       ·rw [List.getElem?_eq_none (by simp; omega)] at hp; cases hp
      rw [this] at hp
      have:=ff i (by simpa using hp)
      omega) (fun i p hp=>by have:=ho (i+1) p (by simpa using hp); rwa [show j+1+i=j+(i+1) by omega])
    (fun i hi=>by have:=hm (i+1) (by simp; omega); rw [show j+1+i=j+(i+1) by omega]; simpa using this)
    (fun i hi=>by
     by_cases e':i=j
     ·subst e'; exact hj
     ·exact (a9 i (by omega)).more (by omega) (by omega) r e) h'
   have e2:j+1+l.length=j+(o::l).length:=by simp; omega
   rw [e2] at k1 PF k2 k3
   exact ⟨bX,jI,k1,PF,k2,k3⟩
  have nP:∀ r:cV,a8 ops (rs++[r]) (fun i=>decide (i < j)) t0 j=a8 ops rs (fun i=>decide (i < j)) t0 j:=fun r=>sP (fun i hi=>by rw [List.getElem?_append_left (by omega)])
  have sE:∀ r:cV,(rs++[r])[j]?=some r:=fun r=>by rw [← hl]; simp
  have C2:∀ e:Option Nat,(es++[e])[j]?=some e:=fun e=>by rw [← iK]; simp
  -- what is seen of the blocks
  have seen:∀ {Sm:List (Option ah)} (r:cV),(∀ jj b,Sm[jj]?=some (some b)→(iH es rs)[jj]?=some (some b)∧(0+jj)∈mask)→∀ id b,(H++Sm)[id]?=some (some b) →
    (id < H.length∧H[id]?=some (some b))∨(∃ i,id=H.length+i∧i < j∧i∈aP.getD j []∧((rs++[r])[i]?).bind (·.nb)=some b):=by
   intro Sm r h3 id b hb
   rw [List.getElem?_append] at hb
   split at hb
   ·exact .inl ⟨by assumption,hb⟩
   ·rename_i dS
    obtain ⟨q1,q2⟩:=h3 _ b hb
    have acD:id - H.length < rs.length:=by
     have:=(List.getElem?_eq_some_iff.1 q1).1
     rwa [iH,Af] at this
    refine .inr ⟨id - H.length,by omega,by omega,by rw [← BY]; simpa using q2,?_⟩
    rw [List.getElem?_append_left acD]
    exact Td q1
  have Cv:∀ {v:Value} {kk:List Value→Prop},db (a8 ops rs (fun i=>decide (i < j)) t0 j) o.dst v kk→∃ t',(t'=match o.dst with | some d=>(a8 ops rs (fun i=>decide (i < j)) t0 j).set d v | none=>a8 ops rs (fun i=>decide (i < j)) t0 j)∧(∀ d,o.dst=some d→d < t0.length)∧kk t':=by
   intro v kk hk
   cases hd:o.dst with
   | none=>rw [hd] at hk; exact ⟨_,rfl,(fun d hd=>by cases hd),hk⟩
   | some d =>
    rw [hd] at hk
    obtain ⟨k1,k2⟩:=n7 hk
    rw [qQ] at k1
    exact ⟨_,rfl,(fun d' cM=>by cases cM; exact k1),k2⟩
  have run:(o.guard=none∨∃ g want d b,o.guard=some (g,want)∧bM ops g=some d∧(a8 ops rs (fun i=>decide (i < j)) t0 j)[d]?=some (.bool b)∧(b == want)=true) →
    (kO (iH es rs) 0 mask fun Sm=>m6 H Sm fun G=>kD E o.op (a8 ops rs (fun i=>decide (i < j)) t0 j) G (H.length+j) fun v nb=>db (a8 ops rs (fun i=>decide (i < j)) t0 j) o.dst v fun t'=>iW (iH es rs) nb fun S'=>mL E ops aP H H.length l ms (j+1) t' S' k) →
    ∃ (bX:List cV) (jI:List (Option Nat)),bX.length=j+(o::l).length∧jI.length=j+(o::l).length∧(∀ i,i < j+(o::l).length→ow P ops t0 H aP bX jI i)∧k (a8 ops bX (fun i=>decide (i < j+(o::l).length)) t0 (j+(o::l).length)) (iH jI bX):=by
   intro hg h
   obtain ⟨Sm,h1,J,h3⟩:=vv h
   have h1:=s9 h1
   obtain ⟨v,nb,hk,hq⟩:=AE (P:=P) hE h1
   obtain ⟨t',e1,e2,e3⟩:=Cv hk
   refine next ⟨v,nb,true⟩ none t' e1 (fun i hi=>by cases hi) ⟨⟨o,⟨v,nb,true⟩,none,nO,sE _,C2 _,e2,.inl ⟨H++Sm,seen _ h3,(fun i hi=>by cases hi),?_,?_⟩⟩⟩ (sT e3)
   ·rw [nP]
    exact fun ν a w q n ha hH hn next Q hN=>hq o ν a w q n rfl ha hH hn next Q (fun v' w' aj hp=>hN v' w' aj (hp.e _))
   ·rw [nP]; exact hg
  have skip:(∃ g want d v,o.guard=some (g,want)∧bM ops g=some d∧(a8 ops rs (fun i=>decide (i < j)) t0 j)[d]?=some v∧((∃ b,v=.bool b∧(b == want)=false)∨∃ vs,v=.tuple vs)) →
    (db (a8 ops rs (fun i=>decide (i < j)) t0 j) o.dst undef fun t'=>iW (iH es rs) none fun S'=>mL E ops aP H H.length l ms (j+1) t' S' k) →
    ∃ (bX:List cV) (jI:List (Option Nat)),bX.length=j+(o::l).length∧jI.length=j+(o::l).length∧(∀ i,i < j+(o::l).length→ow P ops t0 H aP bX jI i)∧k (a8 ops bX (fun i=>decide (i < j+(o::l).length)) t0 (j+(o::l).length)) (iH jI bX):=by
   intro hg hk
   obtain ⟨t',e1,e2,e3⟩:=Cv hk
   exact next ⟨undef,none,false⟩ none t' e1 (fun i hi=>by cases hi) ⟨⟨o,⟨undef,none,false⟩,none,nO,sE _,C2 _,e2,.inr ⟨rfl,rfl,rfl,by rw [nP]; exact hg⟩⟩⟩ (sT e3)
  unfold mL at h
  split at h
  ·rename_i hg
   split at h
   ·rename_i ty x y acE
    obtain ⟨Sm,h1,J,h3⟩:=vv h
    have h1:=s9 h1
    obtain ⟨v,fO,nb,hk,jX,hq⟩:=Tc (P:=P) hE h1
    obtain ⟨c,uS,hc2,PG,hc4⟩:=RR acE
    -- what the step gives
    have step:∀ (ν:Nu) (a:Act) (w:World) (q:Option Nat) (n:Nat),(∀ x∈o.op.operands,eW ν (a8 ops rs (fun i=>decide (i < j)) t0 j) a x)→bR ν (H++Sm) w→ν (H.length+j)=none →
      ∀ next Q,(∀ v' w' aj,EPost ν aj (H.length+j) (fO.bind fun i=>ν (H.length+i)) w w' v v' nb→next (a.put o.dst v') w')→o.wpIn (WF q) n P a w next Q:=by
     intro ν a w q n ha hH hn next Q hN
     have gw:∀ z,z∈[x,y]→z∈o.op.operands:=fun z hz=>by
      rw [uS]
      simp only [List.mem_cons,List.mem_nil_iff,or_false] at hz
      rcases hz with rfl | rfl <;> simp [Op.operands,Call.operands,PG]
     obtain ⟨v',w',aj,bA,hp⟩:=hq ν a w o.type (ha x (gw x (by simp))) (ha y (gw y (by simp))) hH hn
     exact jm (by simp [uS]) (by simp [execOp,uS,resolve,hc2,PG,hc4,invoke,builtin,bA]) next Q (hN _ _ _ hp)
    cases fO with
    | none =>
     obtain ⟨t',e1,e2,e3⟩:=Cv hk
     exact next ⟨v,nb,true⟩ none t' e1 (fun i hi=>by cases hi) ⟨⟨o,⟨v,nb,true⟩,none,nO,sE _,C2 _,e2,.inl ⟨H++Sm,seen _ h3,(fun i hi=>by cases hi),by rw [nP]; exact step,.inl hg⟩⟩⟩ (sT e3)
    | some i =>
     obtain ⟨acF,hk⟩:=hk
     obtain ⟨xn,zA,hiq⟩:=RS acF
     obtain ⟨t',e1,e2,e3⟩:=Cv hk
     obtain ⟨_,e3⟩:=lJ e3
     exact next ⟨v,nb,true⟩ (some i) t' e1 (fun i' hi=>by cases hi; exact xn) ⟨⟨o,⟨v,nb,true⟩,some i,nO,sE _,C2 _,e2,.inl ⟨H++Sm,seen _ h3,(fun i' hi=>by cases hi; exact ⟨xn,zA,hiq,jX i rfl⟩),by rw [nP]; exact step,.inl hg⟩⟩⟩ (sT e3)
   ·exact run (.inl hg) h
  ·rename_i g want hg
   split at h
   ·rename_i d hd
    obtain ⟨v,hv,h⟩:=n6 h
    split at h
    ·rename_i b
     cases hb:(b == want) with
     | true=>exact run (.inr ⟨g,want,d,b,hg,hd,hv,hb⟩) (Bb h hb)
     | false=>exact skip ⟨g,want,d,_,hg,hd,hv,.inl ⟨b,rfl,hb⟩⟩ (AS h hb)
    ·exact skip ⟨g,want,d,_,hg,hd,hv,.inr ⟨_,rfl⟩⟩ h
    ·exact h.elim
   ·exact h.elim
section
variable {P:Program} {E:Env} {r:Option Nat} {n:Nat} {F:Fr} {ops:Array Oper} {Q:Exit→Act→World→Prop} {m:Nat} {aP:List (List Nat)} {k:SK}
theorem RU (hc:Order ops.toList aP) (tP:m≤ops.size)
  (yc:∀ j o i p d,j < m→i < m→i≠j→ops.toList[j]?=some o→ops.toList[i]?=some p→p.dst=some d→o.dst≠some d∧(d ∉ iO ops.toList o∨i∈aP.getD j []∨j∈aP.getD i []))
  (BZ:∀ j,j < ops.size→m≤j→∀ i,i < m→i∈aP.getD j [])
  {t0:List Value} {H:ax} {rs:List cV} {es:List (Option Nat)} (hel:es.length=m) (hh:∀ i,i < m→ow P ops.toList t0 H aP rs es i)
  (oC:∀ (fuel:Nat) (aA:Array Bool) (ν:Nu) (a:Act) (w:World),aA.size=ops.size→oj ops.toList (DB aA)→(∀ i,DB aA i=true→i < m)→(∀ i,i < m→DB aA i=true) →
   bt F ν (a8 ops.toList rs (DB aA) t0 m) (H++iG es rs (DB aA) m) a w→gd (DB aA) ops.size≤fuel→wpAnyIn (WF r) n P .any ops Q fuel aA a w) :
  ∀ (fuel:Nat) (aA:Array Bool) (ν:Nu) (a:Act) (w:World),aA.size=ops.size→oj ops.toList (DB aA)→(∀ i,DB aA i=true→i < m) →
  bt F ν (a8 ops.toList rs (DB aA) t0 m) (H++iG es rs (DB aA) m) a w→(∀ i,i < m→DB aA i=false→ν (H.length+i)=none)→gd (DB aA) ops.size≤fuel →
  wpAnyIn (WF r) n P .any ops Q fuel aA a w:=by
 have kV:∀ i d,i < m→bM ops.toList i=some d→d < t0.length:=by
  intro i d hi hd
  obtain ⟨o,q,_,h1,J,_,h3,_⟩:=(hh i hi).ok
  unfold bM at hd
  rw [h1] at hd
  exact h3 d hd
 have oN:wJ ops.toList m:=by
  intro i j d hi hj h1 J
  rcases Nat.decEq i j with aI | he
  ·obtain ⟨o,q,_,k1,_⟩:=(hh i hi).ok
   obtain ⟨p,q',_,k2,_⟩:=(hh j hj).ok
   unfold bM at h1 J
   rw [k1] at h1; rw [k2] at J
   exact absurd h1 (yc i o j p d hi hj (Ne.symm aI) k1 k2 J).1
  ·exact he
 intro fuel
 induction fuel with
 | zero =>
  intro aA ν a w hs eH ak hi fM hu
  have cS:∀ i,i < ops.size→DB aA i=true:=fun i aM=>by
   cases hd:DB aA i with
   | true=>rfl
   | false=>have:=DX aM hd; omega
  exact oC 0 aA ν a w hs eH ak (fun i aM=>cS i (by omega)) hi hu
 | succ fuel ih =>
  intro aA ν a w hs eH ak hi fM hu
  by_cases ov:∀ i,i < m→DB aA i=true
  ·exact oC (fuel+1) aA ν a w hs eH ak ov hi hu
  ·-- something of the head has not gone: the least such one may go
   have hex:∃ i,i < m∧DB aA i=false:=by
    refine Classical.byContradiction fun aI=>ov fun i aM=>?_
    cases hd:DB aA i with
    | true=>rfl
    | false=>exact absurd ⟨i,aM,hd⟩ aI
   obtain ⟨i1,CY,fG⟩:=hex
   obtain ⟨i0,OH,fh,gJ⟩:=Dw fG
   have gk:i0 < m:=by omega
   have hr:=Am hc hs (by omega:i0 < ops.size) fh gJ
   refine ⟨(fun hn=>by rw [hn] at hr; cases hr),fun j hj=>?_⟩
   rw [mem_ready] at hj
   obtain ⟨h1,o,ho,he⟩:=hj
   have m7:j < ops.size:=(Array.getElem?_eq_some_iff.1 ho).1
   rw [tj (by omega)] at h1
   have fE:ops.toList[j]?=some o:=by simpa using ho
   have lu:=sQ hc eH j o fE (fun e' fF bE=>he e' fF bE)
   have mf:j < m:=by
    rcases Nat.lt_or_ge j m with h | h
    ·exact h
    ·have:=lu i1 (BZ j m7 h i1 CY)
     rw [fG] at this; cases this
   obtain ⟨o',q,fO,g1,g2,g2e,g3,g4⟩:=(hh j mf).ok
   rw [fE] at g1; cases g1
   have Iq:bM ops.toList j=o.dst:=by simp [bM,fE]
   -- what it reads stands as the text's order has it
   have GN:∀ d,d∈iO ops.toList o→(a8 ops.toList rs (DB aA) t0 m)[d]?=(a8 ops.toList rs (fun i=>decide (i < j)) t0 j)[d]?:=by
    intro d hd
    rw [← vE (j:=j) (m:=m) (by omega) (fun i h1 J=>by simp; omega)]
    refine xL oN kV (fun i aM fC=>?_)
    by_cases e:i=j
    ·subst e; rw [h1]; simp
    ·obtain ⟨p,q',_,k1,_⟩:=(hh i aM).ok
     have Ir:p.dst=some d:=by unfold bM at fC; rw [k1] at fC; exact fC
     rcases (yc j o i p d mf aM e fE k1 Ir).2 with h | h | h
     ·exact absurd hd h
     ·rw [lu i h]
      have:=(hc.mask j o fE i h).1
      simp [this]
     ·have hji:=(hc.mask i p k1 j h).1
      have:DB aA i=false:=by
       cases cM:DB aA i with
       | false=>rfl
       | true =>
        have:=sQ hc eH i p k1 (eH i p cM k1) j h
        rw [h1] at this; cases this
      rw [this]; simp; omega
   have cZ:∀ i,DB (aA.setIfInBounds j true) i=(DB aA i || i == j):=fun i=>BD (by omega) i
   have w6:oj ops.toList (DB (aA.setIfInBounds j true)):=by
    intro i p aM hp e' fF bE
    rw [cZ] at aM ⊢
    by_cases e:i=j
    ·subst e
     rw [fE] at hp; cases hp
     have:DB aA e'.on=true:=he e' fF bE
     rw [this]; rfl
    ·have e2:(i == j)=false:=by simp [e]
     rw [e2,Bool.or_false] at aM
     rw [eH i p aM hp e' fF bE]; rfl
   have pS:∀ i,DB (aA.setIfInBounds j true) i=true→i < m:=fun i aM=>by
    rw [cZ] at aM
    by_cases e:i=j
    ·subst e; exact mf
    ·have e2:(i == j)=false:=by simp [e]
     rw [e2,Bool.or_false] at aM
     exact ak i aM
   have sh:gd (DB (aA.setIfInBounds j true)) ops.size≤fuel:=by
    have:=Ay cZ h1 ops.size
    rw [if_pos m7] at this; omega
   have tU:=Ks (D:=DB aA) (D':=DB (aA.setIfInBounds j true)) oN kV mf h1 cZ g2
   rw [Iq] at tU
   have hat:∀ p i,es[p]?=some (some i)→p < m∧i < p∧i∈aP.getD p []∧∀ q,q≠p→i∈aP.getD q []→q∈aP.getD p []:=by
    intro p i hp
    have uT:p < m:=by have:=(List.getElem?_eq_some_iff.1 hp).1; omega
    obtain ⟨_,_,e',_,_,k3,_,k4⟩:=(hh p uT).ok
    rw [hp] at k3; cases k3
    rcases k4 with ⟨_,_,k5,_⟩ | ⟨k5,_⟩
    ·obtain ⟨y1,y2,y3,_⟩:=k5 i rfl
     exact ⟨uT,y1,y2,y3⟩
    ·cases k5
   -- what this one sees has not been eaten
   have fresh:∀ i,i∈aP.getD j []→mK es (DB aA) i=false:=by
    intro i aM
    cases fF:mK es (DB aA) i with
    | false=>rfl
    | true =>
     obtain ⟨p,m8,qA⟩:=sY.1 fF
     obtain ⟨uT,_,_,y3⟩:=hat p i qA
     have PH:j≠p:=fun e=>by rw [← e,h1] at m8; cases m8
     have hjp:=y3 j PH aM
     obtain ⟨op,_,_,k1,_⟩:=(hh p uT).ok
     have:=sQ hc eH p op k1 (eH p op m8 k1) j hjp
     rw [h1] at this; cases this
   have fe:∀ (id:Nat) (c:ah),(H++iG es rs (DB (aA.setIfInBounds j true)) m)[id]?=some (some c) →
     ((H++iG es rs (DB aA) m)[id]?=some (some c)∧∀ i,fO=some i→id≠H.length+i)∨(id=H.length+j∧q.nb=some c):=by
    intro id c
    by_cases bm:id < H.length
    ·rw [List.getElem?_append_left bm,List.getElem?_append_left bm]
     exact fun h=>.inl ⟨h,fun i _=>by omega⟩
    ·rw [List.getElem?_append_right (by omega),List.getElem?_append_right (by omega),vF,vF]
     rintro ⟨k1,k2,k3,k4⟩
     rw [cZ] at k2
     by_cases e:id - H.length=j
     ·refine .inr ⟨by omega,?_⟩
      rw [e,g2] at k4; exact k4
     ·have e2:(id - H.length == j)=false:=by simp [e]
      rw [e2,Bool.or_false] at k2
      refine .inl ⟨⟨k1,k2,?_,k4⟩,fun i aM adx=>?_⟩
      ·cases fF:mK es (DB aA) (id - H.length) with
       | false=>rfl
       | true =>
        obtain ⟨p,m8,qA⟩:=sY.1 fF
        rw [sY.2 ⟨p,by rw [cZ,m8]; rfl,qA⟩] at k3; cases k3
      ·have hx:id - H.length=i:=by omega
       rw [hx,sY.2 ⟨j,by rw [cZ]; simp,by rw [g2e,aM]⟩] at k3; cases k3
   have mI:ν (H.length+j)=none:=fM j mf h1
   have GO:(H++iG es rs (DB aA) m).length=H.length+m:=by rw [List.length_append,Af]
   have Gc:(H++iG es rs (DB (aA.setIfInBounds j true)) m).length=H.length+m:=by rw [List.length_append,Af]
   have hG:∀ {G:ax},(∀ (id:Nat) (b:ah),G[id]?=some (some b)→(id < H.length∧H[id]?=some (some b))∨(∃ i,id=H.length+i∧i < j∧i∈aP.getD j []∧(rs[i]?).bind (·.nb)=some b)) →
     ∀ (id:Nat) (b:ah),G[id]?=some (some b)→(H++iG es rs (DB aA) m)[id]?=some (some b):=by
    intro G q1 id b hb
    rcases q1 id b hb with ⟨h3,h4⟩ | ⟨i,h3,h4,h5,h6⟩
    ·rw [List.getElem?_append_left h3]; exact h4
    ·subst h3
     rw [List.getElem?_append_right (by omega)]
     rw [show H.length+i - H.length=i by omega,vF]
     exact ⟨by omega,lu i h5,fresh i h5,h6⟩
   have acG:∀ i,fO=some i→∃ bi,(H++iG es rs (DB aA) m)[H.length+i]?=some (some bi)∧bi.own=true:=by
    intro i aM
    rcases g4 with ⟨G,q1,q2,_⟩ | ⟨q1,_⟩
    ·obtain ⟨_,_,_,bi,y1,y2⟩:=q2 i aM
     exact ⟨bi,hG q1 _ _ y1,y2⟩
    ·rw [aM] at q1; cases q1
   -- the state behind it
   have after:∀ v' w' aj,EPost ν aj (H.length+j) (fO.bind fun i=>ν (H.length+i)) w w' q.v v' q.nb→wpAnyIn (WF r) n P .any ops Q fuel (aA.setIfInBounds j true) (a.put o.dst v') w':=by
    intro v' w' aj hp
    have hold:∀ lo,(fO.bind fun i=>ν (H.length+i))=some lo→∃ i bi,fO=some i∧ν (H.length+i)=some lo∧(H++iG es rs (DB aA) m)[H.length+i]?=some (some bi)∧bi.own=true:=by
     intro lo gK
     cases fF:fO with
     | none=>rw [fF] at gK; cases gK
     | some i =>
      rw [fF] at gK
      obtain ⟨bi,y1,y2⟩:=acG i fF
      exact ⟨i,bi,rfl,gK,y1,y2⟩
    have dn:∀ (id:Nat) (c:ah),(H++iG es rs (DB aA) m)[id]?=some (some c)→id≠H.length+j:=fun id c h e=>by
     obtain ⟨l',cl,_⟩:=hi.hp.aH id c h
     rw [e,mI] at cl; cases cl
    have tP:w.heap.size≤w'.heap.size:=by
     rcases hp.C1 with hb | ⟨_,_,_,_,h,_⟩
     ·exact hb.size
     ·exact h
    have sC:Kept F.O F.W w':=by
     rcases hp.C1 with hb | ⟨lo,gK,_,J,h3,h4,h5,h6⟩
     ·exact hi.kp.below hb
     ·obtain ⟨i,bi,y1,y2,y3,y4⟩:=hold lo gK
      refine ⟨h4.trans hi.kp.os,h5.trans hi.kp.tape,h6.trans hi.kp.output,Nat.le_trans hi.kp.size h3,fun x hx hO=>(J x fun e=>?_).trans (hi.kp.aH x hx hO)⟩
      subst e
      rcases hi.own _ bi lo y3 y4 y2 with h | h
      ·exact hO h
      ·omega
    have Hf:∀ (id:Nat) (c:ah) (l:Loc),(H++iG es rs (DB aA) m)[id]?=some (some c)→(∀ i,fO=some i→id≠H.length+i)→ν id=some l→bN ν l c w→bN ν l c w':=by
     intro id c l h aI hl hB
     rcases hp.C1 with hb | ⟨lo,gK,_,J,h3,_⟩
     ·exact hB.below hb
     ·obtain ⟨i,bi,y1,y2,y3,y4⟩:=hold lo gK
      exact hB.same (J _ (Ne.symm (hi.hp.sep _ id bi c lo l y3 h (Ne.symm (aI i y1)) y4 y2 hl))) h3
    have MI:∀ (id:Nat) (c:ah) (l l2:Loc),(H++iG es rs (DB aA) m)[id]?=some (some c)→(∀ i,fO=some i→id≠H.length+i)→ν id=some l→(w.heap.size≤l2.aH∨∃ lo,(fO.bind fun i=>ν (H.length+i))=some lo∧l2.aH=lo.aH)→l2.aH≠l.aH:=by
     intro id c l l2 h aI hl J
     rcases J with J | ⟨lo,gK,J⟩
     ·obtain ⟨l',cl,hB⟩:=hi.hp.aH id c h
      rw [hl] at cl; cases cl
      have:=hB.live
      omega
     ·obtain ⟨i,bi,y1,y2,y3,y4⟩:=hold lo gK
      rw [J]
      exact hi.hp.sep _ id bi c lo l y3 h (Ne.symm (aI i y1)) y4 y2 hl
    refine ih _ aj _ w' (by simp [hs]) w6 pS ⟨?_,?_,⟨fun id c cm=>?_,fun x y bx bY lx ly hx hy aI Iy e1 e2=>?_⟩,fun id bm=>?_,sC,fun id c lc cm nK dy=>?_,Nu.le_trans hi.mono hp.le⟩ (fun i aM cM=>?_) sh
    ·rw [tU]
     cases hd:o.dst with
     | none=>exact hi.tm.mono hp.le
     | some d=>rw [qZ]; exact (hi.tm.mono hp.le).set hp.val d
    ·rcases hp.C1 with hb | ⟨lo,gK,⟨cur,t,jz⟩,J,h3,_⟩
     ·cases o.dst <;> exact hi.df.below hb
     ·cases o.dst <;> exact hi.df.gh jz J
    ·rcases fe id c cm with ⟨h,aI⟩ | ⟨h3,h4⟩
     ·obtain ⟨l,hl,hB⟩:=hi.hp.aH id c h
      exact ⟨l,hp.le _ _ hl,(Hf id c l h aI hl hB).mono hp.le⟩
     ·obtain ⟨l,hl,hB,_⟩:=hp.gI c h4
      exact ⟨l,by rw [h3]; exact hl,hB⟩
    ·rcases fe x bx hx with ⟨h,cj⟩ | ⟨h3,h4⟩
     ·rw [hp.only x (dn x bx h)] at e1
      rcases fe y bY hy with ⟨g,PI⟩ | ⟨g3,g4⟩
      ·rw [hp.only y (dn y bY g)] at e2
       exact hi.hp.sep x y bx bY lx ly h g aI Iy e1 e2
      ·obtain ⟨l,hl,_,hle⟩:=hp.gI bY g4
       rw [g3,hl] at e2; cases e2
       exact Ne.symm (MI x bx lx _ h cj e1 hle)
     ·obtain ⟨l,hl,_,hle⟩:=hp.gI bx h4
      rw [h3,hl] at e1; cases e1
      rcases fe y bY hy with ⟨g,PI⟩ | ⟨g3,g4⟩
      ·rw [hp.only y (dn y bY g)] at e2
       exact MI y bY ly _ g PI e2 hle
      ·exact absurd (h3.trans g3.symm) aI
    ·rw [Gc] at bm
     rw [hp.only id (by omega)]
     exact hi.fr id (by rw [GO]; exact bm)
    ·rcases fe id c cm with ⟨h,_⟩ | ⟨h3,h4⟩
     ·rw [hp.only id (dn id c h)] at dy
      exact hi.own id c lc h nK dy
     ·obtain ⟨l,hl,_,hle⟩:=hp.gI c h4
      rw [h3,hl] at dy; cases dy
      rcases hle with hle | ⟨lo,gK,hle⟩
      ·exact .inr (Nat.le_trans hi.kp.size hle)
      ·obtain ⟨i,bi,y1,y2,y3,y4⟩:=hold lo gK
       rw [hle]
       exact hi.own _ bi lo y3 y4 y2
    ·have aI:i≠j:=fun e=>by subst e; rw [cZ] at cM; simp at cM
     rw [hp.only _ (by omega)]
     refine fM i aM ?_
     rw [cZ] at cM
     simp only [Bool.or_eq_false_iff] at cM
     exact cM.1
   unfold wpOpIn
   rw [ho]
   dsimp only
   have fg:∀ d,d∈iO ops.toList o→∀ v,(a8 ops.toList rs (fun i=>decide (i < j)) t0 j)[d]?=some v→∃ v',a.tmps[d]?=some v'∧ao ν v v':=by
    intro d hd v hv
    rw [← GN d hd] at hv
    obtain ⟨v',k1,k2⟩:=hi.tm.get hv
    exact ⟨v',by simpa using k1,k2⟩
   rcases g4 with ⟨G,q1,_,q2,q3⟩ | ⟨q0,q1,q2,g,want,d,v,q3,q4,q5,q6⟩
   ·have hw:Region.wanted o (yielded ops a.tmps)=true:=by
     rcases q3 with hg | ⟨g,want,d,b,hg,hd,hv,hb⟩
     ·simp [Region.wanted,hg]
     ·obtain ⟨v',k1,k2⟩:=fg d (Aa hg hd) _ hv
      rw [k2.jM] at k1
      have hy:=xJ (ops:=ops) (tmps:=a.tmps) (j:=g) (d:=d) (by simpa [bM] using hd)
      rw [k1] at hy
      simp only [Region.wanted,hg,hy]
      rw [← hb]
      cases b <;> cases want <;> rfl
    rw [if_pos hw]
    refine q2 ν a w r n (fun x hx t ht v hv=>fg t ?_ v hv) (hi.hp.rD fun id b hb=>?_) mI _ Q after
    ·unfold iO
     exact List.mem_append_left _ (oY (by rw [ht] at hx; simpa using hx))
    ·exact hG q1 id b hb
   ·have hw:Region.wanted o (yielded ops a.tmps)=false:=by
     obtain ⟨v',k1,k2⟩:=fg d (Aa q3 q4) _ q5
     have hy:=xJ (ops:=ops) (tmps:=a.tmps) (j:=g) (d:=d) (by simpa [bM] using q4)
     rw [k1] at hy
     rcases q6 with ⟨b,rfl,hb⟩ | ⟨vs,rfl⟩
     ·rw [k2.jM] at hy
      simp only [Region.wanted,q3,hy]
      rw [← hb]
      cases b <;> cases want <;> rfl
     ·obtain ⟨ys,rfl,_⟩:=ao.nj (xs:=vs.toList) k2
      simp only [Region.wanted,q3,hy]
      rfl
    rw [if_neg (by rw [hw]; simp)]
    refine ⟨fun _ _=>trivial,after undef w ν ⟨ν.le_refl,fun _ _=>rfl,by rw [q1]; exact .undef ν,.inl (Below.refl _ _),fun _=>rfl,(fun b hb=>by rw [q2] at hb; cases hb)⟩⟩
/-- **Whatever order is drawn.** -/
theorem Uq (hm:P.follows .mixedOrders=true):mY P NY:=by
 intro E hE r n F bJ ops Q id ν tmps H a w k hi h hk
 obtain ⟨m,aP,a9,h⟩:=h
 have h:=lK h
 obtain ⟨OI,h⟩:=xK h
 have hc:=JY a9
 obtain ⟨rs,es,iy,iL,jR,dV⟩:=Kt (P:=P) hE.toEnvOk (ops:=ops.toList) (t0:=tmps) (H:=H) (aP:=aP) (l:=ops.toList.take m) (ms:=aP) (j:=0) (rs:=[]) (es:=[]) rfl rfl (fun p i hp=>by simp at hp)
  (fun i o ho=>by
   rw [List.getElem?_take] at ho
   split at ho
   ·simpa using ho
   ·cases ho)
  (fun i _=>by simp) (fun i hi=>by omega) h
 have dV:=s9 dV
 have hlen:0+(ops.toList.take m).length=m:=by rw [List.length_take]; omega
 rw [hlen] at iy iL jR dV
 refine wpIn_region_any hm ?_
 have hD:DB (Array.replicate ops.size false)=fun _=>false:=by
  funext i
  unfold DB
  by_cases h:i < ops.size <;> simp [h]
 refine RU (F:=F) hc.toOrder (by have:=hc.le; simpa using this) hc.apart (fun j hj hm i hi=>hc.tail j (by simpa using hj) hm i (by omega)) iL jR ?_ ops.size _ ν a _ (by simp) (fun j o hj=>by rw [hD] at hj; cases hj) (fun i aM=>by rw [hD] at aM; cases aM) ?_ (fun i _ _=>hi.fr _ (by omega)) ?_
 ·intro fuel aA ν a w hs eH ak cS hi hu
  have hle:m≤ops.size:=by have:=hc.le; simpa using this
  have hD:∀ i,DB aA i=decide (i < m):=fun i=>by
   by_cases h:i < m
   ·rw [cS i h]; simp [h]
   ·cases hd:DB aA i with
    | true=>exact absurd (ak i hd) h
    | false=>simp [h]
  have e1:a8 ops.toList rs (DB aA) tmps m=a8 ops.toList rs (fun i=>decide (i < m)) tmps m:=xA (fun i _=>hD i)
  have e2:iG es rs (DB aA) m=iH es rs:=by
   unfold iH
   rw [iy]
   rw [show DB aA=fun i=>decide (i < m) from funext hD]
  rw [e1,e2] at hi
  exact Ew hE bJ hc.toOrder hc.tail hk fuel aA m ν _ _ a w hs hD (Nat.le_refl _) hle hi dV (by
   have:=Dv hD ops.size hle; omega)
 ·rw [hD]
  have e1:a8 ops.toList rs (fun _=>false) tmps m=tmps:=vE (j:=0) (by omega) (fun _ _ _=>rfl)
  rw [e1]
  have kq:Below w.heap.size w { w with drawn:=w.drawn+1 }:=⟨rfl,rfl,rfl,Nat.le_refl _,fun _ _=>rfl⟩
  refine ⟨hi.tm,hi.df.below kq,(hi.hp.below kq).rD (fun id c cm=>?_),fun id bm=>hi.fr id (by rw [List.length_append] at bm; omega),hi.kp.below kq,fun id c lc cm nK dy=>?_,hi.mono⟩
  ·rw [List.getElem?_append] at cm
   split at cm
   ·exact cm
   ·have:=(vF.1 cm).2.1; cases this
  ·rw [List.getElem?_append] at cm
   split at cm
   ·exact hi.own id c lc cm nK dy
   ·have:=(vF.1 cm).2.1; cases this
 ·unfold gd
  have:=List.length_filter_le (fun i=>!DB (Array.replicate ops.size false) i) (List.range ops.size)
  simpa using this
end
end Go.Ae
/- A region that draws, order by order. -/
namespace Go.Ae
open Go Go.RowKit
/-- The orders, as a tree: an operation, what comes behind it, and the other choices beside it. -/
inductive nt where
 | leaf
 | br (i:Nat) (sub rest:nt)
def nt.alts:nt→List Nat
 | .leaf=>[]
 | .br i _ rest=>i::rest.alts
def tI (ops:Array Oper):nt→Nat→Bool→Array Bool→Bool
 | .leaf,_,true,l=>(Region.ready .any ops l).isEmpty
 | .leaf,_,false,_=>true
 | .br _ _ _,0,_,_=>false
 | .br i sub rest,n+1,first,l=>(!first || (Region.ready .any ops l == (nt.br i sub rest).alts)) && tI ops sub n true (l.setIfInBounds i true) && tI ops rest (n+1) false l
def Hx:List Oper→Nat→(Oper→Prop)→Prop
 | [],_,_=>False
 | o::_,0,k=>k o
 | _::l,i+1,k=>Hx l i k
theorem Lh:∀ {l:List Oper} {i:Nat} {k:Oper→Prop},Hx l i k→∃ o,l[i]?=some o∧k o
 | [],i,k,h=>h.elim
 | o::_,0,k,h=>⟨o,rfl,h⟩
 | _::l,i+1,k,h=>by
  obtain ⟨o,h1,J⟩:=Lh (l:=l) h
  exact ⟨o,by simpa using h1,J⟩
def B5 (E:Env) (ops:List Oper):nt→Bool→List Value→ax→SK→Prop
 | .leaf,true,t,H,k=>k t H
 | .leaf,false,_,_,_=>True
 | .br i sub rest,_,t,H,k=>(Hx ops i fun o=>wI E ops o t H fun t' H'=>B5 E ops sub true t' H' k)∧B5 E ops rest false t H k
def cF (E:Env) (ops:List Oper) (t:List Value) (H:ax) (k:SK):Prop :=
 NW E ops t H k∨(∃ T:nt,tI ops.toArray T ops.length true (Array.replicate ops.length false)=true∧B5 E ops T true t H k)∨NX E ops t H k∨NY E ops t H k
section
variable {P:Program} {E:Env} {r:Option Nat} {n:Nat} {F:Fr}
theorem RW (hE:jy P E) (bJ:kE F E) {ops:Array Oper} {Q:Exit→Act→World→Prop} {k:SK} (hk:∀ ν t' H' a' w',bt F ν t' H' a' w'→k t' H'→Q .normal a' w') :
  ∀ (T:nt) (fuel:Nat) (first:Bool) (aA:Array Bool) (ν:Nu) (t:List Value) (H:ax) (a:Act) (w:World),tI ops T fuel first aA=true→bt F ν t H a w→B5 E ops.toList T first t H k →
  (first=true→wpAnyIn (WF r) n P .any ops Q fuel aA a w)∧(first=false→∀ m,fuel=m+1→∀ i∈T.alts,wpOpIn (WF r) n P ops Q i (wpAnyIn (WF r) n P .any ops Q m (aA.setIfInBounds i true)) a w):=by
 intro T
 induction T with
 | leaf =>
  intro fuel first aA ν t H a w a9 hi h
  cases first with
  | true =>
   refine ⟨fun _=>?_,fun h=>by cases h⟩
   have hr:Region.ready .any ops aA=[]:=by
    have:(Region.ready .any ops aA).isEmpty=true:=by simpa [tI] using a9
    simpa using this
   have hq:Q .normal a w:=hk _ _ _ _ _ hi h
   cases fuel with
   | zero=>exact ⟨hr,hq⟩
   | succ f=>exact ⟨fun _=>hq,fun i aM=>by rw [hr] at aM; cases aM⟩
  | false=>exact ⟨(fun h=>by cases h),fun _ m _ i aM=>by cases aM⟩
 | br j sub rest ihs ihr =>
  intro fuel first aA ν t H a w a9 hi h
  cases fuel with
  | zero=>simp [tI] at a9
  | succ f =>
   simp only [tI,Bool.and_eq_true,Bool.or_eq_true] at a9
   obtain ⟨⟨h1,J⟩,h3⟩:=a9
   obtain ⟨hs,yC⟩:=h
   have cS:∀ i∈(nt.br j sub rest).alts,wpOpIn (WF r) n P ops Q i (wpAnyIn (WF r) n P .any ops Q f (aA.setIfInBounds i true)) a w:=by
    intro i aM
    simp only [nt.alts,List.mem_cons] at aM
    rcases aM with rfl | aM
    ·obtain ⟨o,ho,hs⟩:=Lh hs
     unfold wpOpIn
     have Iy:ops[i]?=some o:=by simpa using ho
     rw [Iy]
     exact DV hE bJ hi hs (fun ν t' H' a' w' gL h'=>(ihs f true _ ν t' H' a' w' J gL h').1 rfl)
    ·exact (ihr (f+1) false aA ν t H a w h3 hi yC).2 rfl f rfl i aM
   refine ⟨fun hf=>?_,fun _ m hm=>?_⟩
   ·subst hf
    have hr:Region.ready .any ops aA=(nt.br j sub rest).alts:=by
     rcases h1 with h1 | h1
     ·cases h1
     ·exact eq_of_beq h1
    refine ⟨(fun hn=>by rw [hr] at hn; cases hn),fun i aM=>cS i (by rw [← hr]; exact aM)⟩
   ·have:f=m:=by omega
    subst this
    exact cS
/-- **Whatever order is drawn.** -/
theorem Ur (hm:P.follows .mixedOrders=true):mY P cF:=by
 intro E hE r n F bJ ops Q id ν tmps H a w k hi h hk
 rcases h with h | ⟨T,a9,h⟩ | h | h
 ·exact Um hm E hE r n F bJ ops Q id ν tmps H a w k hi h hk
 ·refine wpIn_region_any hm ?_
  have kq:Below w.heap.size w { w with drawn:=w.drawn+1 }:=⟨rfl,rfl,rfl,Nat.le_refl _,fun _ _=>rfl⟩
  have gL:bt F ν tmps H a { w with drawn:=w.drawn+1 }:=⟨hi.tm,hi.df.below kq,hi.hp.below kq,hi.fr,hi.kp.below kq,hi.own,hi.mono⟩
  have:=(RW (r:=r) (n:=n) hE bJ (ops:=ops) hk T ops.toList.length true _ ν tmps H a _ (by simpa using a9) gL h).1 rfl
  simpa using this
 ·exact Up hm E hE r n F bJ ops Q id ν tmps H a w k hi h hk
 ·exact Uq hm E hE r n F bJ ops Q id ν tmps H a w k hi h hk
end
end Go.Ae
/- Contracts with blocks out of the evaluation of a function's body. -/
namespace Go.Ae
open Go Go.RowKit
/-- The same value, of whose capacities less is known. -/
inductive eZ:Value→Value→Prop
 | refl (v:Value):eZ v v
 | cap (a:Addr) (n c:Nat) (h:a.spot=none):eZ (.slice (some a) n c) (.slice (some a) n aJ)
 | two {x y x' y':Value} (h:eZ x x') (hs:eZ y y'):eZ (.tuple ⟨[x,y]⟩) (.tuple ⟨[x',y']⟩)
 | three {x y z x' y' z':Value} (h:eZ x x') (hs:eZ y y') (hz:eZ z z'):eZ (.tuple ⟨[x,y,z]⟩) (.tuple ⟨[x',y',z']⟩)
theorem ao.PJ {ν:Nu} {xs ys:List Value} (h:bc ν xs ys):ao ν (.tuple ⟨xs⟩) (.tuple ⟨ys⟩):=.tuple _ _ h.1 h.2
theorem ao.Hz {ν:Nu} {v v':Value} (h:eZ v v'):∀ {r},ao ν v r→ao ν v' r:=by
 induction h with
 | refl v=>exact fun h=>h
 | cap a n c hs =>
  intro r hr
  obtain ⟨b,o,sp⟩:=a
  have hs:sp=none:=hs
  subst hs
  cases hr with
  | slice _ _ _ _ c' l h hc hn hr=>exact .slice _ _ _ _ c' l h (.inr rfl) hn hr
  | void _ _ _ a hc=>exact .void _ _ _ a (.inr rfl)
 | two h hs i1 i2 =>
  intro r hr
  obtain ⟨ys,rfl,hy⟩:=hr.nj
  obtain ⟨a,ys,rfl,k1,hy⟩:=hy.iQ
  obtain ⟨b,ys,rfl,k2,hy⟩:=hy.iQ
  rw [hy.iC]
  exact .PJ (.cons (i1 k1) (.cons (i2 k2) (.nil ν)))
 | three h hs hz i1 i2 i3 =>
  intro r hr
  obtain ⟨ys,rfl,hy⟩:=hr.nj
  obtain ⟨a,ys,rfl,k1,hy⟩:=hy.iQ
  obtain ⟨b,ys,rfl,k2,hy⟩:=hy.iQ
  obtain ⟨c,ys,rfl,k3,hy⟩:=hy.iQ
  rw [hy.iC]
  exact .PJ (.cons (i1 k1) (.cons (i2 k2) (.cons (i3 k3) (.nil ν))))
def gx (S:bk) (i:S.ι) (v:Value) (H:ax):Prop :=
 match S.new i with
 | none=>∃ v',cL (List.range (S.ai i).length) 3 (S.val i)=some v'∧eZ v v'
 | some b=>∃ p,gu H p fun c=>(c.own=true∧aO b c)∧∃ v',cL (List.range (S.ai i).length++[p]) 3 (S.val i)=some v'∧eZ v v'
section
variable {P:Program} {E:Env} {D:Env→List Oper→List Value→ax→SK→Prop}
theorem sN {l:List ah} {id:Nat} {b:ah} (h:(l.map some)[id]?=some (some b)):l[id]?=some b:=by
 rw [List.getElem?_map] at h
 cases e:l[id]? with
 | none=>rw [e] at h; cases h
 | some b'=>rw [e] at h; simp at h; rw [h]
theorem Te {m p j:Nat} (h:j < m):(List.range m++[p])[j]?=some j:=by
 rw [List.getElem?_append_left (by simpa using h),List.getElem?_range h]
/-- A contract with blocks that are read. -/
theorem dC {S:bk} (hE:EnvOk P E) (hD:mY P D) {f:FuncId} {fn:Func} (hf:P.funcs[f]?=some fn) (nJ:∀ args w,(callFunc f args).run P w=.ok (.enter f args) w)
  (mZ:∀ i b,b∈S.ai i→b.own=false) (sf:∀ i b,S.new i=some b→b.js=true)
  (h:∀ i,S.pre i→cc E D fn (S.args i) ((S.ai i).map some) (gx S i))
  (hI:gB P E:=by exact gB.none rfl) (hy:E.ys=[]:=by rfl) (hu:E.nu=(fun _=>none):=by rfl):c4 P f S:=by
 refine ⟨nJ,mZ,sf,fun i hp ν as w n has hH fM=>?_⟩
 refine xR (O:=fun _=>False) (ν:=ν) (hE.x hI hy) hD hf (h i hp) has hH (fun id bm=>fM id (by simpa using bm)) (fun id b l hb ho=>?_) (Bf hu) ?_
 ·rw [mZ i b (List.mem_of_getElem? (sN hb))] at ho; cases ho
 intro aj v v' t H' a w' hi hk hv
 have hb:Below w.heap.size w w':=⟨hi.kp.os,hi.kp.tape,hi.kp.output,hi.kp.size,fun k hk=>hi.kp.aH k hk (fun h=>h)⟩
 unfold gx at hk
 split at hk
 ·rename_i dn
  obtain ⟨v2,nC,zC⟩:=hk
  have h1:=vL 3 _ _ _ nC (ao.Hz zC hv)
  refine ⟨v',ν,rfl,⟨ν.le_refl,fun _ _=>rfl,h1.mono (fun j lj hj=>?_),hb,fun _=>rfl,(fun b hb=>by rw [dn] at hb; cases hb)⟩⟩
  unfold Nu.comp at hj
  by_cases ak:j < (S.ai i).length
  ·rw [List.getElem?_range ak] at hj
   have hj:aj j=some lj:=hj
   obtain ⟨l0,e1,_⟩:=hH.aH j ((S.ai i)[j]) (by simp [ak])
   have:=hi.mono j l0 e1
   rw [hj] at this; cases this
   exact e1
  ·have:(List.range (S.ai i).length)[j]?=none:=List.getElem?_eq_none (by simp; omega)
   rw [this] at hj; cases hj
 ·rename_i b dn
  obtain ⟨p,hk⟩:=hk
  obtain ⟨c,hc,⟨ho,hle⟩,v2,nC,zC⟩:=gl hk
  obtain ⟨l,hl,hB⟩:=hi.hp.aH p c hc
  have uQ:ν (S.ai i).length=none:=fM _ (Nat.le_refl _)
  refine ⟨v',ν.add (S.ai i).length l,rfl,⟨Nu.jN uQ,fun id bm=>Nu.iD bm,?_,hb,(fun h=>by rw [dn] at h; cases h),(fun b' bE=>?_)⟩⟩
  ·have h1:=vL 3 _ _ _ nC (ao.Hz zC hv)
   refine h1.mono (fun j lj hj=>?_)
   unfold Nu.comp at hj
   rcases Nat.lt_trichotomy j (S.ai i).length with ak | he | Ph
   ·rw [Te ak] at hj
    have hj:aj j=some lj:=hj
    obtain ⟨l0,e1,_⟩:=hH.aH j ((S.ai i)[j]) (by simp [ak])
    have:=hi.mono j l0 e1
    rw [hj] at this; cases this
    rw [Nu.iD (by omega)]; exact e1
   ·subst he
    have:(List.range (S.ai i).length++[p])[(S.ai i).length]?=some p:=by simp
    rw [this] at hj
    have hj:aj p=some lj:=hj
    rw [hl] at hj; cases hj
    exact Nu.add_same
   ·have:(List.range (S.ai i).length++[p])[j]?=none:=List.getElem?_eq_none (by simp; omega)
    rw [this] at hj; cases hj
  ·rw [dn] at bE; cases bE
   refine ⟨l,Nu.add_same,hB.le ⟨hle,by have:=sf i b dn; cases b <;> first | rfl | cases this⟩,?_⟩
   rcases hi.own p c l hc ho hl with h | h
   ·exact h.elim
   ·exact h
/-! ### Functions that write, or give several blocks -/
structure yD where
 ι:Type
 args:ι→List Value
 ai:ι→List ah
 pre:ι→Prop
 val:ι→Value
 post:ι→List ah
 new:ι→List ah
def wK (H:ax):List Nat→List ah→List ah→(ax→Prop)→Prop
 | [],[],[],k=>k H
 | s::σ,b::bs,p::ps,k=>match b.own with
  | true=>match p with
   | .bZ _=>False
   | p=>iZ H s (some p) fun H'=>wK H' σ bs ps k
  | false=>wK H σ bs ps k
 | _,_,_,_=>False
def Bh (H:ax):List ah→(ax→Prop)→Prop
 | [],k=>k H
 | b::bs,k=>match b with
  | .bZ _=>False
  | b=>oq H (some b) fun H'=>Bh H' bs k
def wk:Nat→Nat→List Nat
 | _,0=>[]
 | a,n+1=>a::wk (a+1) n
def Cw:List ah→Nat
 | []=>0
 | _::l=>Cw l+1
def zD (S:yD):FT:=fun args H K=>∃ (i:S.ι) (σ:List Nat),lU σ 3 (S.args i)=some args∧S.pre i∧σ.Nodup∧yt H σ (S.ai i) (ja H fun n0=>wK H σ (S.ai i) (S.post i) fun H1=>Bh H1 (S.new i) fun H2 =>
 ∃ v,cL (σ++wk n0 (Cw (S.new i))) 3 (S.val i)=some v∧pA v fun v=>K v H2)
/-- What the function's own evaluation must come to: ps are the places of the new blocks. -/
def yT (S:yD) (i:S.ι) (v:Value) (H:ax):Prop :=
 ∃ ps:List Nat,ps.Nodup∧(∀ p∈ps,(S.ai i).length≤p)∧ps.length=(S.new i).length ∧
  (∀ (j:Nat) (b q:ah),(S.ai i)[j]?=some b→(S.post i)[j]?=some q→b.own=true→∃ c,H[j]?=some (some c)∧c.own=true∧aO q c) ∧
  (∀ (j p:Nat) (b:ah),ps[j]?=some p→(S.new i)[j]?=some b→∃ c,H[p]?=some (some c)∧c.own=true∧aO b c) ∧
  ∃ v',cL (List.range (S.ai i).length++ps) 3 (S.val i)=some v'∧eZ v v'
theorem Ku:∀ {n a j:Nat},(wk a n)[j]?=if j < n then some (a+j) else none
 | 0,a,j=>by simp [wk]
 | n+1,a,0=>by simp [wk]
 | n+1,a,j+1=>by
  have:=Ku (n:=n) (a:=a+1) (j:=j)
  simp only [wk,List.getElem?_cons_succ,this]
  by_cases h:j < n
  ·rw [if_pos h,if_pos (by omega)]; congr 1; omega
  ·rw [if_neg h,if_neg (by omega)]
theorem MJ:∀ {l:List ah},Cw l=l.length
 | []=>rfl
 | _::l=>by simp [Cw,MJ (l:=l)]
theorem JE:∀ {bs:List ah} {H:ax} {k:ax→Prop},Bh H bs k→k (H++bs.map some)∧∀ b∈bs,b.rc=none
 | [],H,k,h=>by
  have h:k H:=h
  exact ⟨by simpa using h,fun b hb=>by cases hb⟩
 | b::bs,H,k,h=>by
  have h:b.rc=none∧oq H (some b) fun H'=>Bh H' bs k:=by
   cases b with
   | aL o e r=>exact ⟨rfl,h⟩
   | flat o n e g=>exact ⟨rfl,h⟩
   | bZ r=>exact h.elim
  have:=JE (bs:=bs) (xG h.2)
  refine ⟨by simpa using this.1,fun c hc=>?_⟩
  rcases List.mem_cons.1 hc with rfl | hc
  ·exact h.1
  ·exact this.2 c hc
theorem DY:∀ {σ:List Nat} {bs ps:List ah} {H:ax} {k:ax→Prop},σ.Nodup→wK H σ bs ps k→∃ H1,k H1∧H1.length=H.length∧(∀ id,id ∉ σ→H1[id]?=H[id]?) ∧
  ∀ (j s:Nat) (b:ah),σ[j]?=some s→bs[j]?=some b→(b.own=true→∃ p,ps[j]?=some p∧H1[s]?=some (some p)∧p.rc=none)∧(b.own=false→H1[s]?=H[s]?)
 | [],[],[],H,k,_,h=>⟨H,h,rfl,fun _ _=>rfl,fun j s b hj=>by simp at hj⟩
 | s::σ,b::bs,p::ps,H,k,hn,h=>by
  obtain ⟨hs,hn⟩:=List.nodup_cons.1 hn
  unfold wK at h
  split at h
  ·rename_i ho
   have Iz:p.rc=none∧iZ H s (some p) fun H'=>wK H' σ bs ps k:=by
    cases p with
    | aL o e r=>exact ⟨rfl,h⟩
    | flat o n e g=>exact ⟨rfl,h⟩
    | bZ r=>exact h.elim
   obtain ⟨Iz,h⟩:=Iz
   obtain ⟨ak,h⟩:=lJ h
   obtain ⟨H1,h1,J,h3,h4⟩:=DY hn h
   refine ⟨H1,h1,by rw [J]; simp,fun id bm=>?_,fun j s' b' hj hb=>?_⟩
   ·rw [List.mem_cons,not_or] at bm
    rw [h3 id bm.2,List.getElem?_set_ne (Ne.symm bm.1)]
   ·cases j with
    | zero =>
     simp at hj hb; subst hj; subst hb
     refine ⟨fun _=>⟨p,rfl,?_,Iz⟩,(fun h=>by rw [ho] at h; cases h)⟩
     rw [h3 s hs,List.getElem?_set_self ak]
    | succ j =>
     obtain ⟨h5,h6⟩:=h4 j s' b' (by simpa using hj) (by simpa using hb)
     refine ⟨fun h=>by simpa using h5 h,fun h=>?_⟩
     rw [h6 h,List.getElem?_set_ne]
     intro e
     subst e
     exact hs (List.mem_of_getElem? (by simpa using hj))
  ·rename_i ho
   obtain ⟨H1,h1,J,h3,h4⟩:=DY hn h
   refine ⟨H1,h1,J,fun id bm=>?_,fun j s' b' hj hb=>?_⟩
   ·rw [List.mem_cons,not_or] at bm
    exact h3 id bm.2
   ·cases j with
    | zero =>
     simp at hj hb; subst hj; subst hb
     exact ⟨(fun h=>by rw [ho] at h; cases h),fun _=>h3 s hs⟩
    | succ j=>simpa using h4 j s' b' (by simpa using hj) (by simpa using hb)
 | [],_::_,_,H,k,_,h=>by cases h
 | [],[],_::_,H,k,_,h=>by cases h
 | _::_,[],_,H,k,_,h=>by cases h
 | _::_,_::_,[],H,k,_,h=>by cases h
theorem Np {S:yD} (hE:EnvOk P E) (hD:mY P D) {f:FuncId} {fn:Func} (hf:P.funcs[f]?=some fn) (nJ:∀ args w,(callFunc f args).run P w=.ok (.enter f args) w)
  (h:∀ i,S.pre i→cc E D fn (S.args i) ((S.ai i).map some) (yT S i))
  (hI:gB P E:=by exact gB.none rfl) (hy:E.ys=[]:=by rfl) (hu:E.nu=(fun _=>none):=by rfl):fK P f (zD S):=by
 refine ⟨nJ,fun args H K hFT ν as w n O has hH fM jX=>?_⟩
 obtain ⟨i,σ,nC,hp,jH,nI⟩:=hFT
 obtain ⟨hlen,hσ,nI⟩:=DR nI
 obtain ⟨H1,nI,lh,acH,ON⟩:=DY jH (lK nI)
 obtain ⟨⟨v2,NZ,hK⟩,acI⟩:=JE nI
 have hK:=vm hK
 rw [MJ] at NZ
 have nr:=s7 (vL (ν:=ν) 3) nC has
 -- the callee's blocks
 let Oc:Nat→Prop:=fun x=>∃ (j s:Nat) (b:ah) (l:Loc),σ[j]?=some s∧(S.ai i)[j]?=some b∧b.own=true∧ν s=some l∧x=l.aH
 have rU:∀ (j:Nat) (b:ah),(S.ai i)[j]?=some b→∃ s,σ[j]?=some s∧∃ c l,H[s]?=some (some c)∧Bz b c∧ν s=some l∧bN ν l c w:=by
  intro j b hb
  have ak:j < σ.length:=by rw [hlen]; exact (List.getElem?_eq_some_iff.1 hb).1
  obtain ⟨c,h1,J⟩:=hσ j _ b (List.getElem?_eq_getElem ak) hb
  obtain ⟨l,h3,h4⟩:=hH.aH _ _ h1
  exact ⟨_,List.getElem?_eq_getElem ak,c,l,h1,J,h3,h4⟩
 have mJ:∀ (j s:Nat),σ[j]?=some s→(ν.comp σ) j=ν s:=fun j s hj=>by simp [Nu.comp,hj]
 have IA:bR (ν.comp σ) ((S.ai i).map some) w:=by
  refine ⟨fun j b hj=>?_,fun j q bj bq lj lq hj hq aI ho e1 e2=>?_⟩
  ·obtain ⟨s,h1,c,l,J,h3,h4,h5⟩:=rU j b (sN hj)
   exact ⟨l,by rw [mJ j s h1,h4],h5.le h3⟩
  ·obtain ⟨s,h1,c,l,J,h3,h4,h5⟩:=rU j bj (sN hj)
   obtain ⟨s',eP,c',l',jG,sB,qh,zE⟩:=rU q bq (sN hq)
   rw [mJ j s h1,h4] at e1; obtain rfl:=Option.some.inj e1
   rw [mJ q s' eP,qh] at e2; obtain rfl:=Option.some.inj e2
   refine hH.sep s s' c c' _ _ J jG (fun e=>aI ?_) (ah.cQ (h3.own ho).1).1 h4 qh
   subst e
   exact (List.getElem?_inj (List.getElem?_eq_some_iff.1 h1).1 jH).1 (h1.trans eP.symm)
 have acJ:∀ id,((S.ai i).map some).length≤id→(ν.comp σ) id=none:=by
  intro id bm
  rw [List.length_map] at bm
  simp [Nu.comp,List.getElem?_eq_none (show σ.length≤id by omega)]
 have aa7:∀ id b l,((S.ai i).map some)[id]?=some (some b)→b.own=true→(ν.comp σ) id=some l→Oc l.aH:=by
  intro id b l hb ho hl
  obtain ⟨s,h1,c,l',J,h3,h4,h5⟩:=rU id b (sN hb)
  rw [mJ id s h1,h4] at hl; obtain rfl:=Option.some.inj hl
  exact ⟨id,s,b,_,h1,sN hb,ho,h4,rfl⟩
 have qf:∀ x,Oc x→O x:=by
  rintro x ⟨j,s,b,l,h1,J,h3,h4,rfl⟩
  obtain ⟨s',eP,c,l',jG,sB,qh,_⟩:=rU j b J
  rw [h1] at eP; cases eP
  exact jX s c l jG (ah.cQ (sB.own h3).1).1 h4
 refine xR (O:=Oc) (ν:=ν.comp σ) (hE.x hI hy) hD hf (h i hp) nr IA acJ aa7 (Bf hu) ?_
 intro fN v v' t H' a w' hi hk hv
 obtain ⟨ps,hpn,acK,kG,aa8,dn,v3,aa9,zC⟩:=hk
 have rT:(ν.comp σ).le fN:=hi.mono
 let aj:Nu:=fun id=>if id < H.length then ν id else (ps[id - H.length]?).bind fN
 have tJ:∀ id,id < H.length→aj id=ν id:=fun id h=>by simp only [aj]; rw [if_pos h]
 have rz:∀ j p,ps[j]?=some p→aj (H.length+j)=fN p:=fun j p h=>by
  simp only [aj]; rw [if_neg (by omega),Nat.add_sub_cancel_left,h]; rfl
 have GR:ν.le aj:=by
  intro id l bm
  have:id < H.length:=by
   rcases Nat.lt_or_ge id H.length with h | h
   ·exact h
   ·rw [fM id h] at bm; cases bm
  rw [tJ id this]; exact bm
 -- own blocks of the arguments, behind the call
 have N0:∀ (j s:Nat) (b:ah) (l:Loc),σ[j]?=some s→(S.ai i)[j]?=some b→b.own=true→ν s=some l→∃ q c,(S.post i)[j]?=some q∧H1[s]?=some (some q)∧H'[j]?=some (some c)∧c.own=true∧Bz q c∧fN j=some l:=by
  intro j s b l h1 J h3 h4
  obtain ⟨q,h5,h6,h60⟩:=(ON j s b h1 J).1 h3
  obtain ⟨c,h7,h8,h9⟩:=aa8 j b q J h5 h3
  exact ⟨q,c,h5,h6,h7,h8,⟨h9,h60⟩,rT j l (by rw [mJ j s h1]; exact h4)⟩
 -- a block that the callee does not own has not turned
 have GP:∀ (id:Nat) (b:ah) (l:Loc),H[id]?=some (some b)→ν id=some l→(∀ (j:Nat) (c:ah),σ[j]?=some id→(S.ai i)[j]?=some c→c.own=false)→¬ Oc l.aH∧w'.heap[l.aH]?=w.heap[l.aH]?:=by
  intro id b l hb hl qj
  obtain ⟨l0,e1,hB⟩:=hH.aH id b hb
  rw [hl] at e1; cases e1
  have PK:¬ Oc l.aH:=by
   rintro ⟨j,s,bj,lj,h1,J,h3,h4,h5⟩
   obtain ⟨s',eP,c,l',jG,sB,qh,_⟩:=rU j bj J
   rw [h1] at eP; cases eP
   have aI:s≠id:=by
    intro e
    subst e
    have:=qj j bj h1 J
    rw [h3] at this; cases this
   exact hH.sep s id c b lj l jG hb aI (ah.cQ (sB.own h3).1).1 h4 hl h5.symm
  exact ⟨PK,hi.kp.aH _ hB.live PK⟩
 -- the callee's new blocks
 have aba:∀ (j p:Nat) (b:ah),ps[j]?=some p→(S.new i)[j]?=some b→∃ c l,H'[p]?=some (some c)∧c.own=true∧aO b c∧fN p=some l∧bN fN l c w'∧w.heap.size≤l.aH:=by
  intro j p b h1 J
  obtain ⟨c,h3,h4,h5⟩:=dn j p b h1 J
  obtain ⟨l,h6,h7⟩:=hi.hp.aH p c h3
  refine ⟨c,l,h3,h4,h5,h6,h7,?_⟩
  rcases hi.own p c l h3 h4 h6 with ⟨j',s,b',l',k1,k2,k3,k4,k5⟩ | h
  ·obtain ⟨q,c',_,_,k6,k7,_,k8⟩:=N0 j' s b' l' k1 k2 k3 k4
   have ak:j' < (S.ai i).length:=(List.getElem?_eq_some_iff.1 k2).1
   have:=acK p (List.mem_of_getElem? h1)
   exact absurd k5 (hi.hp.sep p j' c c' l l' h3 k6 (by omega) h4 h6 k8)
  ·exact h
 -- which blocks there are behind the call
 have wH:∀ (id:Nat) (b:ah),(H1++(S.new i).map some)[id]?=some (some b)→
   (id < H.length∧∃ b0 l,H[id]?=some (some b0)∧ν id=some l∧(b.own=true→b0.own=true)∧bN aj l b w'∧((∃ (j:Nat) (bj:ah),σ[j]?=some id∧(S.ai i)[j]?=some bj∧bj.own=true)∨(¬ Oc l.aH∧l.aH < w.heap.size))) ∨
   (∃ (j p:Nat) (c:ah) (l:Loc),id=H.length+j∧ps[j]?=some p∧(S.new i)[j]?=some b∧H'[p]?=some (some c)∧c.own=true∧fN p=some l∧bN aj l b w'∧w.heap.size≤l.aH):=by
  intro id b hb
  rw [List.getElem?_append] at hb
  split at hb
  ·rename_i ak
   rw [lh] at ak
   refine .inl ⟨ak,?_⟩
   by_cases gw:∃ (j:Nat) (bj:ah),σ[j]?=some id∧(S.ai i)[j]?=some bj∧bj.own=true
   ·obtain ⟨j,bj,h1,J,h3⟩:=gw
    obtain ⟨s',eP,c,l,h4,h5,h6,h7⟩:=rU j bj J
    rw [h1] at eP; cases eP
    obtain ⟨q,c',h8,h9,IB,h11,h12,h13⟩:=N0 j id bj l h1 J h3 h6
    rw [h9] at hb; cases hb
    obtain ⟨l',PM,h15⟩:=hi.hp.aH j c' IB
    rw [h13] at PM; cases PM
    exact ⟨c,l,h4,h6,fun _=>(ah.cQ (h5.own h3).1).1,h15.le h12,.inl ⟨j,bj,h1,J,h3⟩⟩
   ·have qj:∀ (j:Nat) (c:ah),σ[j]?=some id→(S.ai i)[j]?=some c→c.own=false:=by
     intro j c h1 J
     cases h:c.own with
     | false=>rfl
     | true=>exact absurd ⟨j,c,h1,J,h⟩ gw
    have IC:H[id]?=some (some b):=by
     by_cases oL:id∈σ
     ·obtain ⟨j,hj⟩:=List.getElem?_of_mem oL
      have HS:j < (S.ai i).length:=by rw [← hlen]; exact (List.getElem?_eq_some_iff.1 hj).1
      have:=(ON j id _ hj (List.getElem?_eq_getElem HS)).2 (qj j _ hj (List.getElem?_eq_getElem HS))
      rw [← this]; exact hb
     ·rw [← acH id oL]; exact hb
    obtain ⟨l,h1,J⟩:=hH.aH id b IC
    obtain ⟨h3,h4⟩:=GP id b l IC h1 qj
    exact ⟨b,l,IC,h1,fun h=>h,(J.same h4 hi.kp.size).mono GR,.inr ⟨h3,J.live⟩⟩
  ·rename_i dS
   rw [lh] at hb dS
   have hb:=sN hb
   have ak:id - H.length < ps.length:=by rw [kG]; exact (List.getElem?_eq_some_iff.1 hb).1
   obtain ⟨c,l,h1,J,h3,h4,h5,h6⟩:=aba _ _ b (List.getElem?_eq_getElem ak) hb
   exact .inr ⟨id - H.length,_,c,l,by omega,List.getElem?_eq_getElem ak,hb,h1,J,h4,h5.le ⟨h3,acI b (List.mem_of_getElem? hb)⟩,h6⟩
 have adr:∀ (j p:Nat),ps[j]?=some p→aj (H.length+j)=fN p:=rz
 refine ⟨v2,v',aj,H1++(S.new i).map some,rfl,hK,?_,GR,⟨fun id b hb=>?_,fun p q bp bq lp lq HW H6 aI ho e1 e2=>?_⟩,fun id bm=>?_,⟨hi.kp.os,hi.kp.tape,hi.kp.output,hi.kp.size,fun b h1 J=>hi.kp.aH b h1 (fun h=>J (qf b h))⟩,fun id b l hb ho hl=>?_⟩
 ·have h1:=vL 3 _ _ _ aa9 (ao.Hz zC hv)
  refine E2 3 _ _ _ NZ (h1.mono (fun j lj hj=>?_))
  unfold Nu.comp at hj ⊢
  by_cases ak:j < (S.ai i).length
  ·rw [List.getElem?_append_left (by simpa using ak),List.getElem?_range ak] at hj
   have hj:fN j=some lj:=hj
   obtain ⟨s,J,c,l,h3,h4,h5,_⟩:=rU j _ (List.getElem?_eq_getElem ak)
   have:=rT j l (by rw [mJ j s J]; exact h5)
   rw [hj] at this; cases this
   rw [List.getElem?_append_left (List.getElem?_eq_some_iff.1 J).1,J]
   exact GR s lj h5
  ·rw [List.getElem?_append_right (by simp; omega)] at hj
   rw [List.length_range] at hj
   rw [List.getElem?_append_right (by omega),Ku,hlen]
   cases si:ps[j - (S.ai i).length]? with
   | none=>rw [si] at hj; cases hj
   | some p =>
    rw [si] at hj
    have hj:fN p=some lj:=hj
    have:=(List.getElem?_eq_some_iff.1 si).1
    rw [if_pos (by omega)]
    show aj (H.length+(j - (S.ai i).length))=_
    rw [rz _ _ si]; exact hj
 ·rcases wH id b hb with ⟨ak,b0,l,h1,J,_,h3,_⟩ | ⟨j,p,c,l,rfl,h1,J,h3,h4,h5,h6,h7⟩
  ·exact ⟨l,by rw [tJ id ak]; exact J,h3⟩
  ·exact ⟨l,by rw [rz j p h1]; exact h5,h6⟩
 ·rcases wH p bp HW with ⟨ak,b0,l,h1,J,h3,h4,h5⟩ | ⟨j,pp,c,l,rfl,h1,J,h3,h4,h5,h6,h7⟩ <;>
   rcases wH q bq H6 with ⟨pS,PN,l',eP,jG,sB,qh,zE⟩ | ⟨j',pp',c',l',rfl,eP,jG,sB,qh,zE,h6',h7'⟩
  ·rw [tJ p ak,J] at e1; cases e1
   rw [tJ q pS,jG] at e2; cases e2
   exact hH.sep p q b0 PN _ _ h1 eP aI (h3 ho) J jG
  ·rw [tJ p ak,J] at e1; cases e1
   rw [rz _ _ eP,zE] at e2; cases e2
   have:=(hH.aH p b0 h1)
   obtain ⟨l0,e3,e4⟩:=this
   rw [J] at e3; cases e3
   have:=e4.live
   omega
  ·rw [rz _ _ h1,h5] at e1; cases e1
   rw [tJ q pS,jG] at e2; cases e2
   obtain ⟨l0,e3,e4⟩:=hH.aH q PN eP
   rw [jG] at e3; cases e3
   have:=e4.live
   omega
  ·rw [rz _ _ h1,h5] at e1; cases e1
   rw [rz _ _ eP,zE] at e2; cases e2
   refine hi.hp.sep pp pp' c c' _ _ h3 sB (fun e=>aI ?_) h4 h5 zE
   subst e
   rw [(List.getElem?_inj (List.getElem?_eq_some_iff.1 h1).1 hpn).1 (h1.trans eP.symm)]
 ·rw [List.length_append,List.length_map,lh] at bm
  simp only [aj]
  rw [if_neg (by omega),List.getElem?_eq_none (by omega)]
  rfl
 ·rcases wH id b hb with ⟨ak,b0,l',h1,J,h3,_⟩ | ⟨j,p,c,l',rfl,h1,J,h3,h4,h5,h6,h7⟩
  ·rw [tJ id ak,J] at hl; cases hl
   exact .inl (jX id b0 _ h1 (h3 ho) J)
  ·rw [rz j p h1,h5] at hl; cases hl
   exact .inr h7
end
end Go.Ae
/- '==' of structs of plain cells, checked by evaluation of the types. -/
namespace Go.Ae
open Go Go.RowKit
def Bi (P:Program) (g:TypeId→Option (Bool × List Value)):Nat→List Field→Option (List Value)
 | _,[]=>some []
 | o, f :: l => match Nat.beq f.offset o && (f.name != "_"), g f.type, P.info? f.type, P.underlying f.type with
  | true,some (b,z),some i,some d=>match Nat.beq i.size z.length && (tF d == b) && Nat.ble 1 z.length with
   | true=>match Bi P g (o+z.length) l with
    | some zs=>some (z++zs)
    | none=>none
   | false=>none
  | _,_,_,_=>none
/-- The cells of a type whose '==' is that of its cells; whether it is an aggregate. -/
def wL (P:Program):Nat→TypeId→Option (Bool × List Value)
 | 0,_=>none
 | d+1,t=>match P.underlying t with
  | some .bool=>some (false,[.bool false])
  | some (.int q)=>some (false,[.int q 0])
  | some .string=>some (false,[.string ⟨#[]⟩])
  | some (.struct fs)=>match P.stoodInHeld t with
   | true=>none
   | false=>match Bi P (wL P d) 0 fs.toList with
    | some z=>some (true,z)
    | none=>none
  | _=>none
theorem qP:∀ {l m:List Value},eL l m=true→l.length=m.length
 | [],[],_=>rfl
 | .bool _::l,.bool _::m,h=>by simp [qP (l:=l) (m:=m) h]
 | .int q _::l,.int q' _::m,h=>by
  simp only [eL,Bool.and_eq_true] at h
  simp [qP (l:=l) (m:=m) h.2]
 | .string _::l,.string _::m,h=>by simp [qP (l:=l) (m:=m) h]
/-- One cell of the same kind. -/
def ID (x v:Value):Prop:=(∃ a b,x=.bool a∧v=.bool b)∨(∃ q a b,x=.int q a∧v=.int q b)∨∃ a b,x=.string a∧v=.string b
theorem BE {xs z:List Value} {v:Value} (h:eL xs (v::z)=true):∃ x l,xs=x::l∧ID x v∧eL l z=true:=by
 generalize e:v::z=w at h
 unfold eL at h
 split at h
 ·cases e
 ·cases e; exact ⟨_,_,rfl,.inl ⟨_,_,rfl,rfl⟩,h⟩
 ·cases e
  simp only [Bool.and_eq_true,decide_eq_true_eq] at h
  obtain ⟨rfl,h⟩:=h
  exact ⟨_,_,rfl,.inr (.inl ⟨_,_,_,rfl,rfl⟩),h⟩
 ·cases e; exact ⟨_,_,rfl,.inr (.inr ⟨_,_,rfl,rfl⟩),h⟩
 ·cases h
theorem Gd {xs:List Value} (h:eL xs []=true):xs=[]:=List.length_eq_zero_iff.1 (qP h)
theorem VR {x v:Value} {l z:List Value} (h:ID x v) (J:eL l z=true):eL (x::l) (v::z)=true:=by
 rcases h with ⟨a,b,rfl,rfl⟩ | ⟨q,a,b,rfl,rfl⟩ | ⟨a,b,rfl,rfl⟩
 ·exact J
 ·simp only [eL,decide_true,Bool.true_and]; exact J
 ·exact J
theorem Dn:∀ {z xs zs:List Value},eL xs (z++zs)=true→∃ x1 x2,xs=x1++x2∧eL x1 z=true∧eL x2 zs=true
 | [],xs,zs,h=>⟨[],xs,rfl,rfl,h⟩
 | v::z,xs,zs,h=>by
  obtain ⟨x,l,rfl,h1,J⟩:=BE (z:=z++zs) h
  obtain ⟨x1,x2,rfl,h3,h4⟩:=Dn J
  exact ⟨x::x1,x2,rfl,VR h1 h3,h4⟩
theorem Jo:∀ {z x1 y1 x2 y2:List Value},eL x1 z=true→eL y1 z=true→eh (x1++x2) (y1++y2)=(eh x1 y1 && eh x2 y2)
 | [],x1,y1,x2,y2,h1,J=>by
  rw [Gd h1,Gd J]
  simp [eh]
 | v::z,x1,y1,x2,y2,h1,J=>by
  obtain ⟨x,l,rfl,a1,a2⟩:=BE h1
  obtain ⟨y,m,rfl,b1,b2⟩:=BE J
  have ih:=Jo (x2:=x2) (y2:=y2) a2 b2
  rcases a1 with ⟨p,_,rfl,rfl⟩ | ⟨q,p,_,rfl,rfl⟩ | ⟨p,_,rfl,rfl⟩
  all_goals
   rcases b1 with ⟨r,_,rfl,e⟩ | ⟨q',r,_,rfl,e⟩ | ⟨r,_,rfl,e⟩
  all_goals first | (cases e; done) | skip
  all_goals
   simp only [List.cons_append,eh,ih,Bool.and_assoc]
theorem wm {xs:List Value} {v:Value} (h:eL xs [v]=true):∃ x,xs=[x]∧ID x v:=by
 obtain ⟨x,l,rfl,h1,J⟩:=BE h
 rw [Gd J]
 exact ⟨x,rfl,h1⟩
def toV (b:Bool) (xs:List Value):Value:=if b then .agg ⟨xs⟩ else xs.getD 0 undef
theorem JF {P:Program} {d:Nat} (ih:∀ t b z,wL P d t=some (b,z)→∀ n xs ys w,eL xs z=true→eL ys z=true→(Op.equalIn (n+d) t (toV b xs) (toV b ys)).run P w=.ok (eh xs ys) w) (n:Nat) (w:World) (XS YS:List Value) :
  ∀ (l:List Field) (o:Nat) (z:List Value),Bi P (wL P d) o l=some z→∀ xs ys,eL xs z=true→eL ys z=true→(∀ j v,xs[j]?=some v→XS[o+j]?=some v)→(∀ j v,ys[j]?=some v→YS[o+j]?=some v) →
   (Op.eqFields (n+d) ⟨XS⟩ ⟨YS⟩ l).run P w=.ok (eh xs ys) w
 | [],o,z,h,xs,ys,h1,J,_,_=>by
  cases h
  have e1:=qP h1
  have e2:=qP J
  have e1:xs=[]:=List.length_eq_zero_iff.1 e1
  have e2:ys=[]:=List.length_eq_zero_iff.1 e2
  subst e1; subst e2
  rfl
 | f::l,o,z,h,xs,ys,h1,J,hx,hy=>by
  unfold Bi at h
  split at h
  ·rename_i b z1 i dd hb hg hi hu
   split at h
   ·rename_i hc
    split at h
    ·rename_i zs hz
     cases h
     simp only [Bool.and_eq_true] at hb hc
     obtain ⟨⟨c1,c2⟩,c3⟩:=hc
     obtain ⟨x1,x2,rfl,xe,p7⟩:=Dn h1
     obtain ⟨y1,y2,rfl,oK,p8⟩:=Dn J
     have lx:=qP xe
     have ly:=qP oK
     have aT:=Nat.eq_of_beq_eq_true c1
     have PO:xY P f (o,z1.length,b):=⟨Nat.eq_of_beq_eq_true hb.1,Nat.le_of_ble_eq_true c3,⟨i,hi,aT⟩,dd,hu,by simpa using c2⟩
     have p1:=EY PO (cs:=XS) (vs:=x1) lx (fun j v hv=>hx j v (by rw [List.getElem?_append_left (by rw [List.getElem?_eq_some_iff] at hv; exact hv.1)]; exact hv)) w
     have p2:=EY PO (cs:=YS) (vs:=y1) ly (fun j v hv=>hy j v (by rw [List.getElem?_append_left (by rw [List.getElem?_eq_some_iff] at hv; exact hv.1)]; exact hv)) w
     have p3:=ih f.type b z1 hg n x1 y1 w xe oK
     have p4:=JF ih n w XS YS l (o+z1.length) zs hz x2 y2 p7 p8
      (fun j v hv=>by
       rw [Nat.add_assoc]
       refine hx _ v ?_
       rw [List.getElem?_append_right (by omega),← lx,Nat.add_sub_cancel_left]
       exact hv)
      (fun j v hv=>by
       rw [Nat.add_assoc]
       refine hy _ v ?_
       rw [List.getElem?_append_right (by omega),← ly,Nat.add_sub_cancel_left]
       exact hv)
     have aI : f.name ≠ "_" := by simpa using hb.2
     unfold Op.eqFields
     rw [if_pos aI]
     unfold toV at p3
     simp only [Sem.run_bind,p1,p2,Result.andThen_ok]
     rw [p3]
     simp only [Result.andThen_ok]
     rw [Jo xe oK]
     cases eh x1 y1
     ·rfl
     ·simpa using p4
    ·cases h
   ·cases h
  ·cases h
theorem Kv {P:Program}:∀ (d:Nat) (t:TypeId) (b:Bool) (z:List Value),wL P d t=some (b,z)→∀ (n:Nat) (xs ys:List Value) (w:World),eL xs z=true→eL ys z=true →
  (Op.equalIn (n+d) t (toV b xs) (toV b ys)).run P w=.ok (eh xs ys) w
 | 0,t,b,z,h=>by cases h
 | d+1,t,b,z,h=>by
  intro n xs ys w h1 J
  unfold wL at h
  split at h
  ·rename_i hu
   cases h
   obtain ⟨x,rfl,a1⟩:=wm h1
   obtain ⟨y,rfl,a2⟩:=wm J
   rcases a1 with ⟨x,_,rfl,e⟩ | ⟨_,x,_,rfl,e⟩ | ⟨x,_,rfl,e⟩
   all_goals first | (cases e; done) | skip
   rcases a2 with ⟨y,_,rfl,e⟩ | ⟨_,y,_,rfl,e⟩ | ⟨y,_,rfl,e⟩
   all_goals first | (cases e; done) | skip
   ·skip
    rw [show toV false [Value.bool x]=.bool x from rfl,show toV false [Value.bool y]=.bool y from rfl]
    rw [show n+(d+1)=(n+d)+1 from rfl,run_equalIn_bool' w (n+d) t x y hu]
    simp [eh]
  ·rename_i q hu
   cases h
   obtain ⟨x,rfl,a1⟩:=wm h1
   obtain ⟨y,rfl,a2⟩:=wm J
   rcases a1 with ⟨x,_,rfl,e⟩ | ⟨q1,x,_,rfl,e⟩ | ⟨x,_,rfl,e⟩
   all_goals first | (cases e; done) | skip
   cases e
   rcases a2 with ⟨y,_,rfl,e⟩ | ⟨q2,y,_,rfl,e⟩ | ⟨y,_,rfl,e⟩
   all_goals first | (cases e; done) | skip
   cases e
   ·skip
    rw [show toV false [Value.int q x]=.int q x from rfl,show toV false [Value.int q y]=.int q y from rfl]
    rw [show n+(d+1)=(n+d)+1 from rfl,run_equalIn_int w (n+d) t q q x y hu]
    simp [eh]
  ·rename_i hu
   cases h
   obtain ⟨x,rfl,a1⟩:=wm h1
   obtain ⟨y,rfl,a2⟩:=wm J
   rcases a1 with ⟨x,_,rfl,e⟩ | ⟨_,x,_,rfl,e⟩ | ⟨x,_,rfl,e⟩
   all_goals first | (cases e; done) | skip
   rcases a2 with ⟨y,_,rfl,e⟩ | ⟨_,y,_,rfl,e⟩ | ⟨y,_,rfl,e⟩
   all_goals first | (cases e; done) | skip
   ·skip
    rw [show toV false [Value.string x]=.string x from rfl,show toV false [Value.string y]=.string y from rfl]
    rw [show n+(d+1)=(n+d)+1 from rfl,run_equalIn_string w (n+d) t x y hu]
    simp [eh]
  ·rename_i fs hu
   split at h
   ·cases h
   ·rename_i an
    split at h
    ·rename_i z0 hz
     cases h
     have uU:P.fieldsOf t=fs:=by unfold Program.fieldsOf; rw [hu]
     show (Op.equalIn (n+(d+1)) t (.agg ⟨xs⟩) (.agg ⟨ys⟩)).run P w=_
     rw [show n+(d+1)=(n+d)+1 from rfl,run_equalIn_struct w (n+d) t ⟨xs⟩ ⟨ys⟩ (by rw [uU]; exact hu) an,uU]
     exact JF (Kv d) n w xs ys fs.toList 0 _ hz xs ys h1 J (fun j v hv=>by rw [Nat.zero_add]; exact hv) (fun j v hv=>by rw [Nat.zero_add]; exact hv)
    ·cases h
  ·cases h
theorem acL {P:Program} {t:TypeId} {z:List Value} (h:wL P 5 t=some (true,z)) (hg:P.eqGuardType P.depth t=false):wW P t z:=by
 intro xs ys w h1 J
 refine ⟨?_,fun x y op=>run_eqGuard_agg w op t x y ⟨xs⟩ ⟨ys⟩ hg⟩
 exact Kv 5 t true z h 9995 xs ys w h1 J
end Go.Ae
/- A function called with a block of which less is known. -/
namespace Go.Ae
open Go Go.RowKit
/-- The first range over a function in some code. -/
def tW:Code→Option (Array Nat × Code × Code)
 | .rangeFunc _ ps a b=>some (ps,a,b)
 | .seq a b=>match tW a with
  | some x=>some x
  | none=>tW b
 | .block _ c=>tW c
 | .loop c=>tW c
 | .cond _ a b=>match tW a with
  | some x=>some x
  | none=>tW b
 | _=>none
/-- Its record, ready for a round. -/
def pT (f:Func) (fn:FuncId) (tm:Array Value) (df:Nat):Loop :=
 match f.body with
 | some c=>match tW c with
  | some (ps,a,b)=>⟨.ready,none,fn,tm,ps,a,b,df⟩
  | none=>⟨.ready,none,fn,tm,#[],.skip,.skip,df⟩
 | none=>⟨.ready,none,fn,tm,#[],.skip,.skip,df⟩
/-- A slice that grows, and its block. -/
def eD (id:Nat):Nat→Value
 | 0=>.slice none 0 0
 | q+1=>.slice (some ⟨id,0,none⟩) (q+1) aJ
def yU (e:Nat) (F:Nat→List Value):Nat→ax
 | 0=>[]
 | q+1=>[some (.flat true (q+1) e F)]
end Go.Ae
