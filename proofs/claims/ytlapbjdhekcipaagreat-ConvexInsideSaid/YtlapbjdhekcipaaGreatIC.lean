import Derived.Laws.StructEq
import Derived.Test.YtlapbjdhekcipaaGreatIB
set_option linter.unusedVariables false
set_option linter.unusedSimpArgs false
namespace Go.Ae
open Go Go.RowKit
def mI (es:List (Option Nat)) (D:Nat→Bool) (i:Nat):Bool:=(List.range es.length).any fun p=>D p && (es.getD p none == some i)
theorem tb {es:List (Option Nat)} {D:Nat→Bool} {i:Nat}:mI es D i=true↔∃ p,D p=true∧es[p]?=some (some i):=by
 unfold mI;rw [List.any_eq_true];constructor
 ·rintro ⟨p,hp,h⟩
  rw [Bool.and_eq_true,beq_iff_eq,List.getD_eq_getElem?_getD,List.getElem?_eq_getElem (List.mem_range.1 hp)] at h;exact ⟨p,h.1,by rw [List.getElem?_eq_getElem (List.mem_range.1 hp)]; exact congrArg some h.2⟩
 ·rintro ⟨p,h1,J⟩
  have ak:=(List.getElem?_eq_some_iff.1 J).1;refine ⟨p,List.mem_range.2 ak,?_⟩;rw [h1,List.getD_eq_getElem?_getD,J];simp
def iD (es:List (Option Nat)) (rs:List cT) (D:Nat→Bool) (m:Nat):List (Option ah):=(List.range m).map fun i=>if D i && !mI es D i then (rs[i]?).bind (·.nb) else none
theorem vT {es:List (Option Nat)} {rs:List cT} {D:Nat→Bool} {m i:Nat} {b:ah}:(iD es rs D m)[i]?=some (some b)↔i < m∧D i=true∧mI es D i=false∧(rs[i]?).bind (·.nb)=some b:=by
 unfold iD;rw [List.getElem?_map];by_cases h:i < m
 ·simp only [List.getElem?_range h,Option.map_some,Option.some.injEq];cases D i <;> cases mI es D i <;> simp [h]
 ·rw [List.getElem?_eq_none (by simp; omega)]
  simp [h]
theorem AA (es:List (Option Nat)) (rs:List cT) (D:Nat→Bool) (m:Nat):(iD es rs D m).length=m:=by simp [iD]
def iE (es:List (Option Nat)) (rs:List cT):List (Option ah):=iD es rs (fun i=>decide (i < rs.length)) rs.length
def G7 (ms:List (List Nat)) (j i:Nat):Bool :=
 decide (i < j) && (ms.getD j []).contains i && (List.range ms.length).all fun q=>q == j || !((ms.getD q []).contains i) || (ms.getD j []).contains q
theorem R6 {ms:List (List Nat)} {j i:Nat} (h:G7 ms j i=true):i < j∧i∈ms.getD j []∧∀ q,q≠j→i∈ms.getD q []→q∈ms.getD j []:=by
 unfold G7 at h;simp only [Bool.and_eq_true,decide_eq_true_eq,List.contains_iff_mem,List.all_eq_true,List.mem_range,Bool.or_eq_true,beq_iff_eq,Bool.not_eq_true'] at h;refine ⟨h.1.1,h.1.2,fun q hq hi=>?_⟩
 have ak:q < ms.length:=by
  rcases Nat.lt_or_ge q ms.length with h' | h'
  ·exact h'
  ·rw [List.getD_eq_getElem?_getD,List.getElem?_eq_none h'] at hi; cases hi
 rcases h.2 q ak with (h' | h') | h'
 ·exact absurd h' hq
 ·rw [List.contains_iff_mem.2 hi] at h'; cases h'
 ·exact h'
def mJ (E:Env) (ops:List Oper) (vd:List (List Nat)) (H:ay) (n0:Nat):List Oper→List (List Nat)→Nat→List Value→List (Option ah)→(List Value→List (Option ah)→Prop)→Prop
 | [],_,_,t,S,k=>k t S
 | o::l,mask::aQ,j,t,S,k =>
  match o.guard with
  | none=>match isApp o.op with
   | some (ty,x,y)=>kR S 0 mask fun Sm=>mZ H Sm fun G=>O1 E t G n0 (n0+j) ty x y fun v fO nb=>match fO with
    | some i=>G7 vd j i=true∧c8 t o.dst v fun t'=>iX S i none fun S1=>iV S1 nb fun S'=>mJ E ops vd H n0 l aQ (j+1) t' S' k
    | none=>c8 t o.dst v fun t'=>iV S nb fun S'=>mJ E ops vd H n0 l aQ (j+1) t' S' k
   | none=>kR S 0 mask fun Sm=>mZ H Sm fun G=>kF E o.op t G (n0+j) fun v nb=>c8 t o.dst v fun t'=>iV S nb fun S'=>mJ E ops vd H n0 l aQ (j+1) t' S' k
  | some (g,want)=>match (ops[g]?).bind (·.dst) with
   | some d=>pV t d fun v=>match v with
    | .bool b=>br (b == want)
      (kR S 0 mask fun Sm=>mZ H Sm fun G=>kF E o.op t G (n0+j) fun v nb=>c8 t o.dst v fun t'=>iV S nb fun S'=>mJ E ops vd H n0 l aQ (j+1) t' S' k)
      (c8 t o.dst undef fun t'=>iV S none fun S'=>mJ E ops vd H n0 l aQ (j+1) t' S' k)
    | .tuple _=>c8 t o.dst undef fun t'=>iV S none fun S'=>mJ E ops vd H n0 l aQ (j+1) t' S' k
    | _=>False
   | none=>False
 | _::_,[],_,_,_,_=>False
def Oj (E:Env) (ops:List Oper) (t:List Value) (H:ay) (k:SK):Prop :=
 ∃ (m:Nat) (aQ:List (List Nat)),B5 ops m aQ=true∧iY H fun n0=>uf ops m fun hd tl=>mJ E ops aQ H n0 hd aQ 0 t [] fun t' S=>mZ H S fun G=>mQ E ops tl t' G k
structure ox (P:Program) (ops:List Oper) (t0:List Value) (H:ay) (aQ:List (List Nat)) (rs:List cT) (es:List (Option Nat)) (j:Nat):Prop where
 ok:∃ o r fO,ops[j]?=some o∧rs[j]?=some r∧es[j]?=some fO∧(∀ d,o.dst=some d→d < t0.length) ∧
  ((∃ G:ay,(∀ id b,G[id]?=some (some b)→(id < H.length∧H[id]?=some (some b))∨(∃ i,id=H.length+i∧i < j∧i∈aQ.getD j []∧(rs[i]?).bind (·.nb)=some b)) ∧
    (∀ i,fO=some i→i < j∧i∈aQ.getD j []∧(∀ q,q≠j→i∈aQ.getD q []→q∈aQ.getD j [])∧∃ b,G[H.length+i]?=some (some b)∧b.own=true) ∧
    (∀ (ν:Nu) (a:Act) (w:World) (q:Option Nat) (n:Nat),(∀ x∈o.op.operands,eW ν (aZ ops rs (fun i=>decide (i < j)) t0 j) a x)→bQ ν G w→ν (H.length+j)=none →
     ∀ next Q,(∀ v' w' ai,EPost ν ai (H.length+j) (fO.bind fun i=>ν (H.length+i)) w w' r.v v' r.nb→next (a.put o.dst v') w')→o.wpIn (WF q) n P a w next Q) ∧
    (o.guard=none∨∃ g want d b,o.guard=some (g,want)∧bK ops g=some d∧(aZ ops rs (fun i=>decide (i < j)) t0 j)[d]?=some (.bool b)∧(b == want)=true)) ∨
    (fO=none∧r.v=undef∧r.nb=none∧∃ g want d v,o.guard=some (g,want)∧bK ops g=some d∧(aZ ops rs (fun i=>decide (i < j)) t0 j)[d]?=some v∧((∃ b,v=.bool b∧(b == want)=false)∨∃ vs,v=.tuple vs)))
theorem ox.more {P:Program} {ops:List Oper} {t0:List Value} {H:ay} {aQ:List (List Nat)} {rs:List cT} {es:List (Option Nat)} {j:Nat} (h:ox P ops t0 H aQ rs es j) (hj:j < rs.length) (hj2:j < es.length) (r:cT) (e:Option Nat):ox P ops t0 H aQ (rs++[r]) (es++[e]) j:=by
 have he:∀ i,i≤j→(rs++[r])[i]?=rs[i]?:=fun i hi=>by rw [List.getElem?_append_left (by omega)]
 have hv:∀ D,aZ ops (rs++[r]) D t0 j=aZ ops rs D t0 j:=fun D=>s3 (fun i hi=>he i (by omega))
 obtain ⟨o,q,fO,h1,J,jF,h3,h4⟩:=h.ok;refine ⟨⟨o,q,fO,h1,by rw [he j (Nat.le_refl _)]; exact J,by rw [List.getElem?_append_left hj2]; exact jF,h3,?_⟩⟩
 rw [hv];rcases h4 with ⟨G,g1,g2,g3,g4⟩ | h4
 ·exact .inl ⟨G,fun id b hb=>(g1 id b hb).imp (fun x=>x) (fun ⟨i,k1,k2,k3,k4⟩=>⟨i,k1,k2,k3,by rw [he i (by omega)]; exact k4⟩),g2,g3,g4⟩
 ·exact .inr h4
def pP (S:List (Option ah)):Option Nat→List (Option ah)
 | some i=>S.set i none
 | none=>S
theorem Ts {es:List (Option Nat)} {rs:List cT} {i:Nat} {b:ah} (h:(iE es rs)[i]?=some (some b)):(rs[i]?).bind (·.nb)=some b:=(vT.1 h).2.2.2
theorem R7 {es:List (Option Nat)} {rs:List cT} (hl:es.length=rs.length) (ak:∀ (p i:Nat),es[p]?=some (some i)→i < p) (r:cT) (e:Option Nat) (he:∀ i,e=some i→i < rs.length) :
  iE (es++[e]) (rs++[r])=pP (iE es rs) e++[r.nb]:=by
 have hD:∀ i,i < rs.length+1→decide (i < (rs++[r]).length)=true:=fun i hi=>by simp; omega
 have PR:∀ i,mI (es++[e]) (fun i=>decide (i < (rs++[r]).length)) i=(mI es (fun i=>decide (i < rs.length)) i || e == some i):=fun i=>by
  rw [Bool.eq_iff_iff,Bool.or_eq_true,tb,tb,beq_iff_eq];constructor
  ·rintro ⟨p,_,J⟩
   rw [List.getElem?_append] at J
   split at J
   ·rename_i hp;exact .inl ⟨p,by simp; omega,J⟩
   ·right
    have:p - es.length=0:=by
     rcases Nat.eq_zero_or_pos (p - es.length) with h | h
     ·exact h
     ·rw [List.getElem?_eq_none (by simp; omega)] at J; cases J
    rw [this] at J
    simpa using J
  ·rintro (⟨p,h1,J⟩ | J)
   ·have:=(List.getElem?_eq_some_iff.1 J).1;exact ⟨p,by simp at h1 ⊢; omega,by rw [List.getElem?_append_left this]; exact J⟩
   ·exact ⟨es.length,by simp; omega,by rw [List.getElem?_append_right (Nat.le_refl _)]; simp [J]⟩
 apply List.ext_getElem?;intro x;have hlen:(pP (iE es rs) e).length=rs.length:=by
  cases e <;> simp [pP,iE,AA]
 unfold iE iD;rw [List.getElem?_map];by_cases hx:x < rs.length
 ·rw [List.getElem?_range (by simp; omega),List.getElem?_append_left (by cases e <;> simp [pP] <;> omega)]
  simp only [Option.map_some];simp only [PR x,hD x (by omega)]
  rw [List.getElem?_append_left hx];unfold pP;cases e with
  | none =>
   dsimp only
   rw [List.getElem?_map,List.getElem?_range hx];simp [hx]
  | some i =>
   dsimp only
   by_cases IH:i=x
   ·subst IH;rw [List.getElem?_set_self (by simpa using hx)]
    simp
   ·rw [List.getElem?_set_ne IH,List.getElem?_map,List.getElem?_range hx];have:(some i == some x)=false:=by simp [IH]
    rw [this];simp [hx]
 ·by_cases qz:x=rs.length
  ·subst qz;rw [List.getElem?_range (by simp),List.getElem?_append_right (by cases e <;> simp [pP])]
   have aH:mI es (fun i=>decide (i < rs.length)) rs.length=false:=by
    cases h:mI es (fun i=>decide (i < rs.length)) rs.length with
    | false=>rfl
    | true =>
     obtain ⟨p,h1,J⟩:=tb.1 h;have:=ak p _ J;have:=of_decide_eq_true h1;omega
   have HH:(e == some rs.length)=false:=by
    cases e with
    | none=>rfl
    | some i=>have:=he i rfl; simp; omega
   simp only [Option.map_some];simp only [PR,hD _ (Nat.lt_succ_self _),aH,HH];cases e <;> simp [pP]
  ·rw [List.getElem?_eq_none (by simp; omega),List.getElem?_eq_none (by cases e <;> simp [pP] <;> omega)]; rfl
theorem KH {P:Program} {E:Env} (hE:EnvOk P E) {ops:List Oper} {t0:List Value} {H:ay} {aQ:List (List Nat)} {k:List Value→List (Option ah)→Prop} :
  ∀ {l:List Oper} {ms:List (List Nat)} {j:Nat} {rs:List cT} {es:List (Option Nat)},rs.length=j→es.length=j→(∀ (p i:Nat),es[p]?=some (some i)→i < p)→(∀ (i:Nat) o,l[i]?=some o→ops[j+i]?=some o)→(∀ i,i < l.length→ms.getD i []=aQ.getD (j+i) []) →
  (∀ i,i < j→ox P ops t0 H aQ rs es i)→mJ E ops aQ H H.length l ms j (aZ ops rs (fun i=>decide (i < j)) t0 j) (iE es rs) k →
  ∃ (bV:List cT) (jG:List (Option Nat)),bV.length=j+l.length∧jG.length=j+l.length∧(∀ i,i < j+l.length→ox P ops t0 H aQ bV jG i)∧k (aZ ops bV (fun i=>decide (i < j+l.length)) t0 (j+l.length)) (iE jG bV)
 | [],ms,j,rs,es,hl,iI,_,_,_,a8,h=>⟨rs,es,hl,iI,a8,h⟩
 | o::l,[],j,rs,es,hl,iI,_,_,_,a8,h=>h.elim
 | o::l,mask::ms,j,rs,es,hl,iI,ak,ho,hm,a8,h=>by
  have nP:ops[j]?=some o:=by have:=ho 0 o rfl; simpa using this
  have Cq:mask=aQ.getD j []:=by have:=hm 0 (by simp); simpa using this
  -- the next step, whatever this one's result
  have next:∀ (r:cT) (e:Option Nat) t',(t'=match o.dst with | some d=>(aZ ops rs (fun i=>decide (i < j)) t0 j).set d r.v | none=>aZ ops rs (fun i=>decide (i < j)) t0 j)→(∀ i,e=some i→i < j) →
    (ox P ops t0 H aQ (rs++[r]) (es++[e]) j)→mJ E ops aQ H H.length l ms (j+1) t' (pP (iE es rs) e++[r.nb]) k →
    ∃ (bV:List cT) (jG:List (Option Nat)),bV.length=j+(o::l).length∧jG.length=j+(o::l).length∧(∀ i,i < j+(o::l).length→ox P ops t0 H aQ bV jG i)∧k (aZ ops bV (fun i=>decide (i < j+(o::l).length)) t0 (j+(o::l).length)) (iE jG bV):=by
   intro r e t' jf fc hj h';have hv:aZ ops (rs++[r]) (fun i=>decide (i < j+1)) t0 (j+1)=t':=by
    have hr:(rs++[r])[j]?=some r:=by rw [← hl]; simp
    have hd:bK ops j=o.dst:=by simp [bK,nP]
    have yW:aZ ops (rs++[r]) (fun i=>decide (i < j+1)) t0 j=aZ ops rs (fun i=>decide (i < j)) t0 j:=by
     rw [s3 (bV:=rs) (fun i hi=>by rw [List.getElem?_append_left (by omega)])]
     exact xO (fun i hi=>by simp; omega)
    have HE:decide (j < j+1)=true:=by simp
    rw [jf,Ew,hr,hd,yW,HE];cases o.dst <;> rfl
   rw [← hv,← R7 (iI.trans hl.symm) ak r e (fun i hi=>by rw [hl]; exact fc i hi)] at h'
   obtain ⟨bV,jG,k1,PS,k2,k3⟩:=KH hE (l:=l) (ms:=ms) (j:=j+1) (rs:=rs++[r]) (es:=es++[e]) (by simp [hl]) (by simp [iI]) (fun p i hp=>by
     rw [List.getElem?_append] at hp
     split at hp
     ·exact ak p i hp
     ·rename_i dP;have:p - es.length=0:=by
       rcases Nat.eq_zero_or_pos (p - es.length) with h | h
       ·exact h
       ·rw [List.getElem?_eq_none (by simp; omega)] at hp; cases hp
      rw [this] at hp;have:=fc i (by simpa using hp)
      omega) (fun i p hp=>by have:=ho (i+1) p (by simpa using hp); rwa [show j+1+i=j+(i+1) by omega])
    (fun i hi=>by have:=hm (i+1) (by simp; omega); rw [show j+1+i=j+(i+1) by omega]; simpa using this)
    (fun i hi=>by
     by_cases e':i=j
     ·subst e'; exact hj
     ·exact (a8 i (by omega)).more (by omega) (by omega) r e) h'
   have e2:j+1+l.length=j+(o::l).length:=by simp; omega
   rw [e2] at k1 PS k2 k3;exact ⟨bV,jG,k1,PS,k2,k3⟩
  have nQ:∀ r:cT,aZ ops (rs++[r]) (fun i=>decide (i < j)) t0 j=aZ ops rs (fun i=>decide (i < j)) t0 j:=fun r=>s3 (fun i hi=>by rw [List.getElem?_append_left (by omega)])
  have sK:∀ r:cT,(rs++[r])[j]?=some r:=fun r=>by rw [← hl]; simp
  have Dr:∀ e:Option Nat,(es++[e])[j]?=some e:=fun e=>by rw [← iI]; simp
  -- what is seen of the blocks
  have seen:∀ {Sm:List (Option ah)} (r:cT),(∀ jj b,Sm[jj]?=some (some b)→(iE es rs)[jj]?=some (some b)∧(0+jj)∈mask)→∀ id b,(H++Sm)[id]?=some (some b) →
    (id < H.length∧H[id]?=some (some b))∨(∃ i,id=H.length+i∧i < j∧i∈aQ.getD j []∧((rs++[r])[i]?).bind (·.nb)=some b):=by
   intro Sm r h3 id b hb;rw [List.getElem?_append] at hb
   split at hb
   ·exact .inl ⟨by assumption,hb⟩
   ·rename_i dP;obtain ⟨q1,q2⟩:=h3 _ b hb;have acW:id - H.length < rs.length:=by
     have:=(List.getElem?_eq_some_iff.1 q1).1
     rwa [iE,AA] at this
    refine .inr ⟨id - H.length,by omega,by omega,by rw [← Cq]; simpa using q2,?_⟩
    rw [List.getElem?_append_left acW];exact Ts q1
  have CT:∀ {v:Value} {kk:List Value→Prop},c8 (aZ ops rs (fun i=>decide (i < j)) t0 j) o.dst v kk→∃ t',(t'=match o.dst with | some d=>(aZ ops rs (fun i=>decide (i < j)) t0 j).set d v | none=>aZ ops rs (fun i=>decide (i < j)) t0 j)∧(∀ d,o.dst=some d→d < t0.length)∧kk t':=by
   intro v kk hk;cases hd:o.dst with
   | none=>rw [hd] at hk; exact ⟨_,rfl,(fun d hd=>by cases hd),hk⟩
   | some d =>
    rw [hd] at hk;obtain ⟨k1,k2⟩:=n8 hk;rw [qY] at k1;exact ⟨_,rfl,(fun d' cM=>by cases cM; exact k1),k2⟩
  have run:(o.guard=none∨∃ g want d b,o.guard=some (g,want)∧bK ops g=some d∧(aZ ops rs (fun i=>decide (i < j)) t0 j)[d]?=some (.bool b)∧(b == want)=true) →
    (kR (iE es rs) 0 mask fun Sm=>mZ H Sm fun G=>kF E o.op (aZ ops rs (fun i=>decide (i < j)) t0 j) G (H.length+j) fun v nb=>c8 (aZ ops rs (fun i=>decide (i < j)) t0 j) o.dst v fun t'=>iV (iE es rs) nb fun S'=>mJ E ops aQ H H.length l ms (j+1) t' S' k) →
    ∃ (bV:List cT) (jG:List (Option Nat)),bV.length=j+(o::l).length∧jG.length=j+(o::l).length∧(∀ i,i < j+(o::l).length→ox P ops t0 H aQ bV jG i)∧k (aZ ops bV (fun i=>decide (i < j+(o::l).length)) t0 (j+(o::l).length)) (iE jG bV):=by
   intro hg h;obtain ⟨Sm,h1,J,h3⟩:=vJ h;have h1:=tj h1;obtain ⟨v,nb,hk,hq⟩:=A1 (P:=P) hE h1;obtain ⟨t',e1,e2,e3⟩:=CT hk;refine next ⟨v,nb,true⟩ none t' e1 (fun i hi=>by cases hi) ⟨⟨o,⟨v,nb,true⟩,none,nP,sK _,Dr _,e2,.inl ⟨H++Sm,seen _ h3,(fun i hi=>by cases hi),?_,?_⟩⟩⟩ (s8 e3)
   ·rw [nQ];exact fun ν a w q n ha hH hn next Q hN=>hq o ν a w q n rfl ha hH hn next Q (fun v' w' ai hp=>hN v' w' ai (hp.e _))
   ·rw [nQ]; exact hg
  have skip:(∃ g want d v,o.guard=some (g,want)∧bK ops g=some d∧(aZ ops rs (fun i=>decide (i < j)) t0 j)[d]?=some v∧((∃ b,v=.bool b∧(b == want)=false)∨∃ vs,v=.tuple vs)) →
    (c8 (aZ ops rs (fun i=>decide (i < j)) t0 j) o.dst undef fun t'=>iV (iE es rs) none fun S'=>mJ E ops aQ H H.length l ms (j+1) t' S' k) →
    ∃ (bV:List cT) (jG:List (Option Nat)),bV.length=j+(o::l).length∧jG.length=j+(o::l).length∧(∀ i,i < j+(o::l).length→ox P ops t0 H aQ bV jG i)∧k (aZ ops bV (fun i=>decide (i < j+(o::l).length)) t0 (j+(o::l).length)) (iE jG bV):=by
   intro hg hk;obtain ⟨t',e1,e2,e3⟩:=CT hk;exact next ⟨undef,none,false⟩ none t' e1 (fun i hi=>by cases hi) ⟨⟨o,⟨undef,none,false⟩,none,nP,sK _,Dr _,e2,.inr ⟨rfl,rfl,rfl,by rw [nQ]; exact hg⟩⟩⟩ (s8 e3)
  unfold mJ at h
  split at h
  ·rename_i hg
   split at h
   ·rename_i ty x y acX;obtain ⟨Sm,h1,J,h3⟩:=vJ h;have h1:=tj h1;obtain ⟨v,fO,nb,hk,jV,hq⟩:=Tr (P:=P) hE h1;obtain ⟨c,ve,hc2,PT,hc4⟩:=R5 acX
    -- what the step gives
    have step:∀ (ν:Nu) (a:Act) (w:World) (q:Option Nat) (n:Nat),(∀ x∈o.op.operands,eW ν (aZ ops rs (fun i=>decide (i < j)) t0 j) a x)→bQ ν (H++Sm) w→ν (H.length+j)=none →
      ∀ next Q,(∀ v' w' ai,EPost ν ai (H.length+j) (fO.bind fun i=>ν (H.length+i)) w w' v v' nb→next (a.put o.dst v') w')→o.wpIn (WF q) n P a w next Q:=by
     intro ν a w q n ha hH hn next Q hN;have gp:∀ z,z∈[x,y]→z∈o.op.operands:=fun z hz=>by
      rw [ve];simp only [List.mem_cons,List.mem_nil_iff,or_false] at hz;rcases hz with rfl | rfl <;> simp [Op.operands,Call.operands,PT]
     obtain ⟨v',w',ai,bw,hp⟩:=hq ν a w o.type (ha x (gp x (by simp))) (ha y (gp y (by simp))) hH hn
     exact jl (by simp [ve]) (by simp [execOp,ve,resolve,hc2,PT,hc4,invoke,builtin,bw]) next Q (hN _ _ _ hp)
    cases fO with
    | none =>
     obtain ⟨t',e1,e2,e3⟩:=CT hk;exact next ⟨v,nb,true⟩ none t' e1 (fun i hi=>by cases hi) ⟨⟨o,⟨v,nb,true⟩,none,nP,sK _,Dr _,e2,.inl ⟨H++Sm,seen _ h3,(fun i hi=>by cases hi),by rw [nQ]; exact step,.inl hg⟩⟩⟩ (s8 e3)
    | some i =>
     obtain ⟨acY,hk⟩:=hk;obtain ⟨sL,zW,hiq⟩:=R6 acY;obtain ⟨t',e1,e2,e3⟩:=CT hk;obtain ⟨_,e3⟩:=lN e3;exact next ⟨v,nb,true⟩ (some i) t' e1 (fun i' hi=>by cases hi; exact sL) ⟨⟨o,⟨v,nb,true⟩,some i,nP,sK _,Dr _,e2,.inl ⟨H++Sm,seen _ h3,(fun i' hi=>by cases hi; exact ⟨sL,zW,hiq,jV i rfl⟩),by rw [nQ]; exact step,.inl hg⟩⟩⟩ (s8 e3)
   ·exact run (.inl hg) h
  ·rename_i g want hg
   split at h
   ·rename_i d hd;obtain ⟨v,hv,h⟩:=n7 h
    split at h
    ·rename_i b;cases hb:(b == want) with
     | true=>exact run (.inr ⟨g,want,d,b,hg,hd,hv,hb⟩) (Bx h hb)
     | false=>exact skip ⟨g,want,d,_,hg,hd,hv,.inl ⟨b,rfl,hb⟩⟩ (Bf h hb)
    ·exact skip ⟨g,want,d,_,hg,hd,hv,.inr ⟨_,rfl⟩⟩ h
    ·exact h.elim
   ·exact h.elim
section
variable {P:Program} {E:Env} {r:Option Nat} {n:Nat} {F:Fr} {ops:Array Oper} {Q:Exit→Act→World→Prop} {m:Nat} {aQ:List (List Nat)} {k:SK}
theorem R8 (hc:Order ops.toList aQ) (tZ:m≤ops.size)
  (yx:∀ j o i p d,j < m→i < m→i≠j→ops.toList[j]?=some o→ops.toList[i]?=some p→p.dst=some d→o.dst≠some d∧(d ∉ iN ops.toList o∨i∈aQ.getD j []∨j∈aQ.getD i []))
  (Cr:∀ j,j < ops.size→m≤j→∀ i,i < m→i∈aQ.getD j [])
  {t0:List Value} {H:ay} {rs:List cT} {es:List (Option Nat)} (hel:es.length=m) (hh:∀ i,i < m→ox P ops.toList t0 H aQ rs es i)
  (oD:∀ (fuel:Nat) (aB:Array Bool) (ν:Nu) (a:Act) (w:World),aB.size=ops.size→oj ops.toList (DB aB)→(∀ i,DB aB i=true→i < m)→(∀ i,i < m→DB aB i=true) →
   bo F ν (aZ ops.toList rs (DB aB) t0 m) (H++iD es rs (DB aB) m) a w→fZ (DB aB) ops.size≤fuel→wpAnyIn (WF r) n P .any ops Q fuel aB a w) :
  ∀ (fuel:Nat) (aB:Array Bool) (ν:Nu) (a:Act) (w:World),aB.size=ops.size→oj ops.toList (DB aB)→(∀ i,DB aB i=true→i < m) →
  bo F ν (aZ ops.toList rs (DB aB) t0 m) (H++iD es rs (DB aB) m) a w→(∀ i,i < m→DB aB i=false→ν (H.length+i)=none)→fZ (DB aB) ops.size≤fuel →
  wpAnyIn (WF r) n P .any ops Q fuel aB a w:=by
 have k9:∀ i d,i < m→bK ops.toList i=some d→d < t0.length:=by
  intro i d hi hd;obtain ⟨o,q,_,h1,J,_,h3,_⟩:=(hh i hi).ok;unfold bK at hd;rw [h1] at hd;exact h3 d hd
 have oO:wV ops.toList m:=by
  intro i j d hi hj h1 J;rcases Nat.decEq i j with aH | he
  ·obtain ⟨o,q,_,k1,_⟩:=(hh i hi).ok;obtain ⟨p,q',_,k2,_⟩:=(hh j hj).ok;unfold bK at h1 J;rw [k1] at h1; rw [k2] at J;exact absurd h1 (yx i o j p d hi hj (Ne.symm aH) k1 k2 J).1
  ·exact he
 intro fuel
 induction fuel with
 | zero =>
  intro aB ν a w hs eF ak hi fM hu;have cP:∀ i,i < ops.size→DB aB i=true:=fun i aM=>by
   cases hd:DB aB i with
   | true=>rfl
   | false=>have:=Ex aM hd; omega
  exact oD 0 aB ν a w hs eF ak (fun i aM=>cP i (by omega)) hi hu
 | succ fuel ih =>
  intro aB ν a w hs eF ak hi fM hu;by_cases ow:∀ i,i < m→DB aB i=true
  ·exact oD (fuel+1) aB ν a w hs eF ak ow hi hu
  ·-- something of the head has not gone: the least such one may go
   have hex:∃ i,i < m∧DB aB i=false:=by
    refine Classical.byContradiction fun aH=>ow fun i aM=>?_
    cases hd:DB aB i with
    | true=>rfl
    | false=>exact absurd ⟨i,aM,hd⟩ aH
   obtain ⟨i1,Dm,fG⟩:=hex;obtain ⟨i0,OX,ff,iK⟩:=DW fG;have fA:i0 < m:=by omega
   have hr:=AI hc hs (by omega:i0 < ops.size) ff iK
   refine ⟨(fun hn=>by rw [hn] at hr; cases hr),fun j hj=>?_⟩
   rw [mem_ready] at hj;obtain ⟨h1,o,ho,he⟩:=hj;have m5:j < ops.size:=(Array.getElem?_eq_some_iff.1 ho).1;rw [tD (by omega)] at h1
   have fE:ops.toList[j]?=some o:=by simpa using ho
   have lF:=s6 hc eF j o fE (fun e' fF bB=>he e' fF bB)
   have mh:j < m:=by
    rcases Nat.lt_or_ge j m with h | h
    ·exact h
    ·have:=lF i1 (Cr j m5 h i1 Dm);rw [fG] at this; cases this
   obtain ⟨o',q,fO,g1,g2,g2e,g3,g4⟩:=(hh j mh).ok;rw [fE] at g1; cases g1;have IB:bK ops.toList j=o.dst:=by simp [bK,fE]
   -- what it reads stands as the text's order has it
   have G4:∀ d,d∈iN ops.toList o→(aZ ops.toList rs (DB aB) t0 m)[d]?=(aZ ops.toList rs (fun i=>decide (i < j)) t0 j)[d]?:=by
    intro d hd;rw [← vS (j:=j) (m:=m) (by omega) (fun i h1 J=>by simp; omega)]
    refine xZ oO k9 (fun i aM fC=>?_)
    by_cases e:i=j
    ·subst e; rw [h1]; simp
    ·obtain ⟨p,q',_,k1,_⟩:=(hh i aM).ok;have IC:p.dst=some d:=by unfold bK at fC; rw [k1] at fC; exact fC
     rcases (yx j o i p d mh aM e fE k1 IC).2 with h | h | h
     ·exact absurd hd h
     ·rw [lF i h];have:=(hc.mask j o fE i h).1;simp [this]
     ·have hji:=(hc.mask i p k1 j h).1;have:DB aB i=false:=by
       cases cM:DB aB i with
       | false=>rfl
       | true =>
        have:=s6 hc eF i p k1 (eF i p cM k1) j h;rw [h1] at this; cases this
      rw [this]; simp; omega
   have cV:∀ i,DB (aB.setIfInBounds j true) i=(DB aB i || i == j):=fun i=>B6 (by omega) i
   have xn:oj ops.toList (DB (aB.setIfInBounds j true)):=by
    intro i p aM hp e' fF bB;rw [cV] at aM ⊢;by_cases e:i=j
    ·subst e;rw [fE] at hp; cases hp;have:DB aB e'.on=true:=he e' fF bB;rw [this]; rfl
    ·have e2:(i == j)=false:=by simp [e]
     rw [e2,Bool.or_false] at aM;rw [eF i p aM hp e' fF bB]; rfl
   have pZ:∀ i,DB (aB.setIfInBounds j true) i=true→i < m:=fun i aM=>by
    rw [cV] at aM;by_cases e:i=j
    ·subst e; exact mh
    ·have e2:(i == j)=false:=by simp [e]
     rw [e2,Bool.or_false] at aM;exact ak i aM
   have sD:fZ (DB (aB.setIfInBounds j true)) ops.size≤fuel:=by
    have:=AV cV h1 ops.size;rw [if_pos m5] at this; omega
   have ue:=KG (D:=DB aB) (D':=DB (aB.setIfInBounds j true)) oO k9 mh h1 cV g2;rw [IB] at ue;have hat:∀ p i,es[p]?=some (some i)→p < m∧i < p∧i∈aQ.getD p []∧∀ q,q≠p→i∈aQ.getD q []→q∈aQ.getD p []:=by
    intro p i hp;have vf:p < m:=by have:=(List.getElem?_eq_some_iff.1 hp).1; omega
    obtain ⟨_,_,e',_,_,k3,_,k4⟩:=(hh p vf).ok;rw [hp] at k3; cases k3;rcases k4 with ⟨_,_,k5,_⟩ | ⟨k5,_⟩
    ·obtain ⟨y1,y2,y3,_⟩:=k5 i rfl;exact ⟨vf,y1,y2,y3⟩
    ·cases k5
   -- what this one sees has not been eaten
   have fresh:∀ i,i∈aQ.getD j []→mI es (DB aB) i=false:=by
    intro i aM;cases fF:mI es (DB aB) i with
    | false=>rfl
    | true =>
     obtain ⟨p,m6,qK⟩:=tb.1 fF;obtain ⟨vf,_,_,y3⟩:=hat p i qK;have PU:j≠p:=fun e=>by rw [← e,h1] at m6; cases m6
     have hjp:=y3 j PU aM;obtain ⟨op,_,_,k1,_⟩:=(hh p vf).ok;have:=s6 hc eF p op k1 (eF p op m6 k1) j hjp;rw [h1] at this; cases this
   have fa:∀ (id:Nat) (c:ah),(H++iD es rs (DB (aB.setIfInBounds j true)) m)[id]?=some (some c) →
     ((H++iD es rs (DB aB) m)[id]?=some (some c)∧∀ i,fO=some i→id≠H.length+i)∨(id=H.length+j∧q.nb=some c):=by
    intro id c;by_cases bh:id < H.length
    ·rw [List.getElem?_append_left bh,List.getElem?_append_left bh];exact fun h=>.inl ⟨h,fun i _=>by omega⟩
    ·rw [List.getElem?_append_right (by omega),List.getElem?_append_right (by omega),vT,vT]
     rintro ⟨k1,k2,k3,k4⟩
     rw [cV] at k2;by_cases e:id - H.length=j
     ·refine .inr ⟨by omega,?_⟩
      rw [e,g2] at k4; exact k4
     ·have e2:(id - H.length == j)=false:=by simp [e]
      rw [e2,Bool.or_false] at k2;refine .inl ⟨⟨k1,k2,?_,k4⟩,fun i aM adR=>?_⟩
      ·cases fF:mI es (DB aB) (id - H.length) with
       | false=>rfl
       | true =>
        obtain ⟨p,m6,qK⟩:=tb.1 fF;rw [tb.2 ⟨p,by rw [cV,m6]; rfl,qK⟩] at k3; cases k3
      ·have hx:id - H.length=i:=by omega
       rw [hx,tb.2 ⟨j,by rw [cV]; simp,by rw [g2e,aM]⟩] at k3; cases k3
   have mG:ν (H.length+j)=none:=fM j mh h1;have G5:(H++iD es rs (DB aB) m).length=H.length+m:=by rw [List.length_append,AA]
   have Gv:(H++iD es rs (DB (aB.setIfInBounds j true)) m).length=H.length+m:=by rw [List.length_append,AA]
   have hG:∀ {G:ay},(∀ (id:Nat) (b:ah),G[id]?=some (some b)→(id < H.length∧H[id]?=some (some b))∨(∃ i,id=H.length+i∧i < j∧i∈aQ.getD j []∧(rs[i]?).bind (·.nb)=some b)) →
     ∀ (id:Nat) (b:ah),G[id]?=some (some b)→(H++iD es rs (DB aB) m)[id]?=some (some b):=by
    intro G q1 id b hb;rcases q1 id b hb with ⟨h3,h4⟩ | ⟨i,h3,h4,h5,h6⟩
    ·rw [List.getElem?_append_left h3]; exact h4
    ·subst h3;rw [List.getElem?_append_right (by omega)]
     rw [show H.length+i - H.length=i by omega,vT]
     exact ⟨by omega,lF i h5,fresh i h5,h6⟩
   have acZ:∀ i,fO=some i→∃ bi,(H++iD es rs (DB aB) m)[H.length+i]?=some (some bi)∧bi.own=true:=by
    intro i aM;rcases g4 with ⟨G,q1,q2,_⟩ | ⟨q1,_⟩
    ·obtain ⟨_,_,_,bi,y1,y2⟩:=q2 i aM;exact ⟨bi,hG q1 _ _ y1,y2⟩
    ·rw [aM] at q1; cases q1
   -- the state behind it
   have after:∀ v' w' ai,EPost ν ai (H.length+j) (fO.bind fun i=>ν (H.length+i)) w w' q.v v' q.nb→wpAnyIn (WF r) n P .any ops Q fuel (aB.setIfInBounds j true) (a.put o.dst v') w':=by
    intro v' w' ai hp;have hold:∀ lo,(fO.bind fun i=>ν (H.length+i))=some lo→∃ i bi,fO=some i∧ν (H.length+i)=some lo∧(H++iD es rs (DB aB) m)[H.length+i]?=some (some bi)∧bi.own=true:=by
     intro lo gG;cases fF:fO with
     | none=>rw [fF] at gG; cases gG
     | some i =>
      rw [fF] at gG;obtain ⟨bi,y1,y2⟩:=acZ i fF;exact ⟨i,bi,rfl,gG,y1,y2⟩
    have dk:∀ (id:Nat) (c:ah),(H++iD es rs (DB aB) m)[id]?=some (some c)→id≠H.length+j:=fun id c h e=>by
     obtain ⟨l',cl,_⟩:=hi.hp.aG id c h;rw [e,mG] at cl; cases cl
    have tZ:w.heap.size≤w'.heap.size:=by
     rcases hp.Dq with hb | ⟨_,_,_,_,h,_⟩
     ·exact hb.size
     ·exact h
    have sI:Kept F.O F.W w':=by
     rcases hp.Dq with hb | ⟨lo,gG,_,J,h3,h4,h5,h6⟩
     ·exact hi.kp.below hb
     ·obtain ⟨i,bi,y1,y2,y3,y4⟩:=hold lo gG;refine ⟨h4.trans hi.kp.os,h5.trans hi.kp.tape,h6.trans hi.kp.output,Nat.le_trans hi.kp.size h3,fun x hx hO=>(J x fun e=>?_).trans (hi.kp.aG x hx hO)⟩
      subst e;rcases hi.own _ bi lo y3 y4 y2 with h | h
      ·exact hO h
      ·omega
    have Hp:∀ (id:Nat) (c:ah) (l:Loc),(H++iD es rs (DB aB) m)[id]?=some (some c)→(∀ i,fO=some i→id≠H.length+i)→ν id=some l→bL ν l c w→bL ν l c w':=by
     intro id c l h aH hl hB;rcases hp.Dq with hb | ⟨lo,gG,_,J,h3,_⟩
     ·exact hB.below hb
     ·obtain ⟨i,bi,y1,y2,y3,y4⟩:=hold lo gG;exact hB.same (J _ (Ne.symm (hi.hp.sep _ id bi c lo l y3 h (Ne.symm (aH i y1)) y4 y2 hl))) h3
    have MY:∀ (id:Nat) (c:ah) (l l2:Loc),(H++iD es rs (DB aB) m)[id]?=some (some c)→(∀ i,fO=some i→id≠H.length+i)→ν id=some l→(w.heap.size≤l2.aG∨∃ lo,(fO.bind fun i=>ν (H.length+i))=some lo∧l2.aG=lo.aG)→l2.aG≠l.aG:=by
     intro id c l l2 h aH hl J;rcases J with J | ⟨lo,gG,J⟩
     ·obtain ⟨l',cl,hB⟩:=hi.hp.aG id c h;rw [hl] at cl; cases cl;have:=hB.live;omega
     ·obtain ⟨i,bi,y1,y2,y3,y4⟩:=hold lo gG;rw [J];exact hi.hp.sep _ id bi c lo l y3 h (Ne.symm (aH i y1)) y4 y2 hl
    refine ih _ ai _ w' (by simp [hs]) xn pZ ⟨?_,?_,⟨fun id c cm=>?_,fun x y bx bY lx ly hx hy aH IJ e1 e2=>?_⟩,fun id bh=>?_,sI,fun id c lc cm nL dw=>?_,Nu.le_trans hi.mono hp.le⟩ (fun i aM cM=>?_) sD
    ·rw [ue];cases hd:o.dst with
     | none=>exact hi.tm.mono hp.le
     | some d=>rw [ri]; exact (hi.tm.mono hp.le).set hp.val d
    ·rcases hp.Dq with hb | ⟨lo,gG,⟨cur,t,jB⟩,J,h3,_⟩
     ·cases o.dst <;> exact hi.df.below hb
     ·cases o.dst <;> exact hi.df.eL jB J
    ·rcases fa id c cm with ⟨h,aH⟩ | ⟨h3,h4⟩
     ·obtain ⟨l,hl,hB⟩:=hi.hp.aG id c h;exact ⟨l,hp.le _ _ hl,(Hp id c l h aH hl hB).mono hp.le⟩
     ·obtain ⟨l,hl,hB,_⟩:=hp.gF c h4;exact ⟨l,by rw [h3]; exact hl,hB⟩
    ·rcases fa x bx hx with ⟨h,cg⟩ | ⟨h3,h4⟩
     ·rw [hp.only x (dk x bx h)] at e1;rcases fa y bY hy with ⟨g,PW⟩ | ⟨g3,g4⟩
      ·rw [hp.only y (dk y bY g)] at e2;exact hi.hp.sep x y bx bY lx ly h g aH IJ e1 e2
      ·obtain ⟨l,hl,_,hle⟩:=hp.gF bY g4;rw [g3,hl] at e2; cases e2;exact Ne.symm (MY x bx lx _ h cg e1 hle)
     ·obtain ⟨l,hl,_,hle⟩:=hp.gF bx h4;rw [h3,hl] at e1; cases e1;rcases fa y bY hy with ⟨g,PW⟩ | ⟨g3,g4⟩
      ·rw [hp.only y (dk y bY g)] at e2;exact MY y bY ly _ g PW e2 hle
      ·exact absurd (h3.trans g3.symm) aH
    ·rw [Gv] at bh;rw [hp.only id (by omega)]
     exact hi.fr id (by rw [G5]; exact bh)
    ·rcases fa id c cm with ⟨h,_⟩ | ⟨h3,h4⟩
     ·rw [hp.only id (dk id c h)] at dw;exact hi.own id c lc h nL dw
     ·obtain ⟨l,hl,_,hle⟩:=hp.gF c h4;rw [h3,hl] at dw; cases dw;rcases hle with hle | ⟨lo,gG,hle⟩
      ·exact .inr (Nat.le_trans hi.kp.size hle)
      ·obtain ⟨i,bi,y1,y2,y3,y4⟩:=hold lo gG;rw [hle];exact hi.own _ bi lo y3 y4 y2
    ·have aH:i≠j:=fun e=>by subst e; rw [cV] at cM; simp at cM
     rw [hp.only _ (by omega)]
     refine fM i aM ?_;rw [cV] at cM;simp only [Bool.or_eq_false_iff] at cM;exact cM.1
   unfold wpOpIn;rw [ho]
   dsimp only
   have fe:∀ d,d∈iN ops.toList o→∀ v,(aZ ops.toList rs (fun i=>decide (i < j)) t0 j)[d]?=some v→∃ v',a.tmps[d]?=some v'∧ar ν v v':=by
    intro d hd v hv;rw [← G4 d hd] at hv;obtain ⟨v',k1,k2⟩:=hi.tm.get hv;exact ⟨v',by simpa using k1,k2⟩
   rcases g4 with ⟨G,q1,_,q2,q3⟩ | ⟨q0,q1,q2,g,want,d,v,q3,q4,q5,q6⟩
   ·have hw:Region.wanted o (yielded ops a.tmps)=true:=by
     rcases q3 with hg | ⟨g,want,d,b,hg,hd,hv,hb⟩
     ·simp [Region.wanted,hg]
     ·obtain ⟨v',k1,k2⟩:=fe d (Ax hg hd) _ hv;rw [k2.jK] at k1;have hy:=xX (ops:=ops) (tmps:=a.tmps) (j:=g) (d:=d) (by simpa [bK] using hd)
      rw [k1] at hy;simp only [Region.wanted,hg,hy];rw [← hb];cases b <;> cases want <;> rfl
    rw [if_pos hw];refine q2 ν a w r n (fun x hx t ht v hv=>fe t ?_ v hv) (hi.hp.rJ fun id b hb=>?_) mG _ Q after
    ·unfold iN;exact List.mem_append_left _ (o4 (by rw [ht] at hx; simpa using hx))
    ·exact hG q1 id b hb
   ·have hw:Region.wanted o (yielded ops a.tmps)=false:=by
     obtain ⟨v',k1,k2⟩:=fe d (Ax q3 q4) _ q5;have hy:=xX (ops:=ops) (tmps:=a.tmps) (j:=g) (d:=d) (by simpa [bK] using q4)
     rw [k1] at hy;rcases q6 with ⟨b,rfl,hb⟩ | ⟨vs,rfl⟩
     ·rw [k2.jK] at hy;simp only [Region.wanted,q3,hy];rw [← hb];cases b <;> cases want <;> rfl
     ·obtain ⟨ys,rfl,_⟩:=ar.nh (xs:=vs.toList) k2;simp only [Region.wanted,q3,hy]
      rfl
    rw [if_neg (by rw [hw]; simp)]
    refine ⟨fun _ _=>trivial,after undef w ν ⟨ν.le_refl,fun _ _=>rfl,by rw [q1]; exact .undef ν,.inl (Below.refl _ _),fun _=>rfl,(fun b hb=>by rw [q2] at hb; cases hb)⟩⟩
theorem UC (hm:P.follows .mixedOrders=true):mW P Oj:=by
 intro E hE r n F bI ops Q id ν tmps H a w k hi h hk;obtain ⟨m,aQ,a8,h⟩:=h;have h:=lO h;obtain ⟨OY,h⟩:=xY h;have hc:=Kc a8;obtain ⟨rs,es,il,iJ,jQ,fK⟩:=KH (P:=P) hE.toEnvOk (ops:=ops.toList) (t0:=tmps) (H:=H) (aQ:=aQ) (l:=ops.toList.take m) (ms:=aQ) (j:=0) (rs:=[]) (es:=[]) rfl rfl (fun p i hp=>by simp at hp)
  (fun i o ho=>by
   rw [List.getElem?_take] at ho
   split at ho
   ·simpa using ho
   ·cases ho)
  (fun i _=>by simp) (fun i hi=>by omega) h
 have fK:=tj fK;have hlen:0+(ops.toList.take m).length=m:=by rw [List.length_take]; omega
 rw [hlen] at il iJ jQ fK;refine wpIn_region_any hm ?_;have hD:DB (Array.replicate ops.size false)=fun _=>false:=by
  funext i
  unfold DB;by_cases h:i < ops.size <;> simp [h]
 refine R8 (F:=F) hc.toOrder (by have:=hc.le; simpa using this) hc.apart (fun j hj hm i hi=>hc.tail j (by simpa using hj) hm i (by omega)) iJ jQ ?_ ops.size _ ν a _ (by simp) (fun j o hj=>by rw [hD] at hj; cases hj) (fun i aM=>by rw [hD] at aM; cases aM) ?_ (fun i _ _=>hi.fr _ (by omega)) ?_
 ·intro fuel aB ν a w hs eF ak cP hi hu;have hle:m≤ops.size:=by have:=hc.le; simpa using this
  have hD:∀ i,DB aB i=decide (i < m):=fun i=>by
   by_cases h:i < m
   ·rw [cP i h]; simp [h]
   ·cases hd:DB aB i with
    | true=>exact absurd (ak i hd) h
    | false=>simp [h]
  have e1:aZ ops.toList rs (DB aB) tmps m=aZ ops.toList rs (fun i=>decide (i < m)) tmps m:=xO (fun i _=>hD i)
  have e2:iD es rs (DB aB) m=iE es rs:=by
   unfold iE;rw [il];rw [show DB aB=fun i=>decide (i < m) from funext hD]
  rw [e1,e2] at hi;exact EW hE bI hc.toOrder hc.tail hk fuel aB m ν _ _ a w hs hD (Nat.le_refl _) hle hi fK (by
   have:=DV hD ops.size hle; omega)
 ·rw [hD];have e1:aZ ops.toList rs (fun _=>false) tmps m=tmps:=vS (j:=0) (by omega) (fun _ _ _=>rfl)
  rw [e1];have ku:Below w.heap.size w { w with drawn:=w.drawn+1 }:=⟨rfl,rfl,rfl,Nat.le_refl _,fun _ _=>rfl⟩
  refine ⟨hi.tm,hi.df.below ku,(hi.hp.below ku).rJ (fun id c cm=>?_),fun id bh=>hi.fr id (by rw [List.length_append] at bh; omega),hi.kp.below ku,fun id c lc cm nL dw=>?_,hi.mono⟩
  ·rw [List.getElem?_append] at cm
   split at cm
   ·exact cm
   ·have:=(vT.1 cm).2.1; cases this
  ·rw [List.getElem?_append] at cm
   split at cm
   ·exact hi.own id c lc cm nL dw
   ·have:=(vT.1 cm).2.1; cases this
 ·unfold fZ;have:=List.length_filter_le (fun i=>!DB (Array.replicate ops.size false) i) (List.range ops.size)
  simpa using this
end
open Go Go.RowKit
inductive nv where
 | leaf
 | br (i:Nat) (sub rest:nv)
def nv.alts:nv→List Nat
 | .leaf=>[]
 | .br i _ rest=>i::rest.alts
def tS (ops:Array Oper):nv→Nat→Bool→Array Bool→Bool
 | .leaf,_,true,l=>(Region.ready .any ops l).isEmpty
 | .leaf,_,false,_=>true
 | .br _ _ _,0,_,_=>false
 | .br i sub rest,n+1,first,l=>(!first || (Region.ready .any ops l == (nv.br i sub rest).alts)) && tS ops sub n true (l.setIfInBounds i true) && tS ops rest (n+1) false l
def HI:List Oper→Nat→(Oper→Prop)→Prop
 | [],_,_=>False
 | o::_,0,k=>k o
 | _::l,i+1,k=>HI l i k
theorem Ls:∀ {l:List Oper} {i:Nat} {k:Oper→Prop},HI l i k→∃ o,l[i]?=some o∧k o
 | [],i,k,h=>h.elim
 | o::_,0,k,h=>⟨o,rfl,h⟩
 | _::l,i+1,k,h=>by
  obtain ⟨o,h1,J⟩:=Ls (l:=l) h;exact ⟨o,by simpa using h1,J⟩
def Ct (E:Env) (ops:List Oper):nv→Bool→List Value→ay→SK→Prop
 | .leaf,true,t,H,k=>k t H
 | .leaf,false,_,_,_=>True
 | .br i sub rest,_,t,H,k=>(HI ops i fun o=>wU E ops o t H fun t' H'=>Ct E ops sub true t' H' k)∧Ct E ops rest false t H k
def cG (E:Env) (ops:List Oper) (t:List Value) (H:ay) (k:SK):Prop :=
 Oh E ops t H k∨(∃ T:nv,tS ops.toArray T ops.length true (Array.replicate ops.length false)=true∧Ct E ops T true t H k)∨Oi E ops t H k∨Oj E ops t H k
section
variable {P:Program} {E:Env} {r:Option Nat} {n:Nat} {F:Fr}
theorem R9 (hE:jA P E) (bI:kG F E) {ops:Array Oper} {Q:Exit→Act→World→Prop} {k:SK} (hk:∀ ν t' H' a' w',bo F ν t' H' a' w'→k t' H'→Q .normal a' w') :
  ∀ (T:nv) (fuel:Nat) (first:Bool) (aB:Array Bool) (ν:Nu) (t:List Value) (H:ay) (a:Act) (w:World),tS ops T fuel first aB=true→bo F ν t H a w→Ct E ops.toList T first t H k →
  (first=true→wpAnyIn (WF r) n P .any ops Q fuel aB a w)∧(first=false→∀ m,fuel=m+1→∀ i∈T.alts,wpOpIn (WF r) n P ops Q i (wpAnyIn (WF r) n P .any ops Q m (aB.setIfInBounds i true)) a w):=by
 intro T
 induction T with
 | leaf =>
  intro fuel first aB ν t H a w a8 hi h;cases first with
  | true =>
   refine ⟨fun _=>?_,fun h=>by cases h⟩
   have hr:Region.ready .any ops aB=[]:=by
    have:(Region.ready .any ops aB).isEmpty=true:=by simpa [tS] using a8
    simpa using this
   have hq:Q .normal a w:=hk _ _ _ _ _ hi h;cases fuel with
   | zero=>exact ⟨hr,hq⟩
   | succ f=>exact ⟨fun _=>hq,fun i aM=>by rw [hr] at aM; cases aM⟩
  | false=>exact ⟨(fun h=>by cases h),fun _ m _ i aM=>by cases aM⟩
 | br j sub rest ihs ihr =>
  intro fuel first aB ν t H a w a8 hi h;cases fuel with
  | zero=>simp [tS] at a8
  | succ f =>
   simp only [tS,Bool.and_eq_true,Bool.or_eq_true] at a8;obtain ⟨⟨h1,J⟩,h3⟩:=a8;obtain ⟨hs,yW⟩:=h;have cP:∀ i∈(nv.br j sub rest).alts,wpOpIn (WF r) n P ops Q i (wpAnyIn (WF r) n P .any ops Q f (aB.setIfInBounds i true)) a w:=by
    intro i aM;simp only [nv.alts,List.mem_cons] at aM;rcases aM with rfl | aM
    ·obtain ⟨o,ho,hs⟩:=Ls hs;unfold wpOpIn;have IJ:ops[i]?=some o:=by simpa using ho
     rw [IJ];exact Ev hE bI hi hs (fun ν t' H' a' w' gH h'=>(ihs f true _ ν t' H' a' w' J gH h').1 rfl)
    ·exact (ihr (f+1) false aB ν t H a w h3 hi yW).2 rfl f rfl i aM
   refine ⟨fun hf=>?_,fun _ m hm=>?_⟩
   ·subst hf;have hr:Region.ready .any ops aB=(nv.br j sub rest).alts:=by
     rcases h1 with h1 | h1
     ·cases h1
     ·exact eq_of_beq h1
    refine ⟨(fun hn=>by rw [hr] at hn; cases hn),fun i aM=>cP i (by rw [← hr]; exact aM)⟩
   ·have:f=m:=by omega
    subst this;exact cP
theorem UD (hm:P.follows .mixedOrders=true):mW P cG:=by
 intro E hE r n F bI ops Q id ν tmps H a w k hi h hk;rcases h with h | ⟨T,a8,h⟩ | h | h
 ·exact Uy hm E hE r n F bI ops Q id ν tmps H a w k hi h hk
 ·refine wpIn_region_any hm ?_;have ku:Below w.heap.size w { w with drawn:=w.drawn+1 }:=⟨rfl,rfl,rfl,Nat.le_refl _,fun _ _=>rfl⟩
  have gH:bo F ν tmps H a { w with drawn:=w.drawn+1 }:=⟨hi.tm,hi.df.below ku,hi.hp.below ku,hi.fr,hi.kp.below ku,hi.own,hi.mono⟩
  have:=(R9 (r:=r) (n:=n) hE bI (ops:=ops) hk T ops.toList.length true _ ν tmps H a _ (by simpa using a8) gH h).1 rfl
  simpa using this
 ·exact UB hm E hE r n F bI ops Q id ν tmps H a w k hi h hk
 ·exact UC hm E hE r n F bI ops Q id ν tmps H a w k hi h hk
end
open Go Go.RowKit
inductive eT:Value→Value→Prop
 | refl (v:Value):eT v v
 | cap (a:Addr) (n c:Nat) (h:a.spot=none):eT (.slice (some a) n c) (.slice (some a) n aJ)
 | two {x y x' y':Value} (h:eT x x') (hs:eT y y'):eT (.tuple ⟨[x,y]⟩) (.tuple ⟨[x',y']⟩)
 | three {x y z x' y' z':Value} (h:eT x x') (hs:eT y y') (hz:eT z z'):eT (.tuple ⟨[x,y,z]⟩) (.tuple ⟨[x',y',z']⟩)
theorem ar.PX {ν:Nu} {xs ys:List Value} (h:a9 ν xs ys):ar ν (.tuple ⟨xs⟩) (.tuple ⟨ys⟩):=.tuple _ _ h.1 h.2
theorem ar.HJ {ν:Nu} {v v':Value} (h:eT v v'):∀ {r},ar ν v r→ar ν v' r:=by
 induction h with
 | refl v=>exact fun h=>h
 | cap a n c hs =>
  intro r hr;obtain ⟨b,o,sp⟩:=a;have hs:sp=none:=hs;subst hs;cases hr with
  | slice _ _ _ _ c' l h hc hn hr=>exact .slice _ _ _ _ c' l h (.inr rfl) hn hr
  | void _ _ _ a hc=>exact .void _ _ _ a (.inr rfl)
 | two h hs i1 i2 =>
  intro r hr;obtain ⟨ys,rfl,hy⟩:=hr.nh;obtain ⟨a,ys,rfl,k1,hy⟩:=hy.iP;obtain ⟨b,ys,rfl,k2,hy⟩:=hy.iP;rw [hy.iz];exact .PX (.cons (i1 k1) (.cons (i2 k2) (.nil ν)))
 | three h hs hz i1 i2 i3 =>
  intro r hr;obtain ⟨ys,rfl,hy⟩:=hr.nh;obtain ⟨a,ys,rfl,k1,hy⟩:=hy.iP;obtain ⟨b,ys,rfl,k2,hy⟩:=hy.iP;obtain ⟨c,ys,rfl,k3,hy⟩:=hy.iP;rw [hy.iz];exact .PX (.cons (i1 k1) (.cons (i2 k2) (.cons (i3 k3) (.nil ν))))
def iF (S:cE) (i:S.ι) (v:Value) (H:ay):Prop :=
 match S.new i with
 | none=>∃ v',cL (List.range (S.aj i).length) 3 (S.val i)=some v'∧eT v v'
 | some b=>∃ p,gn H p fun c=>(c.own=true∧aP b c)∧∃ v',cL (List.range (S.aj i).length++[p]) 3 (S.val i)=some v'∧eT v v'
section
variable {P:Program} {E:Env} {D:Env→List Oper→List Value→ay→SK→Prop}
theorem sY {l:List ah} {id:Nat} {b:ah} (h:(l.map some)[id]?=some (some b)):l[id]?=some b:=by
 rw [List.getElem?_map] at h;cases e:l[id]? with
 | none=>rw [e] at h; cases h
 | some b'=>rw [e] at h; simp at h; rw [h]
theorem Tt {m p j:Nat} (h:j < m):(List.range m++[p])[j]?=some j:=by
 rw [List.getElem?_append_left (by simpa using h),List.getElem?_range h]
theorem dR {S:cE} (hE:EnvOk P E) (hD:mW P D) {f:FuncId} {fn:Func} (hf:P.funcs[f]?=some fn) (nK:∀ args w,(callFunc f args).run P w=.ok (.enter f args) w)
  (mX:∀ i b,b∈S.aj i→b.own=false) (sC:∀ i b,S.new i=some b→b.jr=true)
  (h:∀ i,S.pre i→b9 E D fn (S.args i) ((S.aj i).map some) (iF S i))
  (hI:gw P E:=by exact gw.none rfl) (hy:E.ys=[]:=by rfl) (hu:E.nu=(fun _=>none):=by rfl):c7 P f S:=by
 refine ⟨nK,mX,sC,fun i hp ν as w n has hH fM=>?_⟩
 refine yd (O:=fun _=>False) (ν:=ν) (hE.x hI hy) hD hf (h i hp) has hH (fun id bh=>fM id (by simpa using bh)) (fun id b l hb ho=>?_) (BB hu) ?_
 ·rw [mX i b (List.mem_of_getElem? (sY hb))] at ho; cases ho
 intro ai v v' t H' a w' hi hk hv;have hb:Below w.heap.size w w':=⟨hi.kp.os,hi.kp.tape,hi.kp.output,hi.kp.size,fun k hk=>hi.kp.aG k hk (fun h=>h)⟩
 unfold iF at hk
 split at hk
 ·rename_i dk;obtain ⟨v2,nC,zY⟩:=hk;have h1:=vZ 3 _ _ _ nC (ar.HJ zY hv);refine ⟨v',ν,rfl,⟨ν.le_refl,fun _ _=>rfl,h1.mono (fun j lj hj=>?_),hb,fun _=>rfl,(fun b hb=>by rw [dk] at hb; cases hb)⟩⟩
  unfold Nu.comp at hj;by_cases ak:j < (S.aj i).length
  ·rw [List.getElem?_range ak] at hj;have hj:ai j=some lj:=hj;obtain ⟨l0,e1,_⟩:=hH.aG j ((S.aj i)[j]) (by simp [ak])
   have:=hi.mono j l0 e1;rw [hj] at this; cases this;exact e1
  ·have:(List.range (S.aj i).length)[j]?=none:=List.getElem?_eq_none (by simp; omega)
   rw [this] at hj; cases hj
 ·rename_i b dk;obtain ⟨p,hk⟩:=hk;obtain ⟨c,hc,⟨ho,hle⟩,v2,nC,zY⟩:=gh hk;obtain ⟨l,hl,hB⟩:=hi.hp.aG p c hc;have u9:ν (S.aj i).length=none:=fM _ (Nat.le_refl _);refine ⟨v',ν.add (S.aj i).length l,rfl,⟨Nu.jM u9,fun id bh=>Nu.iA bh,?_,hb,(fun h=>by rw [dk] at h; cases h),(fun b' bB=>?_)⟩⟩
  ·have h1:=vZ 3 _ _ _ nC (ar.HJ zY hv);refine h1.mono (fun j lj hj=>?_)
   unfold Nu.comp at hj;rcases Nat.lt_trichotomy j (S.aj i).length with ak | he | Pu
   ·rw [Tt ak] at hj;have hj:ai j=some lj:=hj;obtain ⟨l0,e1,_⟩:=hH.aG j ((S.aj i)[j]) (by simp [ak])
    have:=hi.mono j l0 e1;rw [hj] at this; cases this;rw [Nu.iA (by omega)]; exact e1
   ·subst he;have:(List.range (S.aj i).length++[p])[(S.aj i).length]?=some p:=by simp
    rw [this] at hj;have hj:ai p=some lj:=hj;rw [hl] at hj; cases hj;exact Nu.add_same
   ·have:(List.range (S.aj i).length++[p])[j]?=none:=List.getElem?_eq_none (by simp; omega)
    rw [this] at hj; cases hj
  ·rw [dk] at bB; cases bB;refine ⟨l,Nu.add_same,hB.le ⟨hle,by have:=sC i b dk; cases b <;> first | rfl | cases this⟩,?_⟩
   rcases hi.own p c l hc ho hl with h | h
   ·exact h.elim
   ·exact h
structure yX where
 ι:Type
 args:ι→List Value
 aj:ι→List ah
 pre:ι→Prop
 val:ι→Value
 post:ι→List ah
 new:ι→List ah
def wW (H:ay):List Nat→List ah→List ah→(ay→Prop)→Prop
 | [],[],[],k=>k H
 | s::σ,b::bs,p::ps,k=>match b.own with
  | true=>match p with
   | .bX _=>False
   | p=>iX H s (some p) fun H'=>wW H' σ bs ps k
  | false=>wW H σ bs ps k
 | _,_,_,_=>False
def BD (H:ay):List ah→(ay→Prop)→Prop
 | [],k=>k H
 | b::bs,k=>match b with
  | .bX _=>False
  | b=>ot H (some b) fun H'=>BD H' bs k
def wI:Nat→Nat→List Nat
 | _,0=>[]
 | a,n+1=>a::wI (a+1) n
def CU:List ah→Nat
 | []=>0
 | _::l=>CU l+1
def zZ (S:yX):FT:=fun args H K=>∃ (i:S.ι) (σ:List Nat),lX σ 3 (S.args i)=some args∧S.pre i∧σ.Nodup∧yO H σ (S.aj i) (iY H fun n0=>wW H σ (S.aj i) (S.post i) fun H1=>BD H1 (S.new i) fun H2 =>
 ∃ v,cL (σ++wI n0 (CU (S.new i))) 3 (S.val i)=some v∧pG v fun v=>K v H2)
def zi (S:yX) (i:S.ι) (v:Value) (H:ay):Prop :=
 ∃ ps:List Nat,ps.Nodup∧(∀ p∈ps,(S.aj i).length≤p)∧ps.length=(S.new i).length ∧
  (∀ (j:Nat) (b q:ah),(S.aj i)[j]?=some b→(S.post i)[j]?=some q→b.own=true→∃ c,H[j]?=some (some c)∧c.own=true∧aP q c) ∧
  (∀ (j p:Nat) (b:ah),ps[j]?=some p→(S.new i)[j]?=some b→∃ c,H[p]?=some (some c)∧c.own=true∧aP b c) ∧
  ∃ v',cL (List.range (S.aj i).length++ps) 3 (S.val i)=some v'∧eT v v'
theorem KI:∀ {n a j:Nat},(wI a n)[j]?=if j < n then some (a+j) else none
 | 0,a,j=>by simp [wI]
 | n+1,a,0=>by simp [wI]
 | n+1,a,j+1=>by
  have:=KI (n:=n) (a:=a+1) (j:=j);simp only [wI,List.getElem?_cons_succ,this];by_cases h:j < n
  ·rw [if_pos h,if_pos (by omega)]; congr 1; omega
  ·rw [if_neg h,if_neg (by omega)]
theorem MZ:∀ {l:List ah},CU l=l.length
 | []=>rfl
 | _::l=>by simp [CU,MZ (l:=l)]
theorem JS:∀ {bs:List ah} {H:ay} {k:ay→Prop},BD H bs k→k (H++bs.map some)∧∀ b∈bs,b.rc=none
 | [],H,k,h=>by
  have h:k H:=h;exact ⟨by simpa using h,fun b hb=>by cases hb⟩
 | b::bs,H,k,h=>by
  have h:b.rc=none∧ot H (some b) fun H'=>BD H' bs k:=by
   cases b with
   | aL o e r=>exact ⟨rfl,h⟩
   | flat o n e g=>exact ⟨rfl,h⟩
   | bX r=>exact h.elim
  have:=JS (bs:=bs) (xU h.2);refine ⟨by simpa using this.1,fun c hc=>?_⟩
  rcases List.mem_cons.1 hc with rfl | hc
  ·exact h.1
  ·exact this.2 c hc
theorem Ey:∀ {σ:List Nat} {bs ps:List ah} {H:ay} {k:ay→Prop},σ.Nodup→wW H σ bs ps k→∃ H1,k H1∧H1.length=H.length∧(∀ id,id ∉ σ→H1[id]?=H[id]?) ∧
  ∀ (j s:Nat) (b:ah),σ[j]?=some s→bs[j]?=some b→(b.own=true→∃ p,ps[j]?=some p∧H1[s]?=some (some p)∧p.rc=none)∧(b.own=false→H1[s]?=H[s]?)
 | [],[],[],H,k,_,h=>⟨H,h,rfl,fun _ _=>rfl,fun j s b hj=>by simp at hj⟩
 | s::σ,b::bs,p::ps,H,k,hn,h=>by
  obtain ⟨hs,hn⟩:=List.nodup_cons.1 hn;unfold wW at h
  split at h
  ·rename_i ho;have IK:p.rc=none∧iX H s (some p) fun H'=>wW H' σ bs ps k:=by
    cases p with
    | aL o e r=>exact ⟨rfl,h⟩
    | flat o n e g=>exact ⟨rfl,h⟩
    | bX r=>exact h.elim
   obtain ⟨IK,h⟩:=IK;obtain ⟨ak,h⟩:=lN h;obtain ⟨H1,h1,J,h3,h4⟩:=Ey hn h;refine ⟨H1,h1,by rw [J]; simp,fun id bh=>?_,fun j s' b' hj hb=>?_⟩
   ·rw [List.mem_cons,not_or] at bh;rw [h3 id bh.2,List.getElem?_set_ne (Ne.symm bh.1)]
   ·cases j with
    | zero =>
     simp at hj hb; subst hj; subst hb;refine ⟨fun _=>⟨p,rfl,?_,IK⟩,(fun h=>by rw [ho] at h; cases h)⟩
     rw [h3 s hs,List.getElem?_set_self ak]
    | succ j =>
     obtain ⟨h5,h6⟩:=h4 j s' b' (by simpa using hj) (by simpa using hb)
     refine ⟨fun h=>by simpa using h5 h,fun h=>?_⟩
     rw [h6 h,List.getElem?_set_ne];intro e;subst e;exact hs (List.mem_of_getElem? (by simpa using hj))
  ·rename_i ho;obtain ⟨H1,h1,J,h3,h4⟩:=Ey hn h;refine ⟨H1,h1,J,fun id bh=>?_,fun j s' b' hj hb=>?_⟩
   ·rw [List.mem_cons,not_or] at bh;exact h3 id bh.2
   ·cases j with
    | zero =>
     simp at hj hb; subst hj; subst hb;exact ⟨(fun h=>by rw [ho] at h; cases h),fun _=>h3 s hs⟩
    | succ j=>simpa using h4 j s' b' (by simpa using hj) (by simpa using hb)
 | [],_::_,_,H,k,_,h=>by cases h
 | [],[],_::_,H,k,_,h=>by cases h
 | _::_,[],_,H,k,_,h=>by cases h
 | _::_,_::_,[],H,k,_,h=>by cases h
theorem NG {S:yX} (hE:EnvOk P E) (hD:mW P D) {f:FuncId} {fn:Func} (hf:P.funcs[f]?=some fn) (nK:∀ args w,(callFunc f args).run P w=.ok (.enter f args) w)
  (h:∀ i,S.pre i→b9 E D fn (S.args i) ((S.aj i).map some) (zi S i))
  (hI:gw P E:=by exact gw.none rfl) (hy:E.ys=[]:=by rfl) (hu:E.nu=(fun _=>none):=by rfl):fJ P f (zZ S):=by
 refine ⟨nK,fun args H K hFT ν as w n O has hH fM jV=>?_⟩
 obtain ⟨i,σ,nC,hp,kI,nJ⟩:=hFT;obtain ⟨hlen,hσ,nJ⟩:=Er nJ;obtain ⟨H1,nJ,lC,ac0,O3⟩:=Ey kI (lO nJ);obtain ⟨⟨v2,Ok,hK⟩,ac1⟩:=JS nJ;have hK:=vC hK;rw [MZ] at Ok;have nt:=tg (vZ (ν:=ν) 3) nC has
 -- the callee's blocks
 let Oc:Nat→Prop:=fun x=>∃ (j s:Nat) (b:ah) (l:Loc),σ[j]?=some s∧(S.aj i)[j]?=some b∧b.own=true∧ν s=some l∧x=l.aG
 have rZ:∀ (j:Nat) (b:ah),(S.aj i)[j]?=some b→∃ s,σ[j]?=some s∧∃ c l,H[s]?=some (some c)∧BY b c∧ν s=some l∧bL ν l c w:=by
  intro j b hb;have ak:j < σ.length:=by rw [hlen]; exact (List.getElem?_eq_some_iff.1 hb).1
  obtain ⟨c,h1,J⟩:=hσ j _ b (List.getElem?_eq_getElem ak) hb;obtain ⟨l,h3,h4⟩:=hH.aG _ _ h1;exact ⟨_,List.getElem?_eq_getElem ak,c,l,h1,J,h3,h4⟩
 have mH:∀ (j s:Nat),σ[j]?=some s→(ν.comp σ) j=ν s:=fun j s hj=>by simp [Nu.comp,hj]
 have IL:bQ (ν.comp σ) ((S.aj i).map some) w:=by
  refine ⟨fun j b hj=>?_,fun j q bj bq lj lq hj hq aH ho e1 e2=>?_⟩
  ·obtain ⟨s,h1,c,l,J,h3,h4,h5⟩:=rZ j b (sY hj);exact ⟨l,by rw [mH j s h1,h4],h5.le h3⟩
  ·obtain ⟨s,h1,c,l,J,h3,h4,h5⟩:=rZ j bj (sY hj);obtain ⟨s',eP,c',l',jF,sH,qE,z5⟩:=rZ q bq (sY hq);rw [mH j s h1,h4] at e1; obtain rfl:=Option.some.inj e1;rw [mH q s' eP,qE] at e2; obtain rfl:=Option.some.inj e2;refine hH.sep s s' c c' _ _ J jF (fun e=>aH ?_) (ah.cO (h3.own ho).1).1 h4 qE
   subst e;exact (List.getElem?_inj (List.getElem?_eq_some_iff.1 h1).1 kI).1 (h1.trans eP.symm)
 have ac2:∀ id,((S.aj i).map some).length≤id→(ν.comp σ) id=none:=by
  intro id bh;rw [List.length_map] at bh;simp [Nu.comp,List.getElem?_eq_none (show σ.length≤id by omega)]
 have abn:∀ id b l,((S.aj i).map some)[id]?=some (some b)→b.own=true→(ν.comp σ) id=some l→Oc l.aG:=by
  intro id b l hb ho hl;obtain ⟨s,h1,c,l',J,h3,h4,h5⟩:=rZ id b (sY hb);rw [mH id s h1,h4] at hl; obtain rfl:=Option.some.inj hl;exact ⟨id,s,b,_,h1,sY hb,ho,h4,rfl⟩
 have qD:∀ x,Oc x→O x:=by
  rintro x ⟨j,s,b,l,h1,J,h3,h4,rfl⟩
  obtain ⟨s',eP,c,l',jF,sH,qE,_⟩:=rZ j b J;rw [h1] at eP; cases eP;exact jV s c l jF (ah.cO (sH.own h3).1).1 h4
 refine yd (O:=Oc) (ν:=ν.comp σ) (hE.x hI hy) hD hf (h i hp) nt IL ac2 abn (BB hu) ?_;intro fN v v' t H' a w' hi hk hv;obtain ⟨ps,hpn,ac3,kK,abo,dk,v3,abp,zY⟩:=hk;have rY:(ν.comp σ).le fN:=hi.mono
 let ai:Nu:=fun id=>if id < H.length then ν id else (ps[id - H.length]?).bind fN
 have tT:∀ id,id < H.length→ai id=ν id:=fun id h=>by simp only [ai]; rw [if_pos h]
 have rD:∀ j p,ps[j]?=some p→ai (H.length+j)=fN p:=fun j p h=>by
  simp only [ai]; rw [if_neg (by omega),Nat.add_sub_cancel_left,h]; rfl
 have G8:ν.le ai:=by
  intro id l bh;have:id < H.length:=by
   rcases Nat.lt_or_ge id H.length with h | h
   ·exact h
   ·rw [fM id h] at bh; cases bh
  rw [tT id this]; exact bh
 -- own blocks of the arguments, behind the call
 have Ol:∀ (j s:Nat) (b:ah) (l:Loc),σ[j]?=some s→(S.aj i)[j]?=some b→b.own=true→ν s=some l→∃ q c,(S.post i)[j]?=some q∧H1[s]?=some (some q)∧H'[j]?=some (some c)∧c.own=true∧BY q c∧fN j=some l:=by
  intro j s b l h1 J h3 h4;obtain ⟨q,h5,h6,h60⟩:=(O3 j s b h1 J).1 h3;obtain ⟨c,h7,h8,h9⟩:=abo j b q J h5 h3;exact ⟨q,c,h5,h6,h7,h8,⟨h9,h60⟩,rY j l (by rw [mH j s h1]; exact h4)⟩
 -- a block that the callee does not own has not turned
 have G6:∀ (id:Nat) (b:ah) (l:Loc),H[id]?=some (some b)→ν id=some l→(∀ (j:Nat) (c:ah),σ[j]?=some id→(S.aj i)[j]?=some c→c.own=false)→¬ Oc l.aG∧w'.heap[l.aG]?=w.heap[l.aG]?:=by
  intro id b l hb hl qH;obtain ⟨l0,e1,hB⟩:=hH.aG id b hb;rw [hl] at e1; cases e1;have PY:¬ Oc l.aG:=by
   rintro ⟨j,s,bj,lj,h1,J,h3,h4,h5⟩
   obtain ⟨s',eP,c,l',jF,sH,qE,_⟩:=rZ j bj J;rw [h1] at eP; cases eP;have aH:s≠id:=by
    intro e;subst e;have:=qH j bj h1 J;rw [h3] at this; cases this
   exact hH.sep s id c b lj l jF hb aH (ah.cO (sH.own h3).1).1 h4 hl h5.symm
  exact ⟨PY,hi.kp.aG _ hB.live PY⟩
 -- the callee's new blocks
 have abq:∀ (j p:Nat) (b:ah),ps[j]?=some p→(S.new i)[j]?=some b→∃ c l,H'[p]?=some (some c)∧c.own=true∧aP b c∧fN p=some l∧bL fN l c w'∧w.heap.size≤l.aG:=by
  intro j p b h1 J;obtain ⟨c,h3,h4,h5⟩:=dk j p b h1 J;obtain ⟨l,h6,h7⟩:=hi.hp.aG p c h3;refine ⟨c,l,h3,h4,h5,h6,h7,?_⟩;rcases hi.own p c l h3 h4 h6 with ⟨j',s,b',l',k1,k2,k3,k4,k5⟩ | h
  ·obtain ⟨q,c',_,_,k6,k7,_,k8⟩:=Ol j' s b' l' k1 k2 k3 k4;have ak:j' < (S.aj i).length:=(List.getElem?_eq_some_iff.1 k2).1;have:=ac3 p (List.mem_of_getElem? h1);exact absurd k5 (hi.hp.sep p j' c c' l l' h3 k6 (by omega) h4 h6 k8)
  ·exact h
 -- which blocks there are behind the call
 have wT:∀ (id:Nat) (b:ah),(H1++(S.new i).map some)[id]?=some (some b)→
   (id < H.length∧∃ b0 l,H[id]?=some (some b0)∧ν id=some l∧(b.own=true→b0.own=true)∧bL ai l b w'∧((∃ (j:Nat) (bj:ah),σ[j]?=some id∧(S.aj i)[j]?=some bj∧bj.own=true)∨(¬ Oc l.aG∧l.aG < w.heap.size))) ∨
   (∃ (j p:Nat) (c:ah) (l:Loc),id=H.length+j∧ps[j]?=some p∧(S.new i)[j]?=some b∧H'[p]?=some (some c)∧c.own=true∧fN p=some l∧bL ai l b w'∧w.heap.size≤l.aG):=by
  intro id b hb;rw [List.getElem?_append] at hb
  split at hb
  ·rename_i ak;rw [lC] at ak;refine .inl ⟨ak,?_⟩;by_cases gp:∃ (j:Nat) (bj:ah),σ[j]?=some id∧(S.aj i)[j]?=some bj∧bj.own=true
   ·obtain ⟨j,bj,h1,J,h3⟩:=gp;obtain ⟨s',eP,c,l,h4,h5,h6,h7⟩:=rZ j bj J;rw [h1] at eP; cases eP;obtain ⟨q,c',h8,h9,IM,h11,h12,h13⟩:=Ol j id bj l h1 J h3 h6;rw [h9] at hb; cases hb;obtain ⟨l',PZ,h15⟩:=hi.hp.aG j c' IM;rw [h13] at PZ; cases PZ;exact ⟨c,l,h4,h6,fun _=>(ah.cO (h5.own h3).1).1,h15.le h12,.inl ⟨j,bj,h1,J,h3⟩⟩
   ·have qH:∀ (j:Nat) (c:ah),σ[j]?=some id→(S.aj i)[j]?=some c→c.own=false:=by
     intro j c h1 J;cases h:c.own with
     | false=>rfl
     | true=>exact absurd ⟨j,c,h1,J,h⟩ gp
    have IN:H[id]?=some (some b):=by
     by_cases oM:id∈σ
     ·obtain ⟨j,hj⟩:=List.getElem?_of_mem oM;have H8:j < (S.aj i).length:=by rw [← hlen]; exact (List.getElem?_eq_some_iff.1 hj).1
      have:=(O3 j id _ hj (List.getElem?_eq_getElem H8)).2 (qH j _ hj (List.getElem?_eq_getElem H8));rw [← this]; exact hb
     ·rw [← ac0 id oM]; exact hb
    obtain ⟨l,h1,J⟩:=hH.aG id b IN;obtain ⟨h3,h4⟩:=G6 id b l IN h1 qH;exact ⟨b,l,IN,h1,fun h=>h,(J.same h4 hi.kp.size).mono G8,.inr ⟨h3,J.live⟩⟩
  ·rename_i dP;rw [lC] at hb dP;have hb:=sY hb;have ak:id - H.length < ps.length:=by rw [kK]; exact (List.getElem?_eq_some_iff.1 hb).1
   obtain ⟨c,l,h1,J,h3,h4,h5,h6⟩:=abq _ _ b (List.getElem?_eq_getElem ak) hb;exact .inr ⟨id - H.length,_,c,l,by omega,List.getElem?_eq_getElem ak,hb,h1,J,h4,h5.le ⟨h3,ac1 b (List.mem_of_getElem? hb)⟩,h6⟩
 have adL:∀ (j p:Nat),ps[j]?=some p→ai (H.length+j)=fN p:=rD;refine ⟨v2,v',ai,H1++(S.new i).map some,rfl,hK,?_,G8,⟨fun id b hb=>?_,fun p q bp bq lp lq Ic Ij aH ho e1 e2=>?_⟩,fun id bh=>?_,⟨hi.kp.os,hi.kp.tape,hi.kp.output,hi.kp.size,fun b h1 J=>hi.kp.aG b h1 (fun h=>J (qD b h))⟩,fun id b l hb ho hl=>?_⟩
 ·have h1:=vZ 3 _ _ _ abp (ar.HJ zY hv);refine Fo 3 _ _ _ Ok (h1.mono (fun j lj hj=>?_))
  unfold Nu.comp at hj ⊢;by_cases ak:j < (S.aj i).length
  ·rw [List.getElem?_append_left (by simpa using ak),List.getElem?_range ak] at hj
   have hj:fN j=some lj:=hj;obtain ⟨s,J,c,l,h3,h4,h5,_⟩:=rZ j _ (List.getElem?_eq_getElem ak);have:=rY j l (by rw [mH j s J]; exact h5)
   rw [hj] at this; cases this;rw [List.getElem?_append_left (List.getElem?_eq_some_iff.1 J).1,J];exact G8 s lj h5
  ·rw [List.getElem?_append_right (by simp; omega)] at hj
   rw [List.length_range] at hj;rw [List.getElem?_append_right (by omega),KI,hlen]
   cases sE:ps[j - (S.aj i).length]? with
   | none=>rw [sE] at hj; cases hj
   | some p =>
    rw [sE] at hj;have hj:fN p=some lj:=hj;have:=(List.getElem?_eq_some_iff.1 sE).1;rw [if_pos (by omega)]
    show ai (H.length+(j - (S.aj i).length))=_
    rw [rD _ _ sE]; exact hj
 ·rcases wT id b hb with ⟨ak,b0,l,h1,J,_,h3,_⟩ | ⟨j,p,c,l,rfl,h1,J,h3,h4,h5,h6,h7⟩
  ·exact ⟨l,by rw [tT id ak]; exact J,h3⟩
  ·exact ⟨l,by rw [rD j p h1]; exact h5,h6⟩
 ·rcases wT p bp Ic with ⟨ak,b0,l,h1,J,h3,h4,h5⟩ | ⟨j,pp,c,l,rfl,h1,J,h3,h4,h5,h6,h7⟩ <;>
   rcases wT q bq Ij with ⟨pZ,P0,l',eP,jF,sH,qE,z5⟩ | ⟨j',pp',c',l',rfl,eP,jF,sH,qE,z5,h6',h7'⟩
  ·rw [tT p ak,J] at e1; cases e1;rw [tT q pZ,jF] at e2; cases e2;exact hH.sep p q b0 P0 _ _ h1 eP aH (h3 ho) J jF
  ·rw [tT p ak,J] at e1; cases e1;rw [rD _ _ eP,z5] at e2; cases e2;have:=(hH.aG p b0 h1);obtain ⟨l0,e3,e4⟩:=this;rw [J] at e3; cases e3;have:=e4.live;omega
  ·rw [rD _ _ h1,h5] at e1; cases e1;rw [tT q pZ,jF] at e2; cases e2;obtain ⟨l0,e3,e4⟩:=hH.aG q P0 eP;rw [jF] at e3; cases e3;have:=e4.live;omega
  ·rw [rD _ _ h1,h5] at e1; cases e1;rw [rD _ _ eP,z5] at e2; cases e2;refine hi.hp.sep pp pp' c c' _ _ h3 sH (fun e=>aH ?_) h4 h5 z5
   subst e;rw [(List.getElem?_inj (List.getElem?_eq_some_iff.1 h1).1 hpn).1 (h1.trans eP.symm)]
 ·rw [List.length_append,List.length_map,lC] at bh;simp only [ai];rw [if_neg (by omega),List.getElem?_eq_none (by omega)]
  rfl
 ·rcases wT id b hb with ⟨ak,b0,l',h1,J,h3,_⟩ | ⟨j,p,c,l',rfl,h1,J,h3,h4,h5,h6,h7⟩
  ·rw [tT id ak,J] at hl; cases hl;exact .inl (jV id b0 _ h1 (h3 ho) J)
  ·rw [rD j p h1,h5] at hl; cases hl;exact .inr h7
end
open Go Go.RowKit
def BE (P:Program) (g:TypeId→Option (Bool × List Value)):Nat→List Field→Option (List Value)
 | _,[]=>some []
 | o, f :: l => match Nat.beq f.offset o && (f.name != "_"), g f.type, P.info? f.type, P.underlying f.type with
  | true,some (b,z),some i,some d=>match Nat.beq i.size z.length && (tP d == b) && Nat.ble 1 z.length with
   | true=>match BE P g (o+z.length) l with
    | some zs=>some (z++zs)
    | none=>none
   | false=>none
  | _,_,_,_=>none
def wX (P:Program):Nat→TypeId→Option (Bool × List Value)
 | 0,_=>none
 | d+1,t=>match P.underlying t with
  | some .bool=>some (false,[.bool false])
  | some (.int q)=>some (false,[.int q 0])
  | some .string=>some (false,[.string ⟨#[]⟩])
  | some (.struct fs)=>match P.stoodInHeld t with
   | true=>none
   | false=>match BE P (wX P d) 0 fs.toList with
    | some z=>some (true,z)
    | none=>none
  | _=>none
theorem qX:∀ {l m:List Value},eI l m=true→l.length=m.length
 | [],[],_=>rfl
 | .bool _::l,.bool _::m,h=>by simp [qX (l:=l) (m:=m) h]
 | .int q _::l,.int q' _::m,h=>by
  simp only [eI,Bool.and_eq_true] at h;simp [qX (l:=l) (m:=m) h.2]
 | .string _::l,.string _::m,h=>by simp [qX (l:=l) (m:=m) h]
def IP (x v:Value):Prop:=(∃ a b,x=.bool a∧v=.bool b)∨(∃ q a b,x=.int q a∧v=.int q b)∨∃ a b,x=.string a∧v=.string b
theorem B7 {xs z:List Value} {v:Value} (h:eI xs (v::z)=true):∃ x l,xs=x::l∧IP x v∧eI l z=true:=by
 generalize e:v::z=w at h;unfold eI at h
 split at h
 ·cases e
 ·cases e; exact ⟨_,_,rfl,.inl ⟨_,_,rfl,rfl⟩,h⟩
 ·cases e;simp only [Bool.and_eq_true,decide_eq_true_eq] at h;obtain ⟨rfl,h⟩:=h;exact ⟨_,_,rfl,.inr (.inl ⟨_,_,_,rfl,rfl⟩),h⟩
 ·cases e; exact ⟨_,_,rfl,.inr (.inr ⟨_,_,rfl,rfl⟩),h⟩
 ·cases h
theorem Gw {xs:List Value} (h:eI xs []=true):xs=[]:=List.length_eq_zero_iff.1 (qX h)
theorem V4 {x v:Value} {l z:List Value} (h:IP x v) (J:eI l z=true):eI (x::l) (v::z)=true:=by
 rcases h with ⟨a,b,rfl,rfl⟩ | ⟨q,a,b,rfl,rfl⟩ | ⟨a,b,rfl,rfl⟩
 ·exact J
 ·simp only [eI,decide_true,Bool.true_and]; exact J
 ·exact J
theorem DO:∀ {z xs zs:List Value},eI xs (z++zs)=true→∃ x1 x2,xs=x1++x2∧eI x1 z=true∧eI x2 zs=true
 | [],xs,zs,h=>⟨[],xs,rfl,rfl,h⟩
 | v::z,xs,zs,h=>by
  obtain ⟨x,l,rfl,h1,J⟩:=B7 (z:=z++zs) h;obtain ⟨x1,x2,rfl,h3,h4⟩:=DO J;exact ⟨x::x1,x2,rfl,V4 h1 h3,h4⟩
theorem JC:∀ {z x1 y1 x2 y2:List Value},eI x1 z=true→eI y1 z=true→dZ (x1++x2) (y1++y2)=(dZ x1 y1 && dZ x2 y2)
 | [],x1,y1,x2,y2,h1,J=>by
  rw [Gw h1,Gw J];simp [dZ]
 | v::z,x1,y1,x2,y2,h1,J=>by
  obtain ⟨x,l,rfl,a1,a2⟩:=B7 h1;obtain ⟨y,m,rfl,b1,b2⟩:=B7 J;have ih:=JC (x2:=x2) (y2:=y2) a2 b2;rcases a1 with ⟨p,_,rfl,rfl⟩ | ⟨q,p,_,rfl,rfl⟩ | ⟨p,_,rfl,rfl⟩
  all_goals
   rcases b1 with ⟨r,_,rfl,e⟩ | ⟨q',r,_,rfl,e⟩ | ⟨r,_,rfl,e⟩
  all_goals first | (cases e; done) | skip
  all_goals
   simp only [List.cons_append,dZ,ih,Bool.and_assoc]
theorem wJ {xs:List Value} {v:Value} (h:eI xs [v]=true):∃ x,xs=[x]∧IP x v:=by
 obtain ⟨x,l,rfl,h1,J⟩:=B7 h;rw [Gw J];exact ⟨x,rfl,h1⟩
def toV (b:Bool) (xs:List Value):Value:=if b then .agg ⟨xs⟩ else xs.getD 0 undef
theorem JT {P:Program} {d:Nat} (ih:∀ t b z,wX P d t=some (b,z)→∀ n xs ys w,eI xs z=true→eI ys z=true→(Op.equalIn (n+d) t (toV b xs) (toV b ys)).run P w=.ok (dZ xs ys) w) (n:Nat) (w:World) (XS YS:List Value) :
  ∀ (l:List Field) (o:Nat) (z:List Value),BE P (wX P d) o l=some z→∀ xs ys,eI xs z=true→eI ys z=true→(∀ j v,xs[j]?=some v→XS[o+j]?=some v)→(∀ j v,ys[j]?=some v→YS[o+j]?=some v) →
   (Op.eqFields (n+d) ⟨XS⟩ ⟨YS⟩ l).run P w=.ok (dZ xs ys) w
 | [],o,z,h,xs,ys,h1,J,_,_=>by
  cases h;have e1:=qX h1;have e2:=qX J;have e1:xs=[]:=List.length_eq_zero_iff.1 e1;have e2:ys=[]:=List.length_eq_zero_iff.1 e2;subst e1; subst e2
  rfl
 | f::l,o,z,h,xs,ys,h1,J,hx,hy=>by
  unfold BE at h
  split at h
  ·rename_i b z1 i dd hb hg hi hu
   split at h
   ·rename_i hc
    split at h
    ·rename_i zs hz;cases h;simp only [Bool.and_eq_true] at hb hc;obtain ⟨⟨c1,c2⟩,c3⟩:=hc;obtain ⟨x1,x2,rfl,xw,qz⟩:=DO h1;obtain ⟨y1,y2,rfl,oL,qA⟩:=DO J;have lx:=qX xw;have ly:=qX oL;have aT:=Nat.eq_of_beq_eq_true c1;have P1:yn P f (o,z1.length,b):=⟨Nat.eq_of_beq_eq_true hb.1,Nat.le_of_ble_eq_true c3,⟨i,hi,aT⟩,dd,hu,by simpa using c2⟩
     have p1:=Fl P1 (cs:=XS) (vs:=x1) lx (fun j v hv=>hx j v (by rw [List.getElem?_append_left (by rw [List.getElem?_eq_some_iff] at hv; exact hv.1)]; exact hv)) w
     have p2:=Fl P1 (cs:=YS) (vs:=y1) ly (fun j v hv=>hy j v (by rw [List.getElem?_append_left (by rw [List.getElem?_eq_some_iff] at hv; exact hv.1)]; exact hv)) w
     have p3:=ih f.type b z1 hg n x1 y1 w xw oL;have p4:=JT ih n w XS YS l (o+z1.length) zs hz x2 y2 qz qA
      (fun j v hv=>by
       rw [Nat.add_assoc];refine hx _ v ?_;rw [List.getElem?_append_right (by omega),← lx,Nat.add_sub_cancel_left]
       exact hv)
      (fun j v hv=>by
       rw [Nat.add_assoc];refine hy _ v ?_;rw [List.getElem?_append_right (by omega),← ly,Nat.add_sub_cancel_left]
       exact hv)
     have aH : f.name ≠ "_" := by simpa using hb.2
     unfold Op.eqFields;rw [if_pos aH];unfold toV at p3;simp only [Sem.run_bind,p1,p2,Result.andThen_ok];rw [p3];simp only [Result.andThen_ok];rw [JC xw oL];cases dZ x1 y1
     ·rfl
     ·simpa using p4
    ·cases h
   ·cases h
  ·cases h
theorem KJ {P:Program}:∀ (d:Nat) (t:TypeId) (b:Bool) (z:List Value),wX P d t=some (b,z)→∀ (n:Nat) (xs ys:List Value) (w:World),eI xs z=true→eI ys z=true →
  (Op.equalIn (n+d) t (toV b xs) (toV b ys)).run P w=.ok (dZ xs ys) w
 | 0,t,b,z,h=>by cases h
 | d+1,t,b,z,h=>by
  intro n xs ys w h1 J;unfold wX at h
  split at h
  ·rename_i hu;cases h;obtain ⟨x,rfl,a1⟩:=wJ h1;obtain ⟨y,rfl,a2⟩:=wJ J;rcases a1 with ⟨x,_,rfl,e⟩ | ⟨_,x,_,rfl,e⟩ | ⟨x,_,rfl,e⟩
   all_goals first | (cases e; done) | skip
   rcases a2 with ⟨y,_,rfl,e⟩ | ⟨_,y,_,rfl,e⟩ | ⟨y,_,rfl,e⟩
   all_goals first | (cases e; done) | skip
   ·skip
    rw [show toV false [Value.bool x]=.bool x from rfl,show toV false [Value.bool y]=.bool y from rfl]
    rw [show n+(d+1)=(n+d)+1 from rfl,run_equalIn_bool' w (n+d) t x y hu]
    simp [dZ]
  ·rename_i q hu;cases h;obtain ⟨x,rfl,a1⟩:=wJ h1;obtain ⟨y,rfl,a2⟩:=wJ J;rcases a1 with ⟨x,_,rfl,e⟩ | ⟨q1,x,_,rfl,e⟩ | ⟨x,_,rfl,e⟩
   all_goals first | (cases e; done) | skip
   cases e;rcases a2 with ⟨y,_,rfl,e⟩ | ⟨q2,y,_,rfl,e⟩ | ⟨y,_,rfl,e⟩
   all_goals first | (cases e; done) | skip
   cases e
   ·skip
    rw [show toV false [Value.int q x]=.int q x from rfl,show toV false [Value.int q y]=.int q y from rfl]
    rw [show n+(d+1)=(n+d)+1 from rfl,run_equalIn_int w (n+d) t q q x y hu]
    simp [dZ]
  ·rename_i hu;cases h;obtain ⟨x,rfl,a1⟩:=wJ h1;obtain ⟨y,rfl,a2⟩:=wJ J;rcases a1 with ⟨x,_,rfl,e⟩ | ⟨_,x,_,rfl,e⟩ | ⟨x,_,rfl,e⟩
   all_goals first | (cases e; done) | skip
   rcases a2 with ⟨y,_,rfl,e⟩ | ⟨_,y,_,rfl,e⟩ | ⟨y,_,rfl,e⟩
   all_goals first | (cases e; done) | skip
   ·skip
    rw [show toV false [Value.string x]=.string x from rfl,show toV false [Value.string y]=.string y from rfl]
    rw [show n+(d+1)=(n+d)+1 from rfl,run_equalIn_string w (n+d) t x y hu]
    simp [dZ]
  ·rename_i fs hu
   split at h
   ·cases h
   ·rename_i aq
    split at h
    ·rename_i z0 hz;cases h;have vg:P.fieldsOf t=fs:=by unfold Program.fieldsOf; rw [hu]
     show (Op.equalIn (n+(d+1)) t (.agg ⟨xs⟩) (.agg ⟨ys⟩)).run P w=_
     rw [show n+(d+1)=(n+d)+1 from rfl,run_equalIn_struct w (n+d) t ⟨xs⟩ ⟨ys⟩ (by rw [vg]; exact hu) aq,vg]
     exact JT (KJ d) n w xs ys fs.toList 0 _ hz xs ys h1 J (fun j v hv=>by rw [Nat.zero_add]; exact hv) (fun j v hv=>by rw [Nat.zero_add]; exact hv)
    ·cases h
  ·cases h
theorem ac4 {P:Program} {t:TypeId} {z:List Value} (h:wX P 5 t=some (true,z)) (hg:P.eqGuardType P.depth t=false):xj P t z:=by
 intro xs ys w h1 J;refine ⟨?_,fun x y op=>run_eqGuard_agg w op t x y ⟨xs⟩ ⟨ys⟩ hg⟩
 exact KJ 5 t true z h 9995 xs ys w h1 J
open Go Go.RowKit
def ug:Code→Option (Array Nat × Code × Code)
 | .rangeFunc _ ps a b=>some (ps,a,b)
 | .seq a b=>match ug a with
  | some x=>some x
  | none=>ug b
 | .block _ c=>ug c
 | .loop c=>ug c
 | .cond _ a b=>match ug a with
  | some x=>some x
  | none=>ug b
 | _=>none
def p5 (f:Func) (fn:FuncId) (tm:Array Value) (df:Nat):Loop :=
 match f.body with
 | some c=>match ug c with
  | some (ps,a,b)=>⟨.ready,none,fn,tm,ps,a,b,df⟩
  | none=>⟨.ready,none,fn,tm,#[],.skip,.skip,df⟩
 | none=>⟨.ready,none,fn,tm,#[],.skip,.skip,df⟩
def ef (id:Nat):Nat→Value
 | 0=>.slice none 0 0
 | q+1=>.slice (some ⟨id,0,none⟩) (q+1) aJ
def zj (e:Nat) (F:Nat→List Value):Nat→ay
 | 0=>[]
 | q+1=>[some (.flat true (q+1) e F)]
end Go.Ae
