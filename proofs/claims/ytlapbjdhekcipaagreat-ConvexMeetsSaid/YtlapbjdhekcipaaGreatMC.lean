import Derived.Laws.StructEq
import Derived.Test.YtlapbjdhekcipaaGreatMB
set_option linter.unusedVariables false
set_option linter.unusedSimpArgs false
namespace Go.Ae
open Go Go.RowKit
def mW (es:List (Option Nat)) (D:Nat→Bool) (i:Nat):Bool:=(List.range es.length).any fun p=>D p && (es.getD p none == some i)
theorem tM {es:List (Option Nat)} {D:Nat→Bool} {i:Nat}:mW es D i=true↔∃ p,D p=true∧es[p]?=some (some i):=by
 unfold mW;rw [List.any_eq_true];constructor
 ·rintro ⟨p,hp,h⟩
  rw [Bool.and_eq_true,beq_iff_eq,List.getD_eq_getElem?_getD,List.getElem?_eq_getElem (List.mem_range.1 hp)] at h;exact ⟨p,h.1,by rw [List.getElem?_eq_getElem (List.mem_range.1 hp)]; exact congrArg some h.2⟩
 ·rintro ⟨p,h1,J⟩
  have al:=(List.getElem?_eq_some_iff.1 J).1;refine ⟨p,List.mem_range.2 al,?_⟩;rw [h1,List.getD_eq_getElem?_getD,J];simp
def iR (es:List (Option Nat)) (rs:List c4) (D:Nat→Bool) (m:Nat):List (Option aj):=(List.range m).map fun i=>if D i && !mW es D i then (rs[i]?).bind (·.nb) else none
theorem wc {es:List (Option Nat)} {rs:List c4} {D:Nat→Bool} {m i:Nat} {b:aj}:(iR es rs D m)[i]?=some (some b)↔i < m∧D i=true∧mW es D i=false∧(rs[i]?).bind (·.nb)=some b:=by
 unfold iR;rw [List.getElem?_map];by_cases h:i < m
 ·simp only [List.getElem?_range h,Option.map_some,Option.some.injEq];cases D i <;> cases mW es D i <;> simp [h]
 ·rw [List.getElem?_eq_none (by simp; omega)]
  simp [h]
theorem AP (es:List (Option Nat)) (rs:List c4) (D:Nat→Bool) (m:Nat):(iR es rs D m).length=m:=by simp [iR]
def iS (es:List (Option Nat)) (rs:List c4):List (Option aj):=iR es rs (fun i=>decide (i < rs.length)) rs.length
def Hs (ms:List (List Nat)) (j i:Nat):Bool :=
 decide (i < j) && (ms.getD j []).contains i && (List.range ms.length).all fun q=>q == j || !((ms.getD q []).contains i) || (ms.getD j []).contains q
theorem SL {ms:List (List Nat)} {j i:Nat} (h:Hs ms j i=true):i < j∧i∈ms.getD j []∧∀ q,q≠j→i∈ms.getD q []→q∈ms.getD j []:=by
 unfold Hs at h;simp only [Bool.and_eq_true,decide_eq_true_eq,List.contains_iff_mem,List.all_eq_true,List.mem_range,Bool.or_eq_true,beq_iff_eq,Bool.not_eq_true'] at h;refine ⟨h.1.1,h.1.2,fun q hq hi=>?_⟩
 have al:q < ms.length:=by
  rcases Nat.lt_or_ge q ms.length with h' | h'
  ·exact h'
  ·rw [List.getD_eq_getElem?_getD,List.getElem?_eq_none h'] at hi; cases hi
 rcases h.2 q al with (h' | h') | h'
 ·exact absurd h' hq
 ·rw [List.contains_iff_mem.2 hi] at h'; cases h'
 ·exact h'
def mX (E:Env) (ops:List Oper) (vr:List (List Nat)) (H:aA) (n0:Nat):List Oper→List (List Nat)→Nat→List Value→List (Option aj)→(List Value→List (Option aj)→Prop)→Prop
 | [],_,_,t,S,k=>k t S
 | o::l,mask::aU,j,t,S,k =>
  match o.guard with
  | none=>match isApp o.op with
   | some (ty,x,y)=>kW S 0 mask fun Sm=>np H Sm fun G=>Py E t G n0 (n0+j) ty x y fun v gj nb=>match gj with
    | some i=>Hs vr j i=true∧dm t o.dst v fun t'=>jl S i none fun S1=>jk S1 nb fun S'=>mX E ops vr H n0 l aU (j+1) t' S' k
    | none=>dm t o.dst v fun t'=>jk S nb fun S'=>mX E ops vr H n0 l aU (j+1) t' S' k
   | none=>kW S 0 mask fun Sm=>np H Sm fun G=>kK E o.op t G (n0+j) fun v nb=>dm t o.dst v fun t'=>jk S nb fun S'=>mX E ops vr H n0 l aU (j+1) t' S' k
  | some (g,want)=>match (ops[g]?).bind (·.dst) with
   | some d=>qz t d fun v=>match v with
    | .bool b=>br (b == want)
      (kW S 0 mask fun Sm=>np H Sm fun G=>kK E o.op t G (n0+j) fun v nb=>dm t o.dst v fun t'=>jk S nb fun S'=>mX E ops vr H n0 l aU (j+1) t' S' k)
      (dm t o.dst undef fun t'=>jk S none fun S'=>mX E ops vr H n0 l aU (j+1) t' S' k)
    | .tuple _=>dm t o.dst undef fun t'=>jk S none fun S'=>mX E ops vr H n0 l aU (j+1) t' S' k
    | _=>False
   | none=>False
 | _::_,[],_,_,_,_=>False
def OQ (E:Env) (ops:List Oper) (t:List Value) (H:aA) (k:SK):Prop :=
 ∃ (m:Nat) (aU:List (List Nat)),Cn ops m aU=true∧jm H fun n0=>uG ops m fun hd tl=>mX E ops aU H n0 hd aU 0 t [] fun t' S=>np H S fun G=>m8 E ops tl t' G k
structure oV (P:Program) (ops:List Oper) (t0:List Value) (H:aA) (aU:List (List Nat)) (rs:List c4) (es:List (Option Nat)) (j:Nat):Prop where
 ok:∃ o r gj,ops[j]?=some o∧rs[j]?=some r∧es[j]?=some gj∧(∀ d,o.dst=some d→d < t0.length) ∧
  ((∃ G:aA,(∀ id b,G[id]?=some (some b)→(id < H.length∧H[id]?=some (some b))∨(∃ i,id=H.length+i∧i < j∧i∈aU.getD j []∧(rs[i]?).bind (·.nb)=some b)) ∧
    (∀ i,gj=some i→i < j∧i∈aU.getD j []∧(∀ q,q≠j→i∈aU.getD q []→q∈aU.getD j [])∧∃ b,G[H.length+i]?=some (some b)∧b.own=true) ∧
    (∀ (ν:Nu) (a:Act) (w:World) (q:Option Nat) (n:Nat),(∀ x∈o.op.operands,fh ν (bd ops rs (fun i=>decide (i < j)) t0 j) a x)→bQ ν G w→ν (H.length+j)=none →
     ∀ next Q,(∀ v' w' ak,EPost ν ak (H.length+j) (gj.bind fun i=>ν (H.length+i)) w w' r.v v' r.nb→next (a.put o.dst v') w')→o.wpIn (WF q) n P a w next Q) ∧
    (o.guard=none∨∃ g want d b,o.guard=some (g,want)∧bR ops g=some d∧(bd ops rs (fun i=>decide (i < j)) t0 j)[d]?=some (.bool b)∧(b == want)=true)) ∨
    (gj=none∧r.v=undef∧r.nb=none∧∃ g want d v,o.guard=some (g,want)∧bR ops g=some d∧(bd ops rs (fun i=>decide (i < j)) t0 j)[d]?=some v∧((∃ b,v=.bool b∧(b == want)=false)∨∃ vs,v=.tuple vs)))
theorem oV.more {P:Program} {ops:List Oper} {t0:List Value} {H:aA} {aU:List (List Nat)} {rs:List c4} {es:List (Option Nat)} {j:Nat} (h:oV P ops t0 H aU rs es j) (hj:j < rs.length) (hj2:j < es.length) (r:c4) (e:Option Nat):oV P ops t0 H aU (rs++[r]) (es++[e]) j:=by
 have he:∀ i,i≤j→(rs++[r])[i]?=rs[i]?:=fun i hi=>by rw [List.getElem?_append_left (by omega)]
 have hv:∀ D,bd ops (rs++[r]) D t0 j=bd ops rs D t0 j:=fun D=>tE (fun i hi=>he i (by omega))
 obtain ⟨o,q,gj,h1,J,jO,h3,h4⟩:=h.ok;refine ⟨⟨o,q,gj,h1,by rw [he j (Nat.le_refl _)]; exact J,by rw [List.getElem?_append_left hj2]; exact jO,h3,?_⟩⟩
 rw [hv];rcases h4 with ⟨G,g1,g2,g3,g4⟩ | h4
 ·exact .inl ⟨G,fun id b hb=>(g1 id b hb).imp (fun x=>x) (fun ⟨i,k1,k2,k3,k4⟩=>⟨i,k1,k2,k3,by rw [he i (by omega)]; exact k4⟩),g2,g3,g4⟩
 ·exact .inr h4
def qh (S:List (Option aj)):Option Nat→List (Option aj)
 | some i=>S.set i none
 | none=>S
theorem Ua {es:List (Option Nat)} {rs:List c4} {i:Nat} {b:aj} (h:(iS es rs)[i]?=some (some b)):(rs[i]?).bind (·.nb)=some b:=(wc.1 h).2.2.2
theorem SM {es:List (Option Nat)} {rs:List c4} (hl:es.length=rs.length) (al:∀ (p i:Nat),es[p]?=some (some i)→i < p) (r:c4) (e:Option Nat) (he:∀ i,e=some i→i < rs.length) :
  iS (es++[e]) (rs++[r])=qh (iS es rs) e++[r.nb]:=by
 have hD:∀ i,i < rs.length+1→decide (i < (rs++[r]).length)=true:=fun i hi=>by simp; omega
 have Qu:∀ i,mW (es++[e]) (fun i=>decide (i < (rs++[r]).length)) i=(mW es (fun i=>decide (i < rs.length)) i || e == some i):=fun i=>by
  rw [Bool.eq_iff_iff,Bool.or_eq_true,tM,tM,beq_iff_eq];constructor
  ·rintro ⟨p,_,J⟩
   rw [List.getElem?_append] at J
   split at J
   ·rename_i hp;exact .inl ⟨p,by simp; omega,J⟩
   ·right
    have:p - es.length=0:=by
     rcases Nat.eq_zero_or_pos (p - es.length) with h | h
     ·exact h
     ·rw [List.getElem?_eq_none (by simp; omega)] at J; cases J
    rw [this] at J
    simpa using J
  ·rintro (⟨p,h1,J⟩ | J)
   ·have:=(List.getElem?_eq_some_iff.1 J).1;exact ⟨p,by simp at h1 ⊢; omega,by rw [List.getElem?_append_left this]; exact J⟩
   ·exact ⟨es.length,by simp; omega,by rw [List.getElem?_append_right (Nat.le_refl _)]; simp [J]⟩
 apply List.ext_getElem?;intro x;have hlen:(qh (iS es rs) e).length=rs.length:=by
  cases e <;> simp [qh,iS,AP]
 unfold iS iR;rw [List.getElem?_map];by_cases hx:x < rs.length
 ·rw [List.getElem?_range (by simp; omega),List.getElem?_append_left (by cases e <;> simp [qh] <;> omega)]
  simp only [Option.map_some];simp only [Qu x,hD x (by omega)]
  rw [List.getElem?_append_left hx];unfold qh;cases e with
  | none =>
   dsimp only
   rw [List.getElem?_map,List.getElem?_range hx];simp [hx]
  | some i =>
   dsimp only
   by_cases Jc:i=x
   ·subst Jc;rw [List.getElem?_set_self (by simpa using hx)]
    simp
   ·rw [List.getElem?_set_ne Jc,List.getElem?_map,List.getElem?_range hx];have:(some i == some x)=false:=by simp [Jc]
    rw [this];simp [hx]
 ·by_cases nZ:x=rs.length
  ·subst nZ;rw [List.getElem?_range (by simp),List.getElem?_append_right (by cases e <;> simp [qh])]
   have aI:mW es (fun i=>decide (i < rs.length)) rs.length=false:=by
    cases h:mW es (fun i=>decide (i < rs.length)) rs.length with
    | false=>rfl
    | true =>
     obtain ⟨p,h1,J⟩:=tM.1 h;have:=al p _ J;have:=of_decide_eq_true h1;omega
   have H9:(e == some rs.length)=false:=by
    cases e with
    | none=>rfl
    | some i=>have:=he i rfl; simp; omega
   simp only [Option.map_some];simp only [Qu,hD _ (Nat.lt_succ_self _),aI,H9];cases e <;> simp [qh]
  ·rw [List.getElem?_eq_none (by simp; omega),List.getElem?_eq_none (by cases e <;> simp [qh] <;> omega)]; rfl
theorem K4 {P:Program} {E:Env} (hE:EnvOk P E) {ops:List Oper} {t0:List Value} {H:aA} {aU:List (List Nat)} {k:List Value→List (Option aj)→Prop} :
  ∀ {l:List Oper} {ms:List (List Nat)} {j:Nat} {rs:List c4} {es:List (Option Nat)},rs.length=j→es.length=j→(∀ (p i:Nat),es[p]?=some (some i)→i < p)→(∀ (i:Nat) o,l[i]?=some o→ops[j+i]?=some o)→(∀ i,i < l.length→ms.getD i []=aU.getD (j+i) []) →
  (∀ i,i < j→oV P ops t0 H aU rs es i)→mX E ops aU H H.length l ms j (bd ops rs (fun i=>decide (i < j)) t0 j) (iS es rs) k →
  ∃ (b8:List c4) (jP:List (Option Nat)),b8.length=j+l.length∧jP.length=j+l.length∧(∀ i,i < j+l.length→oV P ops t0 H aU b8 jP i)∧k (bd ops b8 (fun i=>decide (i < j+l.length)) t0 (j+l.length)) (iS jP b8)
 | [],ms,j,rs,es,hl,iV,_,_,_,bf,h=>⟨rs,es,hl,iV,bf,h⟩
 | o::l,[],j,rs,es,hl,iV,_,_,_,bf,h=>h.elim
 | o::l,mask::ms,j,rs,es,hl,iV,al,ho,hm,bf,h=>by
  have oc:ops[j]?=some o:=by have:=ho 0 o rfl; simpa using this
  have CH:mask=aU.getD j []:=by have:=hm 0 (by simp); simpa using this
  -- the next step, whatever this one's result
  have next:∀ (r:c4) (e:Option Nat) t',(t'=match o.dst with | some d=>(bd ops rs (fun i=>decide (i < j)) t0 j).set d r.v | none=>bd ops rs (fun i=>decide (i < j)) t0 j)→(∀ i,e=some i→i < j) →
    (oV P ops t0 H aU (rs++[r]) (es++[e]) j)→mX E ops aU H H.length l ms (j+1) t' (qh (iS es rs) e++[r.nb]) k →
    ∃ (b8:List c4) (jP:List (Option Nat)),b8.length=j+(o::l).length∧jP.length=j+(o::l).length∧(∀ i,i < j+(o::l).length→oV P ops t0 H aU b8 jP i)∧k (bd ops b8 (fun i=>decide (i < j+(o::l).length)) t0 (j+(o::l).length)) (iS jP b8):=by
   intro r e t' jt fo hj h';have hv:bd ops (rs++[r]) (fun i=>decide (i < j+1)) t0 (j+1)=t':=by
    have hr:(rs++[r])[j]?=some r:=by rw [← hl]; simp
    have hd:bR ops j=o.dst:=by simp [bR,oc]
    have ze:bd ops (rs++[r]) (fun i=>decide (i < j+1)) t0 j=bd ops rs (fun i=>decide (i < j)) t0 j:=by
     rw [tE (b8:=rs) (fun i hi=>by rw [List.getElem?_append_left (by omega)])]
     exact x5 (fun i hi=>by simp; omega)
    have H0:decide (j < j+1)=true:=by simp
    rw [jt,EO,hr,hd,ze,H0];cases o.dst <;> rfl
   rw [← hv,← SM (iV.trans hl.symm) al r e (fun i hi=>by rw [hl]; exact fo i hi)] at h'
   obtain ⟨b8,jP,k1,Qv,k2,k3⟩:=K4 hE (l:=l) (ms:=ms) (j:=j+1) (rs:=rs++[r]) (es:=es++[e]) (by simp [hl]) (by simp [iV]) (fun p i hp=>by
     rw [List.getElem?_append] at hp
     split at hp
     ·exact al p i hp
     ·rename_i dH;have:p - es.length=0:=by
       rcases Nat.eq_zero_or_pos (p - es.length) with h | h
       ·exact h
       ·rw [List.getElem?_eq_none (by simp; omega)] at hp; cases hp
      rw [this] at hp;have:=fo i (by simpa using hp)
      omega) (fun i p hp=>by have:=ho (i+1) p (by simpa using hp); rwa [show j+1+i=j+(i+1) by omega])
    (fun i hi=>by have:=hm (i+1) (by simp; omega); rw [show j+1+i=j+(i+1) by omega]; simpa using this)
    (fun i hi=>by
     by_cases e':i=j
     ·subst e'; exact hj
     ·exact (bf i (by omega)).more (by omega) (by omega) r e) h'
   have e2:j+1+l.length=j+(o::l).length:=by simp; omega
   rw [e2] at k1 Qv k2 k3;exact ⟨b8,jP,k1,Qv,k2,k3⟩
  have od:∀ r:c4,bd ops (rs++[r]) (fun i=>decide (i < j)) t0 j=bd ops rs (fun i=>decide (i < j)) t0 j:=fun r=>tE (fun i hi=>by rw [List.getElem?_append_left (by omega)])
  have s6:∀ r:c4,(rs++[r])[j]?=some r:=fun r=>by rw [← hl]; simp
  have DJ:∀ e:Option Nat,(es++[e])[j]?=some e:=fun e=>by rw [← iV]; simp
  -- what is seen of the blocks
  have seen:∀ {Sm:List (Option aj)} (r:c4),(∀ jj b,Sm[jj]?=some (some b)→(iS es rs)[jj]?=some (some b)∧(0+jj)∈mask)→∀ id b,(H++Sm)[id]?=some (some b) →
    (id < H.length∧H[id]?=some (some b))∨(∃ i,id=H.length+i∧i < j∧i∈aU.getD j []∧((rs++[r])[i]?).bind (·.nb)=some b):=by
   intro Sm r h3 id b hb;rw [List.getElem?_append] at hb
   split at hb
   ·exact .inl ⟨by assumption,hb⟩
   ·rename_i dH;obtain ⟨q1,q2⟩:=h3 _ b hb;have adE:id - H.length < rs.length:=by
     have:=(List.getElem?_eq_some_iff.1 q1).1
     rwa [iS,AP] at this
    refine .inr ⟨id - H.length,by omega,by omega,by rw [← CH]; simpa using q2,?_⟩
    rw [List.getElem?_append_left adE];exact Ua q1
  have C8:∀ {v:Value} {kk:List Value→Prop},dm (bd ops rs (fun i=>decide (i < j)) t0 j) o.dst v kk→∃ t',(t'=match o.dst with | some d=>(bd ops rs (fun i=>decide (i < j)) t0 j).set d v | none=>bd ops rs (fun i=>decide (i < j)) t0 j)∧(∀ d,o.dst=some d→d < t0.length)∧kk t':=by
   intro v kk hk;cases hd:o.dst with
   | none=>rw [hd] at hk; exact ⟨_,rfl,(fun d hd=>by cases hd),hk⟩
   | some d =>
    rw [hd] at hk;obtain ⟨k1,k2⟩:=oz hk;rw [rB] at k1;exact ⟨_,rfl,(fun d' cV=>by cases cV; exact k1),k2⟩
  have run:(o.guard=none∨∃ g want d b,o.guard=some (g,want)∧bR ops g=some d∧(bd ops rs (fun i=>decide (i < j)) t0 j)[d]?=some (.bool b)∧(b == want)=true) →
    (kW (iS es rs) 0 mask fun Sm=>np H Sm fun G=>kK E o.op (bd ops rs (fun i=>decide (i < j)) t0 j) G (H.length+j) fun v nb=>dm (bd ops rs (fun i=>decide (i < j)) t0 j) o.dst v fun t'=>jk (iS es rs) nb fun S'=>mX E ops aU H H.length l ms (j+1) t' S' k) →
    ∃ (b8:List c4) (jP:List (Option Nat)),b8.length=j+(o::l).length∧jP.length=j+(o::l).length∧(∀ i,i < j+(o::l).length→oV P ops t0 H aU b8 jP i)∧k (bd ops b8 (fun i=>decide (i < j+(o::l).length)) t0 (j+(o::l).length)) (iS jP b8):=by
   intro hg h;obtain ⟨Sm,h1,J,h3⟩:=vX h;have h1:=tS h1;obtain ⟨v,nb,hk,hq⟩:=Bg (P:=P) hE h1;obtain ⟨t',e1,e2,e3⟩:=C8 hk;refine next ⟨v,nb,true⟩ none t' e1 (fun i hi=>by cases hi) ⟨⟨o,⟨v,nb,true⟩,none,oc,s6 _,DJ _,e2,.inl ⟨H++Sm,seen _ h3,(fun i hi=>by cases hi),?_,?_⟩⟩⟩ (tI e3)
   ·rw [od];exact fun ν a w q n ha hH hn next Q hN=>hq o ν a w q n rfl ha hH hn next Q (fun v' w' ak hp=>hN v' w' ak (hp.e _))
   ·rw [od]; exact hg
  have skip:(∃ g want d v,o.guard=some (g,want)∧bR ops g=some d∧(bd ops rs (fun i=>decide (i < j)) t0 j)[d]?=some v∧((∃ b,v=.bool b∧(b == want)=false)∨∃ vs,v=.tuple vs)) →
    (dm (bd ops rs (fun i=>decide (i < j)) t0 j) o.dst undef fun t'=>jk (iS es rs) none fun S'=>mX E ops aU H H.length l ms (j+1) t' S' k) →
    ∃ (b8:List c4) (jP:List (Option Nat)),b8.length=j+(o::l).length∧jP.length=j+(o::l).length∧(∀ i,i < j+(o::l).length→oV P ops t0 H aU b8 jP i)∧k (bd ops b8 (fun i=>decide (i < j+(o::l).length)) t0 (j+(o::l).length)) (iS jP b8):=by
   intro hg hk;obtain ⟨t',e1,e2,e3⟩:=C8 hk;exact next ⟨undef,none,false⟩ none t' e1 (fun i hi=>by cases hi) ⟨⟨o,⟨undef,none,false⟩,none,oc,s6 _,DJ _,e2,.inr ⟨rfl,rfl,rfl,by rw [od]; exact hg⟩⟩⟩ (tI e3)
  unfold mX at h
  split at h
  ·rename_i hg
   split at h
   ·rename_i ty x y adF;obtain ⟨Sm,h1,J,h3⟩:=vX h;have h1:=tS h1;obtain ⟨v,gj,nb,hk,j8,hq⟩:=T9 (P:=P) hE h1;obtain ⟨c,qZ,Jd,Qw,hc4⟩:=SJ adF
    -- what the step gives
    have step:∀ (ν:Nu) (a:Act) (w:World) (q:Option Nat) (n:Nat),(∀ x∈o.op.operands,fh ν (bd ops rs (fun i=>decide (i < j)) t0 j) a x)→bQ ν (H++Sm) w→ν (H.length+j)=none →
      ∀ next Q,(∀ v' w' ak,EPost ν ak (H.length+j) (gj.bind fun i=>ν (H.length+i)) w w' v v' nb→next (a.put o.dst v') w')→o.wpIn (WF q) n P a w next Q:=by
     intro ν a w q n ha hH hn next Q hN;have gB:∀ z,z∈[x,y]→z∈o.op.operands:=fun z hz=>by
      rw [qZ];simp only [List.mem_cons,List.mem_nil_iff,or_false] at hz;rcases hz with rfl | rfl <;> simp [Op.operands,Call.operands,Qw]
     obtain ⟨v',w',ak,bE,hp⟩:=hq ν a w o.type (ha x (gB x (by simp))) (ha y (gB y (by simp))) hH hn
     exact jy (by simp [qZ]) (by simp [execOp,qZ,resolve,Jd,Qw,hc4,invoke,builtin,bE]) next Q (hN _ _ _ hp)
    cases gj with
    | none =>
     obtain ⟨t',e1,e2,e3⟩:=C8 hk;exact next ⟨v,nb,true⟩ none t' e1 (fun i hi=>by cases hi) ⟨⟨o,⟨v,nb,true⟩,none,oc,s6 _,DJ _,e2,.inl ⟨H++Sm,seen _ h3,(fun i hi=>by cases hi),by rw [od]; exact step,.inl hg⟩⟩⟩ (tI e3)
    | some i =>
     obtain ⟨adG,hk⟩:=hk;obtain ⟨xQ,Ah,hiq⟩:=SL adG;obtain ⟨t',e1,e2,e3⟩:=C8 hk;obtain ⟨_,e3⟩:=lT e3;exact next ⟨v,nb,true⟩ (some i) t' e1 (fun i' hi=>by cases hi; exact xQ) ⟨⟨o,⟨v,nb,true⟩,some i,oc,s6 _,DJ _,e2,.inl ⟨H++Sm,seen _ h3,(fun i' hi=>by cases hi; exact ⟨xQ,Ah,hiq,j8 i rfl⟩),by rw [od]; exact step,.inl hg⟩⟩⟩ (tI e3)
   ·exact run (.inl hg) h
  ·rename_i g want hg
   split at h
   ·rename_i d hd;obtain ⟨v,hv,h⟩:=ox h
    split at h
    ·rename_i b;cases hb:(b == want) with
     | true=>exact run (.inr ⟨g,want,d,b,hg,hd,hv,hb⟩) (BP h hb)
     | false=>exact skip ⟨g,want,d,_,hg,hd,hv,.inl ⟨b,rfl,hb⟩⟩ (Bw h hb)
    ·exact skip ⟨g,want,d,_,hg,hd,hv,.inr ⟨_,rfl⟩⟩ h
    ·exact h.elim
   ·exact h.elim
section
variable {P:Program} {E:Env} {r:Option Nat} {n:Nat} {F:Fr} {ops:Array Oper} {Q:Exit→Act→World→Prop} {m:Nat} {aU:List (List Nat)} {k:SK}
theorem SN (hc:Order ops.toList aU) (uA:m≤ops.size)
  (yK:∀ j o i p d,j < m→i < m→i≠j→ops.toList[j]?=some o→ops.toList[i]?=some p→p.dst=some d→o.dst≠some d∧(d ∉ jb ops.toList o∨i∈aU.getD j []∨j∈aU.getD i []))
  (CI:∀ j,j < ops.size→m≤j→∀ i,i < m→i∈aU.getD j [])
  {t0:List Value} {H:aA} {rs:List c4} {es:List (Option Nat)} (hel:es.length=m) (hh:∀ i,i < m→oV P ops.toList t0 H aU rs es i)
  (o4:∀ (fuel:Nat) (aF:Array Bool) (ν:Nu) (a:Act) (w:World),aF.size=ops.size→oM ops.toList (DB aF)→(∀ i,DB aF i=true→i < m)→(∀ i,i < m→DB aF i=true) →
   bw F ν (bd ops.toList rs (DB aF) t0 m) (H++iR es rs (DB aF) m) a w→gp (DB aF) ops.size≤fuel→wpAnyIn (WF r) n P .any ops Q fuel aF a w) :
  ∀ (fuel:Nat) (aF:Array Bool) (ν:Nu) (a:Act) (w:World),aF.size=ops.size→oM ops.toList (DB aF)→(∀ i,DB aF i=true→i < m) →
  bw F ν (bd ops.toList rs (DB aF) t0 m) (H++iR es rs (DB aF) m) a w→(∀ i,i < m→DB aF i=false→ν (H.length+i)=none)→gp (DB aF) ops.size≤fuel →
  wpAnyIn (WF r) n P .any ops Q fuel aF a w:=by
 have lh:∀ i d,i < m→bR ops.toList i=some d→d < t0.length:=by
  intro i d hi hd;obtain ⟨o,q,_,h1,J,_,h3,_⟩:=(hh i hi).ok;unfold bR at hd;rw [h1] at hd;exact h3 d hd
 have pk:xi ops.toList m:=by
  intro i j d hi hj h1 J;rcases Nat.decEq i j with aI | he
  ·obtain ⟨o,q,_,k1,_⟩:=(hh i hi).ok;obtain ⟨p,q',_,k2,_⟩:=(hh j hj).ok;unfold bR at h1 J;rw [k1] at h1; rw [k2] at J;exact absurd h1 (yK i o j p d hi hj (Ne.symm aI) k1 k2 J).1
  ·exact he
 intro fuel
 induction fuel with
 | zero =>
  intro aF ν a w hs eX al hi gi hu;have cS:∀ i,i < ops.size→DB aF i=true:=fun i aR=>by
   cases hd:DB aF i with
   | true=>rfl
   | false=>have:=EP aR hd; omega
  exact o4 0 aF ν a w hs eX al (fun i aR=>cS i (by omega)) hi hu
 | succ fuel ih =>
  intro aF ν a w hs eX al hi gi hu;by_cases oU:∀ i,i < m→DB aF i=true
  ·exact o4 (fuel+1) aF ν a w hs eX al oU hi hu
  ·-- something of the head has not gone: the least such one may go
   have hex:∃ i,i < m∧DB aF i=false:=by
    refine Classical.byContradiction fun aI=>oU fun i aR=>?_
    cases hd:DB aF i with
    | true=>rfl
    | false=>exact absurd ⟨i,aR,hd⟩ aI
   obtain ⟨i1,DD,fZ⟩:=hex;obtain ⟨i0,Pu,fu,iX⟩:=Em fZ;have fN:i0 < m:=by omega
   have hr:=AX hc hs (by omega:i0 < ops.size) fu iX
   refine ⟨(fun hn=>by rw [hn] at hr; cases hr),fun j hj=>?_⟩
   rw [mem_ready] at hj;obtain ⟨h1,o,ho,he⟩:=hj;have nq:j < ops.size:=(Array.getElem?_eq_some_iff.1 ho).1;rw [tZ (by omega)] at h1
   have fV:ops.toList[j]?=some o:=by simpa using ho
   have lK:=tF hc eX j o fV (fun e' fY bA=>he e' fY bA)
   have mA:j < m:=by
    rcases Nat.lt_or_ge j m with h | h
    ·exact h
    ·have:=lK i1 (CI j nq h i1 DD);rw [fZ] at this; cases this
   obtain ⟨o',q,gj,g1,g2,g2e,g3,g4⟩:=(hh j mA).ok;rw [fV] at g1; cases g1;have I7:bR ops.toList j=o.dst:=by simp [bR,fV]
   -- what it reads stands as the text's order has it
   have Hp:∀ d,d∈jb ops.toList o→(bd ops.toList rs (DB aF) t0 m)[d]?=(bd ops.toList rs (fun i=>decide (i < j)) t0 j)[d]?:=by
    intro d hd;rw [← wb (j:=j) (m:=m) (by omega) (fun i h1 J=>by simp; omega)]
    refine yh pk lh (fun i aR fO=>?_)
    by_cases e:i=j
    ·subst e; rw [h1]; simp
    ·obtain ⟨p,q',_,k1,_⟩:=(hh i aR).ok;have I8:p.dst=some d:=by unfold bR at fO; rw [k1] at fO; exact fO
     rcases (yK j o i p d mA aR e fV k1 I8).2 with h | h | h
     ·exact absurd hd h
     ·rw [lK i h];have:=(hc.mask j o fV i h).1;simp [this]
     ·have hji:=(hc.mask i p k1 j h).1;have:DB aF i=false:=by
       cases cV:DB aF i with
       | false=>rfl
       | true =>
        have:=tF hc eX i p k1 (eX i p cV k1) j h;rw [h1] at this; cases this
      rw [this]; simp; omega
   have c6:∀ i,DB (aF.setIfInBounds j true) i=(DB aF i || i == j):=fun i=>Co (by omega) i
   have xB:oM ops.toList (DB (aF.setIfInBounds j true)):=by
    intro i p aR hp e' fY bA;rw [c6] at aR ⊢;by_cases e:i=j
    ·subst e;rw [fV] at hp; cases hp;have:DB aF e'.on=true:=he e' fY bA;rw [this]; rfl
    ·have e2:(i == j)=false:=by simp [e]
     rw [e2,Bool.or_false] at aR;rw [eX i p aR hp e' fY bA]; rfl
   have qD:∀ i,DB (aF.setIfInBounds j true) i=true→i < m:=fun i aR=>by
    rw [c6] at aR;by_cases e:i=j
    ·subst e; exact mA
    ·have e2:(i == j)=false:=by simp [e]
     rw [e2,Bool.or_false] at aR;exact al i aR
   have sT:gp (DB (aF.setIfInBounds j true)) ops.size≤fuel:=by
    have:=A9 c6 h1 ops.size;rw [if_pos nq] at this; omega
   have uF:=K3 (D:=DB aF) (D':=DB (aF.setIfInBounds j true)) pk lh mA h1 c6 g2;rw [I7] at uF;have hat:∀ p i,es[p]?=some (some i)→p < m∧i < p∧i∈aU.getD p []∧∀ q,q≠p→i∈aU.getD q []→q∈aU.getD p []:=by
    intro p i hp;have vt:p < m:=by have:=(List.getElem?_eq_some_iff.1 hp).1; omega
    obtain ⟨_,_,e',_,_,k3,_,k4⟩:=(hh p vt).ok;rw [hp] at k3; cases k3;rcases k4 with ⟨_,_,k5,_⟩ | ⟨k5,_⟩
    ·obtain ⟨y1,y2,y3,_⟩:=k5 i rfl;exact ⟨vt,y1,y2,y3⟩
    ·cases k5
   -- what this one sees has not been eaten
   have fresh:∀ i,i∈aU.getD j []→mW es (DB aF) i=false:=by
    intro i aR;cases fY:mW es (DB aF) i with
    | false=>rfl
    | true =>
     obtain ⟨p,nr,q7⟩:=tM.1 fY;obtain ⟨vt,_,_,y3⟩:=hat p i q7;have Qx:j≠p:=fun e=>by rw [← e,h1] at nr; cases nr
     have hjp:=y3 j Qx aR;obtain ⟨op,_,_,k1,_⟩:=(hh p vt).ok;have:=tF hc eX p op k1 (eX p op nr k1) j hjp;rw [h1] at this; cases this
   have fm:∀ (id:Nat) (c:aj),(H++iR es rs (DB (aF.setIfInBounds j true)) m)[id]?=some (some c) →
     ((H++iR es rs (DB aF) m)[id]?=some (some c)∧∀ i,gj=some i→id≠H.length+i)∨(id=H.length+j∧q.nb=some c):=by
    intro id c;by_cases bm:id < H.length
    ·rw [List.getElem?_append_left bm,List.getElem?_append_left bm];exact fun h=>.inl ⟨h,fun i _=>by omega⟩
    ·rw [List.getElem?_append_right (by omega),List.getElem?_append_right (by omega),wc,wc]
     rintro ⟨k1,k2,k3,k4⟩
     rw [c6] at k2;by_cases e:id - H.length=j
     ·refine .inr ⟨by omega,?_⟩
      rw [e,g2] at k4; exact k4
     ·have e2:(id - H.length == j)=false:=by simp [e]
      rw [e2,Bool.or_false] at k2;refine .inl ⟨⟨k1,k2,?_,k4⟩,fun i aR aev=>?_⟩
      ·cases fY:mW es (DB aF) (id - H.length) with
       | false=>rfl
       | true =>
        obtain ⟨p,nr,q7⟩:=tM.1 fY;rw [tM.2 ⟨p,by rw [c6,nr]; rfl,q7⟩] at k3; cases k3
      ·have hx:id - H.length=i:=by omega
       rw [hx,tM.2 ⟨j,by rw [c6]; simp,by rw [g2e,aR]⟩] at k3; cases k3
   have mU:ν (H.length+j)=none:=gi j mA h1;have Hq:(H++iR es rs (DB aF) m).length=H.length+m:=by rw [List.length_append,AP]
   have GP:(H++iR es rs (DB (aF.setIfInBounds j true)) m).length=H.length+m:=by rw [List.length_append,AP]
   have hG:∀ {G:aA},(∀ (id:Nat) (b:aj),G[id]?=some (some b)→(id < H.length∧H[id]?=some (some b))∨(∃ i,id=H.length+i∧i < j∧i∈aU.getD j []∧(rs[i]?).bind (·.nb)=some b)) →
     ∀ (id:Nat) (b:aj),G[id]?=some (some b)→(H++iR es rs (DB aF) m)[id]?=some (some b):=by
    intro G q1 id b hb;rcases q1 id b hb with ⟨h3,h4⟩ | ⟨i,h3,h4,h5,h6⟩
    ·rw [List.getElem?_append_left h3]; exact h4
    ·subst h3;rw [List.getElem?_append_right (by omega)]
     rw [show H.length+i - H.length=i by omega,wc]
     exact ⟨by omega,lK i h5,fresh i h5,h6⟩
   have adH:∀ i,gj=some i→∃ bi,(H++iR es rs (DB aF) m)[H.length+i]?=some (some bi)∧bi.own=true:=by
    intro i aR;rcases g4 with ⟨G,q1,q2,_⟩ | ⟨q1,_⟩
    ·obtain ⟨_,_,_,bi,y1,y2⟩:=q2 i aR;exact ⟨bi,hG q1 _ _ y1,y2⟩
    ·rw [aR] at q1; cases q1
   -- the state behind it
   have after:∀ v' w' ak,EPost ν ak (H.length+j) (gj.bind fun i=>ν (H.length+i)) w w' q.v v' q.nb→wpAnyIn (WF r) n P .any ops Q fuel (aF.setIfInBounds j true) (a.put o.dst v') w':=by
    intro v' w' ak hp;have hold:∀ lo,(gj.bind fun i=>ν (H.length+i))=some lo→∃ i bi,gj=some i∧ν (H.length+i)=some lo∧(H++iR es rs (DB aF) m)[H.length+i]?=some (some bi)∧bi.own=true:=by
     intro lo gV;cases fY:gj with
     | none=>rw [fY] at gV; cases gV
     | some i =>
      rw [fY] at gV;obtain ⟨bi,y1,y2⟩:=adH i fY;exact ⟨i,bi,rfl,gV,y1,y2⟩
    have dx:∀ (id:Nat) (c:aj),(H++iR es rs (DB aF) m)[id]?=some (some c)→id≠H.length+j:=fun id c h e=>by
     obtain ⟨l',cC,_⟩:=hi.hp.aJ id c h;rw [e,mU] at cC; cases cC
    have uA:w.heap.size≤w'.heap.size:=by
     rcases hp.DH with hb | ⟨_,_,_,_,h,_⟩
     ·exact hb.size
     ·exact h
    have sZ:Kept F.O F.W w':=by
     rcases hp.DH with hb | ⟨lo,gV,_,J,h3,h4,h5,h6⟩
     ·exact hi.kp.below hb
     ·obtain ⟨i,bi,y1,y2,y3,y4⟩:=hold lo gV;refine ⟨h4.trans hi.kp.os,h5.trans hi.kp.tape,h6.trans hi.kp.output,Nat.le_trans hi.kp.size h3,fun x hx hO=>(J x fun e=>?_).trans (hi.kp.aJ x hx hO)⟩
      subst e;rcases hi.own _ bi lo y3 y4 y2 with h | h
      ·exact hO h
      ·omega
    have HM:∀ (id:Nat) (c:aj) (l:Loc),(H++iR es rs (DB aF) m)[id]?=some (some c)→(∀ i,gj=some i→id≠H.length+i)→ν id=some l→bN ν l c w→bN ν l c w':=by
     intro id c l h aI hl hB;rcases hp.DH with hb | ⟨lo,gV,_,J,h3,_⟩
     ·exact hB.below hb
     ·obtain ⟨i,bi,y1,y2,y3,y4⟩:=hold lo gV;exact hB.same (J _ (Ne.symm (hi.hp.sep _ id bi c lo l y3 h (Ne.symm (aI i y1)) y4 y2 hl))) h3
    have Nr:∀ (id:Nat) (c:aj) (l l2:Loc),(H++iR es rs (DB aF) m)[id]?=some (some c)→(∀ i,gj=some i→id≠H.length+i)→ν id=some l→(w.heap.size≤l2.aJ∨∃ lo,(gj.bind fun i=>ν (H.length+i))=some lo∧l2.aJ=lo.aJ)→l2.aJ≠l.aJ:=by
     intro id c l l2 h aI hl J;rcases J with J | ⟨lo,gV,J⟩
     ·obtain ⟨l',cC,hB⟩:=hi.hp.aJ id c h;rw [hl] at cC; cases cC;have:=hB.live;omega
     ·obtain ⟨i,bi,y1,y2,y3,y4⟩:=hold lo gV;rw [J];exact hi.hp.sep _ id bi c lo l y3 h (Ne.symm (aI i y1)) y4 y2 hl
    refine ih _ ak _ w' (by simp [hs]) xB qD ⟨?_,?_,⟨fun id c cD=>?_,fun x y bx bY lx ly hx hy aI Je e1 e2=>?_⟩,fun id bm=>?_,sZ,fun id c lc cD n7 dG=>?_,Nu.le_trans hi.mono hp.le⟩ (fun i aR cV=>?_) sT
    ·rw [uF];cases hd:o.dst with
     | none=>exact hi.tm.mono hp.le
     | some d=>rw [rJ]; exact (hi.tm.mono hp.le).set hp.val d
    ·rcases hp.DH with hb | ⟨lo,gV,⟨cur,t,jK⟩,J,h3,_⟩
     ·cases o.dst <;> exact hi.df.below hb
     ·cases o.dst <;> exact hi.df.eh jK J
    ·rcases fm id c cD with ⟨h,aI⟩ | ⟨h3,h4⟩
     ·obtain ⟨l,hl,hB⟩:=hi.hp.aJ id c h;exact ⟨l,hp.le _ _ hl,(HM id c l h aI hl hB).mono hp.le⟩
     ·obtain ⟨l,hl,hB,_⟩:=hp.gR c h4;exact ⟨l,by rw [h3]; exact hl,hB⟩
    ·rcases fm x bx hx with ⟨h,cT⟩ | ⟨h3,h4⟩
     ·rw [hp.only x (dx x bx h)] at e1;rcases fm y bY hy with ⟨g,Qy⟩ | ⟨g3,g4⟩
      ·rw [hp.only y (dx y bY g)] at e2;exact hi.hp.sep x y bx bY lx ly h g aI Je e1 e2
      ·obtain ⟨l,hl,_,hle⟩:=hp.gR bY g4;rw [g3,hl] at e2; cases e2;exact Ne.symm (Nr x bx lx _ h cT e1 hle)
     ·obtain ⟨l,hl,_,hle⟩:=hp.gR bx h4;rw [h3,hl] at e1; cases e1;rcases fm y bY hy with ⟨g,Qy⟩ | ⟨g3,g4⟩
      ·rw [hp.only y (dx y bY g)] at e2;exact Nr y bY ly _ g Qy e2 hle
      ·exact absurd (h3.trans g3.symm) aI
    ·rw [GP] at bm;rw [hp.only id (by omega)]
     exact hi.fr id (by rw [Hq]; exact bm)
    ·rcases fm id c cD with ⟨h,_⟩ | ⟨h3,h4⟩
     ·rw [hp.only id (dx id c h)] at dG;exact hi.own id c lc h n7 dG
     ·obtain ⟨l,hl,_,hle⟩:=hp.gR c h4;rw [h3,hl] at dG; cases dG;rcases hle with hle | ⟨lo,gV,hle⟩
      ·exact .inr (Nat.le_trans hi.kp.size hle)
      ·obtain ⟨i,bi,y1,y2,y3,y4⟩:=hold lo gV;rw [hle];exact hi.own _ bi lo y3 y4 y2
    ·have aI:i≠j:=fun e=>by subst e; rw [c6] at cV; simp at cV
     rw [hp.only _ (by omega)]
     refine gi i aR ?_;rw [c6] at cV;simp only [Bool.or_eq_false_iff] at cV;exact cV.1
   unfold wpOpIn;rw [ho]
   dsimp only
   have fp:∀ d,d∈jb ops.toList o→∀ v,(bd ops.toList rs (fun i=>decide (i < j)) t0 j)[d]?=some v→∃ v',a.tmps[d]?=some v'∧au ν v v':=by
    intro d hd v hv;rw [← Hp d hd] at hv;obtain ⟨v',k1,k2⟩:=hi.tm.get hv;exact ⟨v',by simpa using k1,k2⟩
   rcases g4 with ⟨G,q1,_,q2,q3⟩ | ⟨q0,q1,q2,g,want,d,v,q3,q4,q5,q6⟩
   ·have hw:Region.wanted o (yielded ops a.tmps)=true:=by
     rcases q3 with hg | ⟨g,want,d,b,hg,hd,hv,hb⟩
     ·simp [Region.wanted,hg]
     ·obtain ⟨v',k1,k2⟩:=fp d (AL hg hd) _ hv;rw [k2.jV] at k1;have hy:=yf (ops:=ops) (tmps:=a.tmps) (j:=g) (d:=d) (by simpa [bR] using hd)
      rw [k1] at hy;simp only [Region.wanted,hg,hy];rw [← hb];cases b <;> cases want <;> rfl
    rw [if_pos hw];refine q2 ν a w r n (fun x hx t ht v hv=>fp t ?_ v hv) (hi.hp.rX fun id b hb=>?_) mU _ Q after
    ·unfold jb;exact List.mem_append_left _ (pI (by rw [ht] at hx; simpa using hx))
    ·exact hG q1 id b hb
   ·have hw:Region.wanted o (yielded ops a.tmps)=false:=by
     obtain ⟨v',k1,k2⟩:=fp d (AL q3 q4) _ q5;have hy:=yf (ops:=ops) (tmps:=a.tmps) (j:=g) (d:=d) (by simpa [bR] using q4)
     rw [k1] at hy;rcases q6 with ⟨b,rfl,hb⟩ | ⟨vs,rfl⟩
     ·rw [k2.jV] at hy;simp only [Region.wanted,q3,hy];rw [← hb];cases b <;> cases want <;> rfl
     ·obtain ⟨ys,rfl,_⟩:=au.nC (xs:=vs.toList) k2;simp only [Region.wanted,q3,hy]
      rfl
    rw [if_neg (by rw [hw]; simp)]
    refine ⟨fun _ _=>trivial,after undef w ν ⟨ν.le_refl,fun _ _=>rfl,by rw [q1]; exact .undef ν,.inl (Below.refl _ _),fun _=>rfl,(fun b hb=>by rw [q2] at hb; cases hb)⟩⟩
theorem Vh (hm:P.follows .mixedOrders=true):nj P OQ:=by
 intro E hE r n F bM ops Q id ν tmps H a w k hi h hk;obtain ⟨m,aU,bf,h⟩:=h;have h:=lU h;obtain ⟨Pv,h⟩:=yg h;have hc:=Kz bf;obtain ⟨rs,es,iI,iW,j3,gg⟩:=K4 (P:=P) hE.toEnvOk (ops:=ops.toList) (t0:=tmps) (H:=H) (aU:=aU) (l:=ops.toList.take m) (ms:=aU) (j:=0) (rs:=[]) (es:=[]) rfl rfl (fun p i hp=>by simp at hp)
  (fun i o ho=>by
   rw [List.getElem?_take] at ho
   split at ho
   ·simpa using ho
   ·cases ho)
  (fun i _=>by simp) (fun i hi=>by omega) h
 have gg:=tS gg;have hlen:0+(ops.toList.take m).length=m:=by rw [List.length_take]; omega
 rw [hlen] at iI iW j3 gg;refine wpIn_region_any hm ?_;have hD:DB (Array.replicate ops.size false)=fun _=>false:=by
  funext i
  unfold DB;by_cases h:i < ops.size <;> simp [h]
 refine SN (F:=F) hc.toOrder (by have:=hc.le; simpa using this) hc.apart (fun j hj hm i hi=>hc.tail j (by simpa using hj) hm i (by omega)) iW j3 ?_ ops.size _ ν a _ (by simp) (fun j o hj=>by rw [hD] at hj; cases hj) (fun i aR=>by rw [hD] at aR; cases aR) ?_ (fun i _ _=>hi.fr _ (by omega)) ?_
 ·intro fuel aF ν a w hs eX al cS hi hu;have hle:m≤ops.size:=by have:=hc.le; simpa using this
  have hD:∀ i,DB aF i=decide (i < m):=fun i=>by
   by_cases h:i < m
   ·rw [cS i h]; simp [h]
   ·cases hd:DB aF i with
    | true=>exact absurd (al i hd) h
    | false=>simp [h]
  have e1:bd ops.toList rs (DB aF) tmps m=bd ops.toList rs (fun i=>decide (i < m)) tmps m:=x5 (fun i _=>hD i)
  have e2:iR es rs (DB aF) m=iS es rs:=by
   unfold iS;rw [iI];rw [show DB aF=fun i=>decide (i < m) from funext hD]
  rw [e1,e2] at hi;exact Fh hE bM hc.toOrder hc.tail hk fuel aF m ν _ _ a w hs hD (Nat.le_refl _) hle hi gg (by
   have:=Ee hD ops.size hle; omega)
 ·rw [hD];have e1:bd ops.toList rs (fun _=>false) tmps m=tmps:=wb (j:=0) (by omega) (fun _ _ _=>rfl)
  rw [e1];have kz:Below w.heap.size w { w with drawn:=w.drawn+1 }:=⟨rfl,rfl,rfl,Nat.le_refl _,fun _ _=>rfl⟩
  refine ⟨hi.tm,hi.df.below kz,(hi.hp.below kz).rX (fun id c cD=>?_),fun id bm=>hi.fr id (by rw [List.length_append] at bm; omega),hi.kp.below kz,fun id c lc cD n7 dG=>?_,hi.mono⟩
  ·rw [List.getElem?_append] at cD
   split at cD
   ·exact cD
   ·have:=(wc.1 cD).2.1; cases this
  ·rw [List.getElem?_append] at cD
   split at cD
   ·exact hi.own id c lc cD n7 dG
   ·have:=(wc.1 cD).2.1; cases this
 ·unfold gp;have:=List.length_filter_le (fun i=>!DB (Array.replicate ops.size false) i) (List.range ops.size)
  simpa using this
end
open Go Go.RowKit
inductive nM where
 | leaf
 | br (i:Nat) (sub rest:nM)
def nM.alts:nM→List Nat
 | .leaf=>[]
 | .br i _ rest=>i::rest.alts
def um (ops:Array Oper):nM→Nat→Bool→Array Bool→Bool
 | .leaf,_,true,l=>(Region.ready .any ops l).isEmpty
 | .leaf,_,false,_=>true
 | .br _ _ _,0,_,_=>false
 | .br i sub rest,n+1,first,l=>(!first || (Region.ready .any ops l == (nM.br i sub rest).alts)) && um ops sub n true (l.setIfInBounds i true) && um ops rest (n+1) false l
def Ia:List Oper→Nat→(Oper→Prop)→Prop
 | [],_,_=>False
 | o::_,0,k=>k o
 | _::l,i+1,k=>Ia l i k
theorem LR:∀ {l:List Oper} {i:Nat} {k:Oper→Prop},Ia l i k→∃ o,l[i]?=some o∧k o
 | [],i,k,h=>h.elim
 | o::_,0,k,h=>⟨o,rfl,h⟩
 | _::l,i+1,k,h=>by
  obtain ⟨o,h1,J⟩:=LR (l:=l) h;exact ⟨o,by simpa using h1,J⟩
def CK (E:Env) (ops:List Oper):nM→Bool→List Value→aA→SK→Prop
 | .leaf,true,t,H,k=>k t H
 | .leaf,false,_,_,_=>True
 | .br i sub rest,_,t,H,k=>(Ia ops i fun o=>xh E ops o t H fun t' H'=>CK E ops sub true t' H' k)∧CK E ops rest false t H k
def cK (E:Env) (ops:List Oper) (t:List Value) (H:aA) (k:SK):Prop :=
 OO E ops t H k∨(∃ T:nM,um ops.toArray T ops.length true (Array.replicate ops.length false)=true∧CK E ops T true t H k)∨OP E ops t H k∨OQ E ops t H k
section
variable {P:Program} {E:Env} {r:Option Nat} {n:Nat} {F:Fr}
theorem SO (hE:jJ P E) (bM:kL F E) {ops:Array Oper} {Q:Exit→Act→World→Prop} {k:SK} (hk:∀ ν t' H' a' w',bw F ν t' H' a' w'→k t' H'→Q .normal a' w') :
  ∀ (T:nM) (fuel:Nat) (first:Bool) (aF:Array Bool) (ν:Nu) (t:List Value) (H:aA) (a:Act) (w:World),um ops T fuel first aF=true→bw F ν t H a w→CK E ops.toList T first t H k →
  (first=true→wpAnyIn (WF r) n P .any ops Q fuel aF a w)∧(first=false→∀ m,fuel=m+1→∀ i∈T.alts,wpOpIn (WF r) n P ops Q i (wpAnyIn (WF r) n P .any ops Q m (aF.setIfInBounds i true)) a w):=by
 intro T
 induction T with
 | leaf =>
  intro fuel first aF ν t H a w bf hi h;cases first with
  | true =>
   refine ⟨fun _=>?_,fun h=>by cases h⟩
   have hr:Region.ready .any ops aF=[]:=by
    have:(Region.ready .any ops aF).isEmpty=true:=by simpa [um] using bf
    simpa using this
   have hq:Q .normal a w:=hk _ _ _ _ _ hi h;cases fuel with
   | zero=>exact ⟨hr,hq⟩
   | succ f=>exact ⟨fun _=>hq,fun i aR=>by rw [hr] at aR; cases aR⟩
  | false=>exact ⟨(fun h=>by cases h),fun _ m _ i aR=>by cases aR⟩
 | br j sub rest ihs ihr =>
  intro fuel first aF ν t H a w bf hi h;cases fuel with
  | zero=>simp [um] at bf
  | succ f =>
   simp only [um,Bool.and_eq_true,Bool.or_eq_true] at bf;obtain ⟨⟨h1,J⟩,h3⟩:=bf;obtain ⟨hs,ze⟩:=h;have cS:∀ i∈(nM.br j sub rest).alts,wpOpIn (WF r) n P ops Q i (wpAnyIn (WF r) n P .any ops Q f (aF.setIfInBounds i true)) a w:=by
    intro i aR;simp only [nM.alts,List.mem_cons] at aR;rcases aR with rfl | aR
    ·obtain ⟨o,ho,hs⟩:=LR hs;unfold wpOpIn;have Je:ops[i]?=some o:=by simpa using ho
     rw [Je];exact EN hE bM hi hs (fun ν t' H' a' w' gW h'=>(ihs f true _ ν t' H' a' w' J gW h').1 rfl)
    ·exact (ihr (f+1) false aF ν t H a w h3 hi ze).2 rfl f rfl i aR
   refine ⟨fun hf=>?_,fun _ m hm=>?_⟩
   ·subst hf;have hr:Region.ready .any ops aF=(nM.br j sub rest).alts:=by
     rcases h1 with h1 | h1
     ·cases h1
     ·exact eq_of_beq h1
    refine ⟨(fun hn=>by rw [hr] at hn; cases hn),fun i aR=>cS i (by rw [← hr]; exact aR)⟩
   ·have:f=m:=by omega
    subst this;exact cS
theorem Vi (hm:P.follows .mixedOrders=true):nj P cK:=by
 intro E hE r n F bM ops Q id ν tmps H a w k hi h hk;rcases h with h | ⟨T,bf,h⟩ | h | h
 ·exact Vd hm E hE r n F bM ops Q id ν tmps H a w k hi h hk
 ·refine wpIn_region_any hm ?_;have kz:Below w.heap.size w { w with drawn:=w.drawn+1 }:=⟨rfl,rfl,rfl,Nat.le_refl _,fun _ _=>rfl⟩
  have gW:bw F ν tmps H a { w with drawn:=w.drawn+1 }:=⟨hi.tm,hi.df.below kz,hi.hp.below kz,hi.fr,hi.kp.below kz,hi.own,hi.mono⟩
  have:=(SO (r:=r) (n:=n) hE bM (ops:=ops) hk T ops.toList.length true _ ν tmps H a _ (by simpa using bf) gW h).1 rfl
  simpa using this
 ·exact Vg hm E hE r n F bM ops Q id ν tmps H a w k hi h hk
 ·exact Vh hm E hE r n F bM ops Q id ν tmps H a w k hi h hk
end
open Go Go.RowKit
inductive fe:Value→Value→Prop
 | refl (v:Value):fe v v
 | cap (a:Addr) (n c:Nat) (h:a.spot=none):fe (.slice (some a) n c) (.slice (some a) n aO)
 | two {x y x' y':Value} (h:fe x x') (hs:fe y y'):fe (.tuple ⟨[x,y]⟩) (.tuple ⟨[x',y']⟩)
 | three {x y z x' y' z':Value} (h:fe x x') (hs:fe y y') (hz:fe z z'):fe (.tuple ⟨[x,y,z]⟩) (.tuple ⟨[x',y',z']⟩)
theorem au.Qz {ν:Nu} {xs ys:List Value} (h:bg ν xs ys):au ν (.tuple ⟨xs⟩) (.tuple ⟨ys⟩):=.tuple _ _ h.1 h.2
theorem au.Ib {ν:Nu} {v v':Value} (h:fe v v'):∀ {r},au ν v r→au ν v' r:=by
 induction h with
 | refl v=>exact fun h=>h
 | cap a n c hs =>
  intro r hr;obtain ⟨b,o,sp⟩:=a;have hs:sp=none:=hs;subst hs;cases hr with
  | slice _ _ _ _ c' l h hc hn hr=>exact .slice _ _ _ _ c' l h (.inr rfl) hn hr
  | void _ _ _ a hc=>exact .void _ _ _ a (.inr rfl)
 | two h hs i1 i2 =>
  intro r hr;obtain ⟨ys,rfl,hy⟩:=hr.nC;obtain ⟨a,ys,rfl,k1,hy⟩:=hy.jd;obtain ⟨b,ys,rfl,k2,hy⟩:=hy.jd;rw [hy.iL];exact .Qz (.cons (i1 k1) (.cons (i2 k2) (.nil ν)))
 | three h hs hz i1 i2 i3 =>
  intro r hr;obtain ⟨ys,rfl,hy⟩:=hr.nC;obtain ⟨a,ys,rfl,k1,hy⟩:=hy.jd;obtain ⟨b,ys,rfl,k2,hy⟩:=hy.jd;obtain ⟨c,ys,rfl,k3,hy⟩:=hy.jd;rw [hy.iL];exact .Qz (.cons (i1 k1) (.cons (i2 k2) (.cons (i3 k3) (.nil ν))))
def iT (S:cG) (i:S.ι) (v:Value) (H:aA):Prop :=
 match S.new i with
 | none=>∃ v',cR (List.range (S.ae i).length) 3 (S.val i)=some v'∧fe v v'
 | some b=>∃ p,gA H p fun c=>(c.own=true∧ar b c)∧∃ v',cR (List.range (S.ae i).length++[p]) 3 (S.val i)=some v'∧fe v v'
section
variable {P:Program} {E:Env} {D:Env→List Oper→List Value→aA→SK→Prop}
theorem tC {l:List aj} {id:Nat} {b:aj} (h:(l.map some)[id]?=some (some b)):l[id]?=some b:=by
 rw [List.getElem?_map] at h;cases e:l[id]? with
 | none=>rw [e] at h; cases h
 | some b'=>rw [e] at h; simp at h; rw [h]
theorem Ub {m p j:Nat} (h:j < m):(List.range m++[p])[j]?=some j:=by
 rw [List.getElem?_append_left (by simpa using h),List.getElem?_range h]
theorem eI {S:cG} (hE:EnvOk P E) (hD:nj P D) {f:FuncId} {fn:Func} (hf:P.funcs[f]?=some fn) (n5:∀ args w,(callFunc f args).run P w=.ok (.enter f args) w)
  (nk:∀ i b,b∈S.ae i→b.own=false) (sS:∀ i b,S.new i=some b→b.iN=true)
  (h:∀ i,S.pre i→cl E D fn (S.args i) ((S.ae i).map some) (iT S i))
  (hI:gG P E:=by exact gG.none rfl) (hy:E.ys=[]:=by rfl) (hu:E.nu=(fun _=>none):=by rfl):dk P f S:=by
 refine ⟨n5,nk,sS,fun i hp ν as w n has hH gi=>?_⟩
 refine yq (O:=fun _=>False) (ν:=ν) (hE.x hI hy) hD hf (h i hp) has hH (fun id bm=>gi id (by simpa using bm)) (fun id b l hb ho=>?_) (BT hu) ?_
 ·rw [nk i b (List.mem_of_getElem? (tC hb))] at ho; cases ho
 intro ak v v' t H' a w' hi hk hv;have hb:Below w.heap.size w w':=⟨hi.kp.os,hi.kp.tape,hi.kp.output,hi.kp.size,fun k hk=>hi.kp.aJ k hk (fun h=>h)⟩
 unfold iT at hk
 split at hk
 ·rename_i dx;obtain ⟨v2,nQ,Aj⟩:=hk;have h1:=wo 3 _ _ _ nQ (au.Ib Aj hv);refine ⟨v',ν,rfl,⟨ν.le_refl,fun _ _=>rfl,h1.mono (fun j lj hj=>?_),hb,fun _=>rfl,(fun b hb=>by rw [dx] at hb; cases hb)⟩⟩
  unfold Nu.comp at hj;by_cases al:j < (S.ae i).length
  ·rw [List.getElem?_range al] at hj;have hj:ak j=some lj:=hj;obtain ⟨l0,e1,_⟩:=hH.aJ j ((S.ae i)[j]) (by simp [al])
   have:=hi.mono j l0 e1;rw [hj] at this; cases this;exact e1
  ·have:(List.range (S.ae i).length)[j]?=none:=List.getElem?_eq_none (by simp; omega)
   rw [this] at hj; cases hj
 ·rename_i b dx;obtain ⟨p,hk⟩:=hk;obtain ⟨c,hc,⟨ho,hle⟩,v2,nQ,Aj⟩:=gu hk;obtain ⟨l,hl,hB⟩:=hi.hp.aJ p c hc;have vp:ν (S.ae i).length=none:=gi _ (Nat.le_refl _);refine ⟨v',ν.add (S.ae i).length l,rfl,⟨Nu.jX vp,fun id bm=>Nu.iM bm,?_,hb,(fun h=>by rw [dx] at h; cases h),(fun b' bA=>?_)⟩⟩
  ·have h1:=wo 3 _ _ _ nQ (au.Ib Aj hv);refine h1.mono (fun j lj hj=>?_)
   unfold Nu.comp at hj;rcases Nat.lt_trichotomy j (S.ae i).length with al | he | Qa
   ·rw [Ub al] at hj;have hj:ak j=some lj:=hj;obtain ⟨l0,e1,_⟩:=hH.aJ j ((S.ae i)[j]) (by simp [al])
    have:=hi.mono j l0 e1;rw [hj] at this; cases this;rw [Nu.iM (by omega)]; exact e1
   ·subst he;have:(List.range (S.ae i).length++[p])[(S.ae i).length]?=some p:=by simp
    rw [this] at hj;have hj:ak p=some lj:=hj;rw [hl] at hj; cases hj;exact Nu.add_same
   ·have:(List.range (S.ae i).length++[p])[j]?=none:=List.getElem?_eq_none (by simp; omega)
    rw [this] at hj; cases hj
  ·rw [dx] at bA; cases bA;refine ⟨l,Nu.add_same,hB.le ⟨hle,by have:=sS i b dx; cases b <;> first | rfl | cases this⟩,?_⟩
   rcases hi.own p c l hc ho hl with h | h
   ·exact h.elim
   ·exact h
structure zf where
 ι:Type
 args:ι→List Value
 ae:ι→List aj
 pre:ι→Prop
 val:ι→Value
 post:ι→List aj
 new:ι→List aj
def xj (H:aA):List Nat→List aj→List aj→(aA→Prop)→Prop
 | [],[],[],k=>k H
 | s::σ,b::bs,p::ps,k=>match b.own with
  | true=>match p with
   | .cc _=>False
   | p=>jl H s (some p) fun H'=>xj H' σ bs ps k
  | false=>xj H σ bs ps k
 | _,_,_,_=>False
def BV (H:aA):List aj→(aA→Prop)→Prop
 | [],k=>k H
 | b::bs,k=>match b with
  | .cc _=>False
  | b=>oR H (some b) fun H'=>BV H' bs k
def wW:Nat→Nat→List Nat
 | _,0=>[]
 | a,n+1=>a::wW (a+1) n
def C9:List aj→Nat
 | []=>0
 | _::l=>C9 l+1
def Ak (S:zf):FT:=fun args H K=>∃ (i:S.ι) (σ:List Nat),mg σ 3 (S.args i)=some args∧S.pre i∧σ.Nodup∧y5 H σ (S.ae i) (jm H fun n0=>xj H σ (S.ae i) (S.post i) fun H1=>BV H1 (S.new i) fun H2 =>
 ∃ v,cR (σ++wW n0 (C9 (S.new i))) 3 (S.val i)=some v∧pY v fun v=>K v H2)
def zF (S:zf) (i:S.ι) (v:Value) (H:aA):Prop :=
 ∃ ps:List Nat,ps.Nodup∧(∀ p∈ps,(S.ae i).length≤p)∧ps.length=(S.new i).length ∧
  (∀ (j:Nat) (b q:aj),(S.ae i)[j]?=some b→(S.post i)[j]?=some q→b.own=true→∃ c,H[j]?=some (some c)∧c.own=true∧ar q c) ∧
  (∀ (j p:Nat) (b:aj),ps[j]?=some p→(S.new i)[j]?=some b→∃ c,H[p]?=some (some c)∧c.own=true∧ar b c) ∧
  ∃ v',cR (List.range (S.ae i).length++ps) 3 (S.val i)=some v'∧fe v v'
theorem K5:∀ {n a j:Nat},(wW a n)[j]?=if j < n then some (a+j) else none
 | 0,a,j=>by simp [wW]
 | n+1,a,0=>by simp [wW]
 | n+1,a,j+1=>by
  have:=K5 (n:=n) (a:=a+1) (j:=j);simp only [wW,List.getElem?_cons_succ,this];by_cases h:j < n
  ·rw [if_pos h,if_pos (by omega)]; congr 1; omega
  ·rw [if_neg h,if_neg (by omega)]
theorem Ns:∀ {l:List aj},C9 l=l.length
 | []=>rfl
 | _::l=>by simp [C9,Ns (l:=l)]
theorem Kc:∀ {bs:List aj} {H:aA} {k:aA→Prop},BV H bs k→k (H++bs.map some)∧∀ b∈bs,b.rc=none
 | [],H,k,h=>by
  have h:k H:=h;exact ⟨by simpa using h,fun b hb=>by cases hb⟩
 | b::bs,H,k,h=>by
  have h:b.rc=none∧oR H (some b) fun H'=>BV H' bs k:=by
   cases b with
   | aS o e r=>exact ⟨rfl,h⟩
   | flat o n e g=>exact ⟨rfl,h⟩
   | cc r=>exact h.elim
  have:=Kc (bs:=bs) (yc h.2);refine ⟨by simpa using this.1,fun c hc=>?_⟩
  rcases List.mem_cons.1 hc with rfl | hc
  ·exact h.1
  ·exact this.2 c hc
theorem ER:∀ {σ:List Nat} {bs ps:List aj} {H:aA} {k:aA→Prop},σ.Nodup→xj H σ bs ps k→∃ H1,k H1∧H1.length=H.length∧(∀ id,id ∉ σ→H1[id]?=H[id]?) ∧
  ∀ (j s:Nat) (b:aj),σ[j]?=some s→bs[j]?=some b→(b.own=true→∃ p,ps[j]?=some p∧H1[s]?=some (some p)∧p.rc=none)∧(b.own=false→H1[s]?=H[s]?)
 | [],[],[],H,k,_,h=>⟨H,h,rfl,fun _ _=>rfl,fun j s b hj=>by simp at hj⟩
 | s::σ,b::bs,p::ps,H,k,hn,h=>by
  obtain ⟨hs,hn⟩:=List.nodup_cons.1 hn;unfold xj at h
  split at h
  ·rename_i ho;have Jf:p.rc=none∧jl H s (some p) fun H'=>xj H' σ bs ps k:=by
    cases p with
    | aS o e r=>exact ⟨rfl,h⟩
    | flat o n e g=>exact ⟨rfl,h⟩
    | cc r=>exact h.elim
   obtain ⟨Jf,h⟩:=Jf;obtain ⟨al,h⟩:=lT h;obtain ⟨H1,h1,J,h3,h4⟩:=ER hn h;refine ⟨H1,h1,by rw [J]; simp,fun id bm=>?_,fun j s' b' hj hb=>?_⟩
   ·rw [List.mem_cons,not_or] at bm;rw [h3 id bm.2,List.getElem?_set_ne (Ne.symm bm.1)]
   ·cases j with
    | zero =>
     simp at hj hb; subst hj; subst hb;refine ⟨fun _=>⟨p,rfl,?_,Jf⟩,(fun h=>by rw [ho] at h; cases h)⟩
     rw [h3 s hs,List.getElem?_set_self al]
    | succ j =>
     obtain ⟨h5,h6⟩:=h4 j s' b' (by simpa using hj) (by simpa using hb)
     refine ⟨fun h=>by simpa using h5 h,fun h=>?_⟩
     rw [h6 h,List.getElem?_set_ne];intro e;subst e;exact hs (List.mem_of_getElem? (by simpa using hj))
  ·rename_i ho;obtain ⟨H1,h1,J,h3,h4⟩:=ER hn h;refine ⟨H1,h1,J,fun id bm=>?_,fun j s' b' hj hb=>?_⟩
   ·rw [List.mem_cons,not_or] at bm;exact h3 id bm.2
   ·cases j with
    | zero =>
     simp at hj hb; subst hj; subst hb;exact ⟨(fun h=>by rw [ho] at h; cases h),fun _=>h3 s hs⟩
    | succ j=>simpa using h4 j s' b' (by simpa using hj) (by simpa using hb)
 | [],_::_,_,H,k,_,h=>by cases h
 | [],[],_::_,H,k,_,h=>by cases h
 | _::_,[],_,H,k,_,h=>by cases h
 | _::_,_::_,[],H,k,_,h=>by cases h
theorem Oa {S:zf} (hE:EnvOk P E) (hD:nj P D) {f:FuncId} {fn:Func} (hf:P.funcs[f]?=some fn) (n5:∀ args w,(callFunc f args).run P w=.ok (.enter f args) w)
  (h:∀ i,S.pre i→cl E D fn (S.args i) ((S.ae i).map some) (zF S i))
  (hI:gG P E:=by exact gG.none rfl) (hy:E.ys=[]:=by rfl) (hu:E.nu=(fun _=>none):=by rfl):gf P f (Ak S):=by
 refine ⟨n5,fun args H K hFT ν as w n O has hH gi j8=>?_⟩
 obtain ⟨i,σ,nQ,hp,mz,n4⟩:=hFT;obtain ⟨hlen,hσ,n4⟩:=EJ n4;obtain ⟨H1,n4,kf,adI,PA⟩:=ER mz (lU n4);obtain ⟨⟨v2,OR,hK⟩,adJ⟩:=Kc n4;have hK:=vP hK;rw [Ns] at OR;have nL:=tQ (wo (ν:=ν) 3) nQ has
 -- the callee's blocks
 let Oc:Nat→Prop:=fun x=>∃ (j s:Nat) (b:aj) (l:Loc),σ[j]?=some s∧(S.ae i)[j]?=some b∧b.own=true∧ν s=some l∧x=l.aJ
 have sH:∀ (j:Nat) (b:aj),(S.ae i)[j]?=some b→∃ s,σ[j]?=some s∧∃ c l,H[s]?=some (some c)∧Ck b c∧ν s=some l∧bN ν l c w:=by
  intro j b hb;have al:j < σ.length:=by rw [hlen]; exact (List.getElem?_eq_some_iff.1 hb).1
  obtain ⟨c,h1,J⟩:=hσ j _ b (List.getElem?_eq_getElem al) hb;obtain ⟨l,h3,h4⟩:=hH.aJ _ _ h1;exact ⟨_,List.getElem?_eq_getElem al,c,l,h1,J,h3,h4⟩
 have mV:∀ (j s:Nat),σ[j]?=some s→(ν.comp σ) j=ν s:=fun j s hj=>by simp [Nu.comp,hj]
 have Jg:bQ (ν.comp σ) ((S.ae i).map some) w:=by
  refine ⟨fun j b hj=>?_,fun j q bj bq lj lq hj hq aI ho e1 e2=>?_⟩
  ·obtain ⟨s,h1,c,l,J,h3,h4,h5⟩:=sH j b (tC hj);exact ⟨l,by rw [mV j s h1,h4],h5.le h3⟩
  ·obtain ⟨s,h1,c,l,J,h3,h4,h5⟩:=sH j bj (tC hj);obtain ⟨s',fc,c',l',jO,sY,qT,Al⟩:=sH q bq (tC hq);rw [mV j s h1,h4] at e1; obtain rfl:=Option.some.inj e1;rw [mV q s' fc,qT] at e2; obtain rfl:=Option.some.inj e2;refine hH.sep s s' c c' _ _ J jO (fun e=>aI ?_) (aj.cX (h3.own ho).1).1 h4 qT
   subst e;exact (List.getElem?_inj (List.getElem?_eq_some_iff.1 h1).1 mz).1 (h1.trans fc.symm)
 have adK:∀ id,((S.ae i).map some).length≤id→(ν.comp σ) id=none:=by
  intro id bm;rw [List.length_map] at bm;simp [Nu.comp,List.getElem?_eq_none (show σ.length≤id by omega)]
 have ab5:∀ id b l,((S.ae i).map some)[id]?=some (some b)→b.own=true→(ν.comp σ) id=some l→Oc l.aJ:=by
  intro id b l hb ho hl;obtain ⟨s,h1,c,l',J,h3,h4,h5⟩:=sH id b (tC hb);rw [mV id s h1,h4] at hl; obtain rfl:=Option.some.inj hl;exact ⟨id,s,b,_,h1,tC hb,ho,h4,rfl⟩
 have qS:∀ x,Oc x→O x:=by
  rintro x ⟨j,s,b,l,h1,J,h3,h4,rfl⟩
  obtain ⟨s',fc,c,l',jO,sY,qT,_⟩:=sH j b J;rw [h1] at fc; cases fc;exact j8 s c l jO (aj.cX (sY.own h3).1).1 h4
 refine yq (O:=Oc) (ν:=ν.comp σ) (hE.x hI hy) hD hf (h i hp) nL Jg adK ab5 (BT hu) ?_;intro dQ v v' t H' a w' hi hk hv;obtain ⟨ps,hpn,adL,kN,ab6,dx,v3,ab7,Aj⟩:=hk;have sG:(ν.comp σ).le dQ:=hi.mono
 let ak:Nu:=fun id=>if id < H.length then ν id else (ps[id - H.length]?).bind dQ
 have uo:∀ id,id < H.length→ak id=ν id:=fun id h=>by simp only [ak]; rw [if_pos h]
 have rU:∀ j p,ps[j]?=some p→ak (H.length+j)=dQ p:=fun j p h=>by
  simp only [ak]; rw [if_neg (by omega),Nat.add_sub_cancel_left,h]; rfl
 have Ht:ν.le ak:=by
  intro id l bm;have:id < H.length:=by
   rcases Nat.lt_or_ge id H.length with h | h
   ·exact h
   ·rw [gi id h] at bm; cases bm
  rw [uo id this]; exact bm
 -- own blocks of the arguments, behind the call
 have OS:∀ (j s:Nat) (b:aj) (l:Loc),σ[j]?=some s→(S.ae i)[j]?=some b→b.own=true→ν s=some l→∃ q c,(S.post i)[j]?=some q∧H1[s]?=some (some q)∧H'[j]?=some (some c)∧c.own=true∧Ck q c∧dQ j=some l:=by
  intro j s b l h1 J h3 h4;obtain ⟨q,h5,h6,h60⟩:=(PA j s b h1 J).1 h3;obtain ⟨c,h7,h8,h9⟩:=ab6 j b q J h5 h3;exact ⟨q,c,h5,h6,h7,h8,⟨h9,h60⟩,sG j l (by rw [mV j s h1]; exact h4)⟩
 -- a block that the callee does not own has not turned
 have Hr:∀ (id:Nat) (b:aj) (l:Loc),H[id]?=some (some b)→ν id=some l→(∀ (j:Nat) (c:aj),σ[j]?=some id→(S.ae i)[j]?=some c→c.own=false)→¬ Oc l.aJ∧w'.heap[l.aJ]?=w.heap[l.aJ]?:=by
  intro id b l hb hl ob;obtain ⟨l0,e1,hB⟩:=hH.aJ id b hb;rw [hl] at e1; cases e1;have QA:¬ Oc l.aJ:=by
   rintro ⟨j,s,bj,lj,h1,J,h3,h4,h5⟩
   obtain ⟨s',fc,c,l',jO,sY,qT,_⟩:=sH j bj J;rw [h1] at fc; cases fc;have aI:s≠id:=by
    intro e;subst e;have:=ob j bj h1 J;rw [h3] at this; cases this
   exact hH.sep s id c b lj l jO hb aI (aj.cX (sY.own h3).1).1 h4 hl h5.symm
  exact ⟨QA,hi.kp.aJ _ hB.live QA⟩
 -- the callee's new blocks
 have ab8:∀ (j p:Nat) (b:aj),ps[j]?=some p→(S.new i)[j]?=some b→∃ c l,H'[p]?=some (some c)∧c.own=true∧ar b c∧dQ p=some l∧bN dQ l c w'∧w.heap.size≤l.aJ:=by
  intro j p b h1 J;obtain ⟨c,h3,h4,h5⟩:=dx j p b h1 J;obtain ⟨l,h6,h7⟩:=hi.hp.aJ p c h3;refine ⟨c,l,h3,h4,h5,h6,h7,?_⟩;rcases hi.own p c l h3 h4 h6 with ⟨j',s,b',l',k1,k2,k3,k4,k5⟩ | h
  ·obtain ⟨q,c',_,_,k6,k7,_,k8⟩:=OS j' s b' l' k1 k2 k3 k4;have al:j' < (S.ae i).length:=(List.getElem?_eq_some_iff.1 k2).1;have:=adL p (List.mem_of_getElem? h1);exact absurd k5 (hi.hp.sep p j' c c' l l' h3 k6 (by omega) h4 h6 k8)
  ·exact h
 -- which blocks there are behind the call
 have xg:∀ (id:Nat) (b:aj),(H1++(S.new i).map some)[id]?=some (some b)→
   (id < H.length∧∃ b0 l,H[id]?=some (some b0)∧ν id=some l∧(b.own=true→b0.own=true)∧bN ak l b w'∧((∃ (j:Nat) (bj:aj),σ[j]?=some id∧(S.ae i)[j]?=some bj∧bj.own=true)∨(¬ Oc l.aJ∧l.aJ < w.heap.size))) ∨
   (∃ (j p:Nat) (c:aj) (l:Loc),id=H.length+j∧ps[j]?=some p∧(S.new i)[j]?=some b∧H'[p]?=some (some c)∧c.own=true∧dQ p=some l∧bN ak l b w'∧w.heap.size≤l.aJ):=by
  intro id b hb;rw [List.getElem?_append] at hb
  split at hb
  ·rename_i al;rw [kf] at al;refine .inl ⟨al,?_⟩;by_cases gB:∃ (j:Nat) (bj:aj),σ[j]?=some id∧(S.ae i)[j]?=some bj∧bj.own=true
   ·obtain ⟨j,bj,h1,J,h3⟩:=gB;obtain ⟨s',fc,c,l,h4,h5,h6,h7⟩:=sH j bj J;rw [h1] at fc; cases fc;obtain ⟨q,c',h8,h9,Am,QC,h12,h13⟩:=OS j id bj l h1 J h3 h6;rw [h9] at hb; cases hb;obtain ⟨l',QD,h15⟩:=hi.hp.aJ j c' Am;rw [h13] at QD; cases QD;exact ⟨c,l,h4,h6,fun _=>(aj.cX (h5.own h3).1).1,h15.le h12,.inl ⟨j,bj,h1,J,h3⟩⟩
   ·have ob:∀ (j:Nat) (c:aj),σ[j]?=some id→(S.ae i)[j]?=some c→c.own=false:=by
     intro j c h1 J;cases h:c.own with
     | false=>rfl
     | true=>exact absurd ⟨j,c,h1,J,h⟩ gB
    have Jh:H[id]?=some (some b):=by
     by_cases ph:id∈σ
     ·obtain ⟨j,hj⟩:=List.getElem?_of_mem ph;have Iz:j < (S.ae i).length:=by rw [← hlen]; exact (List.getElem?_eq_some_iff.1 hj).1
      have:=(PA j id _ hj (List.getElem?_eq_getElem Iz)).2 (ob j _ hj (List.getElem?_eq_getElem Iz));rw [← this]; exact hb
     ·rw [← adI id ph]; exact hb
    obtain ⟨l,h1,J⟩:=hH.aJ id b Jh;obtain ⟨h3,h4⟩:=Hr id b l Jh h1 ob;exact ⟨b,l,Jh,h1,fun h=>h,(J.same h4 hi.kp.size).mono Ht,.inr ⟨h3,J.live⟩⟩
  ·rename_i dH;rw [kf] at hb dH;have hb:=tC hb;have al:id - H.length < ps.length:=by rw [kN]; exact (List.getElem?_eq_some_iff.1 hb).1
   obtain ⟨c,l,h1,J,h3,h4,h5,h6⟩:=ab8 _ _ b (List.getElem?_eq_getElem al) hb;exact .inr ⟨id - H.length,_,c,l,by omega,List.getElem?_eq_getElem al,hb,h1,J,h4,h5.le ⟨h3,adJ b (List.mem_of_getElem? hb)⟩,h6⟩
 have aep:∀ (j p:Nat),ps[j]?=some p→ak (H.length+j)=dQ p:=rU;refine ⟨v2,v',ak,H1++(S.new i).map some,rfl,hK,?_,Ht,⟨fun id b hb=>?_,fun p q bp bq lp lq ID IJ aI ho e1 e2=>?_⟩,fun id bm=>?_,⟨hi.kp.os,hi.kp.tape,hi.kp.output,hi.kp.size,fun b h1 J=>hi.kp.aJ b h1 (fun h=>J (qS b h))⟩,fun id b l hb ho hl=>?_⟩
 ·have h1:=wo 3 _ _ _ ab7 (au.Ib Aj hv);refine FF 3 _ _ _ OR (h1.mono (fun j lj hj=>?_))
  unfold Nu.comp at hj ⊢;by_cases al:j < (S.ae i).length
  ·rw [List.getElem?_append_left (by simpa using al),List.getElem?_range al] at hj
   have hj:dQ j=some lj:=hj;obtain ⟨s,J,c,l,h3,h4,h5,_⟩:=sH j _ (List.getElem?_eq_getElem al);have:=sG j l (by rw [mV j s J]; exact h5)
   rw [hj] at this; cases this;rw [List.getElem?_append_left (List.getElem?_eq_some_iff.1 J).1,J];exact Ht s lj h5
  ·rw [List.getElem?_append_right (by simp; omega)] at hj
   rw [List.length_range] at hj;rw [List.getElem?_append_right (by omega),K5,hlen]
   cases sV:ps[j - (S.ae i).length]? with
   | none=>rw [sV] at hj; cases hj
   | some p =>
    rw [sV] at hj;have hj:dQ p=some lj:=hj;have:=(List.getElem?_eq_some_iff.1 sV).1;rw [if_pos (by omega)]
    show ak (H.length+(j - (S.ae i).length))=_
    rw [rU _ _ sV]; exact hj
 ·rcases xg id b hb with ⟨al,b0,l,h1,J,_,h3,_⟩ | ⟨j,p,c,l,rfl,h1,J,h3,h4,h5,h6,h7⟩
  ·exact ⟨l,by rw [uo id al]; exact J,h3⟩
  ·exact ⟨l,by rw [rU j p h1]; exact h5,h6⟩
 ·rcases xg p bp ID with ⟨al,b0,l,h1,J,h3,h4,h5⟩ | ⟨j,pp,c,l,rfl,h1,J,h3,h4,h5,h6,h7⟩ <;>
   rcases xg q bq IJ with ⟨qD,QE,l',fc,jO,sY,qT,Al⟩ | ⟨j',pp',c',l',rfl,fc,jO,sY,qT,Al,h6',h7'⟩
  ·rw [uo p al,J] at e1; cases e1;rw [uo q qD,jO] at e2; cases e2;exact hH.sep p q b0 QE _ _ h1 fc aI (h3 ho) J jO
  ·rw [uo p al,J] at e1; cases e1;rw [rU _ _ fc,Al] at e2; cases e2;have:=(hH.aJ p b0 h1);obtain ⟨l0,e3,e4⟩:=this;rw [J] at e3; cases e3;have:=e4.live;omega
  ·rw [rU _ _ h1,h5] at e1; cases e1;rw [uo q qD,jO] at e2; cases e2;obtain ⟨l0,e3,e4⟩:=hH.aJ q QE fc;rw [jO] at e3; cases e3;have:=e4.live;omega
  ·rw [rU _ _ h1,h5] at e1; cases e1;rw [rU _ _ fc,Al] at e2; cases e2;refine hi.hp.sep pp pp' c c' _ _ h3 sY (fun e=>aI ?_) h4 h5 Al
   subst e;rw [(List.getElem?_inj (List.getElem?_eq_some_iff.1 h1).1 hpn).1 (h1.trans fc.symm)]
 ·rw [List.length_append,List.length_map,kf] at bm;simp only [ak];rw [if_neg (by omega),List.getElem?_eq_none (by omega)]
  rfl
 ·rcases xg id b hb with ⟨al,b0,l',h1,J,h3,_⟩ | ⟨j,p,c,l',rfl,h1,J,h3,h4,h5,h6,h7⟩
  ·rw [uo id al,J] at hl; cases hl;exact .inl (j8 id b0 _ h1 (h3 ho) J)
  ·rw [rU j p h1,h5] at hl; cases hl;exact .inr h7
end
open Go Go.RowKit
def BW (P:Program) (g:TypeId→Option (Bool × List Value)):Nat→List Field→Option (List Value)
 | _,[]=>some []
 | o, f :: l => match Nat.beq f.offset o && (f.name != "_"), g f.type, P.info? f.type, P.underlying f.type with
  | true,some (b,z),some i,some d=>match Nat.beq i.size z.length && (ui d == b) && Nat.ble 1 z.length with
   | true=>match BW P g (o+z.length) l with
    | some zs=>some (z++zs)
    | none=>none
   | false=>none
  | _,_,_,_=>none
def xk (P:Program):Nat→TypeId→Option (Bool × List Value)
 | 0,_=>none
 | d+1,t=>match P.underlying t with
  | some .bool=>some (false,[.bool false])
  | some (.int q)=>some (false,[.int q 0])
  | some .string=>some (false,[.string ⟨#[]⟩])
  | some (.struct fs)=>match P.stoodInHeld t with
   | true=>none
   | false=>match BW P (xk P d) 0 fs.toList with
    | some z=>some (true,z)
    | none=>none
  | _=>none
theorem rA:∀ {l m:List Value},eZ l m=true→l.length=m.length
 | [],[],_=>rfl
 | .bool _::l,.bool _::m,h=>by simp [rA (l:=l) (m:=m) h]
 | .int q _::l,.int q' _::m,h=>by
  simp only [eZ,Bool.and_eq_true] at h;simp [rA (l:=l) (m:=m) h.2]
 | .string _::l,.string _::m,h=>by simp [rA (l:=l) (m:=m) h]
def Ji (x v:Value):Prop:=(∃ a b,x=.bool a∧v=.bool b)∨(∃ q a b,x=.int q a∧v=.int q b)∨∃ a b,x=.string a∧v=.string b
theorem Cp {xs z:List Value} {v:Value} (h:eZ xs (v::z)=true):∃ x l,xs=x::l∧Ji x v∧eZ l z=true:=by
 generalize e:v::z=w at h;unfold eZ at h
 split at h
 ·cases e
 ·cases e; exact ⟨_,_,rfl,.inl ⟨_,_,rfl,rfl⟩,h⟩
 ·cases e;simp only [Bool.and_eq_true,decide_eq_true_eq] at h;obtain ⟨rfl,h⟩:=h;exact ⟨_,_,rfl,.inr (.inl ⟨_,_,_,rfl,rfl⟩),h⟩
 ·cases e; exact ⟨_,_,rfl,.inr (.inr ⟨_,_,rfl,rfl⟩),h⟩
 ·cases h
theorem GQ {xs:List Value} (h:eZ xs []=true):xs=[]:=List.length_eq_zero_iff.1 (rA h)
theorem WI {x v:Value} {l z:List Value} (h:Ji x v) (J:eZ l z=true):eZ (x::l) (v::z)=true:=by
 rcases h with ⟨a,b,rfl,rfl⟩ | ⟨q,a,b,rfl,rfl⟩ | ⟨a,b,rfl,rfl⟩
 ·exact J
 ·simp only [eZ,decide_true,Bool.true_and]; exact J
 ·exact J
theorem D4:∀ {z xs zs:List Value},eZ xs (z++zs)=true→∃ x1 x2,xs=x1++x2∧eZ x1 z=true∧eZ x2 zs=true
 | [],xs,zs,h=>⟨[],xs,rfl,rfl,h⟩
 | v::z,xs,zs,h=>by
  obtain ⟨x,l,rfl,h1,J⟩:=Cp (z:=z++zs) h;obtain ⟨x1,x2,rfl,h3,h4⟩:=D4 J;exact ⟨x::x1,x2,rfl,WI h1 h3,h4⟩
theorem JW:∀ {z x1 y1 x2 y2:List Value},eZ x1 z=true→eZ y1 z=true→eT (x1++x2) (y1++y2)=(eT x1 y1 && eT x2 y2)
 | [],x1,y1,x2,y2,h1,J=>by
  rw [GQ h1,GQ J];simp [eT]
 | v::z,x1,y1,x2,y2,h1,J=>by
  obtain ⟨x,l,rfl,a1,a2⟩:=Cp h1;obtain ⟨y,m,rfl,b1,b2⟩:=Cp J;have ih:=JW (x2:=x2) (y2:=y2) a2 b2;rcases a1 with ⟨p,_,rfl,rfl⟩ | ⟨q,p,_,rfl,rfl⟩ | ⟨p,_,rfl,rfl⟩
  all_goals
   rcases b1 with ⟨r,_,rfl,e⟩ | ⟨q',r,_,rfl,e⟩ | ⟨r,_,rfl,e⟩
  all_goals first | (cases e; done) | skip
  all_goals
   simp only [List.cons_append,eT,ih,Bool.and_assoc]
theorem wX {xs:List Value} {v:Value} (h:eZ xs [v]=true):∃ x,xs=[x]∧Ji x v:=by
 obtain ⟨x,l,rfl,h1,J⟩:=Cp h;rw [GQ J];exact ⟨x,rfl,h1⟩
def toV (b:Bool) (xs:List Value):Value:=if b then .agg ⟨xs⟩ else xs.getD 0 undef
theorem Kd {P:Program} {d:Nat} (ih:∀ t b z,xk P d t=some (b,z)→∀ n xs ys w,eZ xs z=true→eZ ys z=true→(Op.equalIn (n+d) t (toV b xs) (toV b ys)).run P w=.ok (eT xs ys) w) (n:Nat) (w:World) (XS YS:List Value) :
  ∀ (l:List Field) (o:Nat) (z:List Value),BW P (xk P d) o l=some z→∀ xs ys,eZ xs z=true→eZ ys z=true→(∀ j v,xs[j]?=some v→XS[o+j]?=some v)→(∀ j v,ys[j]?=some v→YS[o+j]?=some v) →
   (Op.eqFields (n+d) ⟨XS⟩ ⟨YS⟩ l).run P w=.ok (eT xs ys) w
 | [],o,z,h,xs,ys,h1,J,_,_=>by
  cases h;have e1:=rA h1;have e2:=rA J;have e1:xs=[]:=List.length_eq_zero_iff.1 e1;have e2:ys=[]:=List.length_eq_zero_iff.1 e2;subst e1; subst e2
  rfl
 | f::l,o,z,h,xs,ys,h1,J,hx,hy=>by
  unfold BW at h
  split at h
  ·rename_i b z1 i dd hb hg hi hu
   split at h
   ·rename_i hc
    split at h
    ·rename_i zs hz;cases h;simp only [Bool.and_eq_true] at hb hc;obtain ⟨⟨c1,c2⟩,c3⟩:=hc;obtain ⟨x1,x2,rfl,jo,nZ⟩:=D4 h1;obtain ⟨y1,y2,rfl,gq,n3⟩:=D4 J;have lx:=rA jo;have ly:=rA gq;have bc:=Nat.eq_of_beq_eq_true c1;have QF:yD P f (o,z1.length,b):=⟨Nat.eq_of_beq_eq_true hb.1,Nat.le_of_ble_eq_true c3,⟨i,hi,bc⟩,dd,hu,by simpa using c2⟩
     have p1:=FD QF (cs:=XS) (vs:=x1) lx (fun j v hv=>hx j v (by rw [List.getElem?_append_left (by rw [List.getElem?_eq_some_iff] at hv; exact hv.1)]; exact hv)) w
     have p2:=FD QF (cs:=YS) (vs:=y1) ly (fun j v hv=>hy j v (by rw [List.getElem?_append_left (by rw [List.getElem?_eq_some_iff] at hv; exact hv.1)]; exact hv)) w
     have p3:=ih f.type b z1 hg n x1 y1 w jo gq;have p4:=Kd ih n w XS YS l (o+z1.length) zs hz x2 y2 nZ n3
      (fun j v hv=>by
       rw [Nat.add_assoc];refine hx _ v ?_;rw [List.getElem?_append_right (by omega),← lx,Nat.add_sub_cancel_left]
       exact hv)
      (fun j v hv=>by
       rw [Nat.add_assoc];refine hy _ v ?_;rw [List.getElem?_append_right (by omega),← ly,Nat.add_sub_cancel_left]
       exact hv)
     have aI : f.name ≠ "_" := by simpa using hb.2
     unfold Op.eqFields;rw [if_pos aI];unfold toV at p3;simp only [Sem.run_bind,p1,p2,Result.andThen_ok];rw [p3];simp only [Result.andThen_ok];rw [JW jo gq];cases eT x1 y1
     ·rfl
     ·simpa using p4
    ·cases h
   ·cases h
  ·cases h
theorem K6 {P:Program}:∀ (d:Nat) (t:TypeId) (b:Bool) (z:List Value),xk P d t=some (b,z)→∀ (n:Nat) (xs ys:List Value) (w:World),eZ xs z=true→eZ ys z=true →
  (Op.equalIn (n+d) t (toV b xs) (toV b ys)).run P w=.ok (eT xs ys) w
 | 0,t,b,z,h=>by cases h
 | d+1,t,b,z,h=>by
  intro n xs ys w h1 J;unfold xk at h
  split at h
  ·rename_i hu;cases h;obtain ⟨x,rfl,a1⟩:=wX h1;obtain ⟨y,rfl,a2⟩:=wX J;rcases a1 with ⟨x,_,rfl,e⟩ | ⟨_,x,_,rfl,e⟩ | ⟨x,_,rfl,e⟩
   all_goals first | (cases e; done) | skip
   rcases a2 with ⟨y,_,rfl,e⟩ | ⟨_,y,_,rfl,e⟩ | ⟨y,_,rfl,e⟩
   all_goals first | (cases e; done) | skip
   ·skip
    rw [show toV false [Value.bool x]=.bool x from rfl,show toV false [Value.bool y]=.bool y from rfl]
    rw [show n+(d+1)=(n+d)+1 from rfl,run_equalIn_bool' w (n+d) t x y hu]
    simp [eT]
  ·rename_i q hu;cases h;obtain ⟨x,rfl,a1⟩:=wX h1;obtain ⟨y,rfl,a2⟩:=wX J;rcases a1 with ⟨x,_,rfl,e⟩ | ⟨q1,x,_,rfl,e⟩ | ⟨x,_,rfl,e⟩
   all_goals first | (cases e; done) | skip
   cases e;rcases a2 with ⟨y,_,rfl,e⟩ | ⟨q2,y,_,rfl,e⟩ | ⟨y,_,rfl,e⟩
   all_goals first | (cases e; done) | skip
   cases e
   ·skip
    rw [show toV false [Value.int q x]=.int q x from rfl,show toV false [Value.int q y]=.int q y from rfl]
    rw [show n+(d+1)=(n+d)+1 from rfl,run_equalIn_int w (n+d) t q q x y hu]
    simp [eT]
  ·rename_i hu;cases h;obtain ⟨x,rfl,a1⟩:=wX h1;obtain ⟨y,rfl,a2⟩:=wX J;rcases a1 with ⟨x,_,rfl,e⟩ | ⟨_,x,_,rfl,e⟩ | ⟨x,_,rfl,e⟩
   all_goals first | (cases e; done) | skip
   rcases a2 with ⟨y,_,rfl,e⟩ | ⟨_,y,_,rfl,e⟩ | ⟨y,_,rfl,e⟩
   all_goals first | (cases e; done) | skip
   ·skip
    rw [show toV false [Value.string x]=.string x from rfl,show toV false [Value.string y]=.string y from rfl]
    rw [show n+(d+1)=(n+d)+1 from rfl,run_equalIn_string w (n+d) t x y hu]
    simp [eT]
  ·rename_i fs hu
   split at h
   ·cases h
   ·rename_i ax
    split at h
    ·rename_i z0 hz;cases h;have vv:P.fieldsOf t=fs:=by unfold Program.fieldsOf; rw [hu]
     show (Op.equalIn (n+(d+1)) t (.agg ⟨xs⟩) (.agg ⟨ys⟩)).run P w=_
     rw [show n+(d+1)=(n+d)+1 from rfl,run_equalIn_struct w (n+d) t ⟨xs⟩ ⟨ys⟩ (by rw [vv]; exact hu) ax,vv]
     exact Kd (K6 d) n w xs ys fs.toList 0 _ hz xs ys h1 J (fun j v hv=>by rw [Nat.zero_add]; exact hv) (fun j v hv=>by rw [Nat.zero_add]; exact hv)
    ·cases h
  ·cases h
theorem adM {P:Program} {t:TypeId} {z:List Value} (h:xk P 5 t=some (true,z)) (hg:P.eqGuardType P.depth t=false):xx P t z:=by
 intro xs ys w h1 J;refine ⟨?_,fun x y op=>run_eqGuard_agg w op t x y ⟨xs⟩ ⟨ys⟩ hg⟩
 exact K6 5 t true z h 9995 xs ys w h1 J
open Go Go.RowKit
def uH:Code→Option (Array Nat × Code × Code)
 | .rangeFunc _ ps a b=>some (ps,a,b)
 | .seq a b=>match uH a with
  | some x=>some x
  | none=>uH b
 | .block _ c=>uH c
 | .loop c=>uH c
 | .cond _ a b=>match uH a with
  | some x=>some x
  | none=>uH b
 | _=>none
def qE (f:Func) (fn:FuncId) (tm:Array Value) (df:Nat):Loop :=
 match f.body with
 | some c=>match uH c with
  | some (ps,a,b)=>⟨.ready,none,fn,tm,ps,a,b,df⟩
  | none=>⟨.ready,none,fn,tm,#[],.skip,.skip,df⟩
 | none=>⟨.ready,none,fn,tm,#[],.skip,.skip,df⟩
def eD (id:Nat):Nat→Value
 | 0=>.slice none 0 0
 | q+1=>.slice (some ⟨id,0,none⟩) (q+1) aO
def zG (e:Nat) (F:Nat→List Value):Nat→aA
 | 0=>[]
 | q+1=>[some (.flat true (q+1) e F)]
end Go.Ae
