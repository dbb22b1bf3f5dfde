import Derived.Laws.StructEq
import Derived.Test.YtlapbjdhekcipaaGreatHB
set_option linter.unusedVariables false
set_option linter.unusedSimpArgs false
namespace Go.Ae
open Go Go.RowKit
def nh (es:List (Option Nat)) (D:Nat→Bool) (i:Nat):Bool:=(List.range es.length).any fun p=>D p && (es.getD p none == some i)
theorem um {es:List (Option Nat)} {D:Nat→Bool} {i:Nat}:nh es D i=true↔∃ p,D p=true∧es[p]?=some (some i):=by
 unfold nh;rw [List.any_eq_true];constructor
 ·rintro ⟨p,hp,h⟩
  rw [Bool.and_eq_true,beq_iff_eq,List.getD_eq_getElem?_getD,List.getElem?_eq_getElem (List.mem_range.1 hp)] at h;exact ⟨p,h.1,by rw [List.getElem?_eq_getElem (List.mem_range.1 hp)]; exact congrArg some h.2⟩
 ·rintro ⟨p,h1,J⟩
  have al:=(List.getElem?_eq_some_iff.1 J).1;refine ⟨p,List.mem_range.2 al,?_⟩;rw [h1,List.getD_eq_getElem?_getD,J];simp
def iY (es:List (Option Nat)) (rs:List c7) (D:Nat→Bool) (m:Nat):List (Option ai):=(List.range m).map fun i=>if D i && !nh es D i then (rs[i]?).bind (·.nb) else none
theorem wS {es:List (Option Nat)} {rs:List c7} {D:Nat→Bool} {m i:Nat} {b:ai}:(iY es rs D m)[i]?=some (some b)↔i < m∧D i=true∧nh es D i=false∧(rs[i]?).bind (·.nb)=some b:=by
 unfold iY;rw [List.getElem?_map];by_cases h:i < m
 ·simp only [List.getElem?_range h,Option.map_some,Option.some.injEq];cases D i <;> cases nh es D i <;> simp [h]
 ·rw [List.getElem?_eq_none (by simp; omega)]
  simp [h]
theorem Bv (es:List (Option Nat)) (rs:List c7) (D:Nat→Bool) (m:Nat):(iY es rs D m).length=m:=by simp [iY]
def iZ (es:List (Option Nat)) (rs:List c7):List (Option ai):=iY es rs (fun i=>decide (i < rs.length)) rs.length
def Ib (ms:List (List Nat)) (j i:Nat):Bool :=
 decide (i < j) && (ms.getD j []).contains i && (List.range ms.length).all fun q=>q == j || !((ms.getD q []).contains i) || (ms.getD j []).contains q
theorem T0 {ms:List (List Nat)} {j i:Nat} (h:Ib ms j i=true):i < j∧i∈ms.getD j []∧∀ q,q≠j→i∈ms.getD q []→q∈ms.getD j []:=by
 unfold Ib at h;simp only [Bool.and_eq_true,decide_eq_true_eq,List.contains_iff_mem,List.all_eq_true,List.mem_range,Bool.or_eq_true,beq_iff_eq,Bool.not_eq_true'] at h;refine ⟨h.1.1,h.1.2,fun q hq hi=>?_⟩
 have al:q < ms.length:=by
  rcases Nat.lt_or_ge q ms.length with h' | h'
  ·exact h'
  ·rw [List.getD_eq_getElem?_getD,List.getElem?_eq_none h'] at hi; cases hi
 rcases h.2 q al with (h' | h') | h'
 ·exact absurd h' hq
 ·rw [List.contains_iff_mem.2 hi] at h'; cases h'
 ·exact h'
def ni (E:Env) (ops:List Oper) (vY:List (List Nat)) (H:ay) (n0:Nat):List Oper→List (List Nat)→Nat→List Value→List (Option ai)→(List Value→List (Option ai)→Prop)→Prop
 | [],_,_,t,S,k=>k t S
 | o::l,mask::aU,j,t,S,k =>
  match o.guard with
  | none=>match isApp o.op with
   | some (ty,x,y)=>lI S 0 mask fun Sm=>nF H Sm fun G=>QG E t G n0 (n0+j) ty x y fun v gp nb=>match gp with
    | some i=>Ib vY j i=true∧dr t o.dst v fun t'=>jv S i none fun S1=>jt S1 nb fun S'=>ni E ops vY H n0 l aU (j+1) t' S' k
    | none=>dr t o.dst v fun t'=>jt S nb fun S'=>ni E ops vY H n0 l aU (j+1) t' S' k
   | none=>lI S 0 mask fun Sm=>nF H Sm fun G=>kZ E o.op t G (n0+j) fun v nb=>dr t o.dst v fun t'=>jt S nb fun S'=>ni E ops vY H n0 l aU (j+1) t' S' k
  | some (g,want)=>match (ops[g]?).bind (·.dst) with
   | some d=>qY t d fun v=>match v with
    | .bool b=>br (b == want)
      (lI S 0 mask fun Sm=>nF H Sm fun G=>kZ E o.op t G (n0+j) fun v nb=>dr t o.dst v fun t'=>jt S nb fun S'=>ni E ops vY H n0 l aU (j+1) t' S' k)
      (dr t o.dst undef fun t'=>jt S none fun S'=>ni E ops vY H n0 l aU (j+1) t' S' k)
    | .tuple _=>dr t o.dst undef fun t'=>jt S none fun S'=>ni E ops vY H n0 l aU (j+1) t' S' k
    | _=>False
   | none=>False
 | _::_,[],_,_,_,_=>False
def PW (E:Env) (ops:List Oper) (t:List Value) (H:ay) (k:SK):Prop :=
 ∃ (m:Nat) (aU:List (List Nat)),C4 ops m aU=true∧jw H fun n0=>vf ops m fun hd tl=>ni E ops aU H n0 hd aU 0 t [] fun t' S=>nF H S fun G=>nq E ops tl t' G k
structure pD (P:Program) (ops:List Oper) (t0:List Value) (H:ay) (aU:List (List Nat)) (rs:List c7) (es:List (Option Nat)) (j:Nat):Prop where
 ok:∃ o r gp,ops[j]?=some o∧rs[j]?=some r∧es[j]?=some gp∧(∀ d,o.dst=some d→d < t0.length) ∧
  ((∃ G:ay,(∀ id b,G[id]?=some (some b)→(id < H.length∧H[id]?=some (some b))∨(∃ i,id=H.length+i∧i < j∧i∈aU.getD j []∧(rs[i]?).bind (·.nb)=some b)) ∧
    (∀ i,gp=some i→i < j∧i∈aU.getD j []∧(∀ q,q≠j→i∈aU.getD q []→q∈aU.getD j [])∧∃ b,G[H.length+i]?=some (some b)∧b.own=true) ∧
    (∀ (ν:Nu) (a:Act) (w:World) (q:Option Nat) (n:Nat),(∀ x∈o.op.operands,fm ν (ba ops rs (fun i=>decide (i < j)) t0 j) a x)→bU ν G w→ν (H.length+j)=none →
     ∀ next Q,(∀ v' w' ak,EPost ν ak (H.length+j) (gp.bind fun i=>ν (H.length+i)) w w' r.v v' r.nb→next (a.put o.dst v') w')→o.wpIn (WF q) n P a w next Q) ∧
    (o.guard=none∨∃ g want d b,o.guard=some (g,want)∧bO ops g=some d∧(ba ops rs (fun i=>decide (i < j)) t0 j)[d]?=some (.bool b)∧(b == want)=true)) ∨
    (gp=none∧r.v=undef∧r.nb=none∧∃ g want d v,o.guard=some (g,want)∧bO ops g=some d∧(ba ops rs (fun i=>decide (i < j)) t0 j)[d]?=some v∧((∃ b,v=.bool b∧(b == want)=false)∨∃ vs,v=.tuple vs)))
theorem pD.more {P:Program} {ops:List Oper} {t0:List Value} {H:ay} {aU:List (List Nat)} {rs:List c7} {es:List (Option Nat)} {j:Nat} (h:pD P ops t0 H aU rs es j) (hj:j < rs.length) (hj2:j < es.length) (r:c7) (e:Option Nat):pD P ops t0 H aU (rs++[r]) (es++[e]) j:=by
 have he:∀ i,i≤j→(rs++[r])[i]?=rs[i]?:=fun i hi=>by rw [List.getElem?_append_left (by omega)]
 have hv:∀ D,ba ops (rs++[r]) D t0 j=ba ops rs D t0 j:=fun D=>uf (fun i hi=>he i (by omega))
 obtain ⟨o,q,gp,h1,J,j3,h3,h4⟩:=h.ok;refine ⟨⟨o,q,gp,h1,by rw [he j (Nat.le_refl _)]; exact J,by rw [List.getElem?_append_left hj2]; exact j3,h3,?_⟩⟩
 rw [hv];rcases h4 with ⟨G,g1,g2,g3,g4⟩ | h4
 ·exact .inl ⟨G,fun id b hb=>(g1 id b hb).imp (fun x=>x) (fun ⟨i,k1,k2,k3,k4⟩=>⟨i,k1,k2,k3,by rw [he i (by omega)]; exact k4⟩),g2,g3,g4⟩
 ·exact .inr h4
def qP (S:List (Option ai)):Option Nat→List (Option ai)
 | some i=>S.set i none
 | none=>S
theorem Vk {es:List (Option Nat)} {rs:List c7} {i:Nat} {b:ai} (h:(iZ es rs)[i]?=some (some b)):(rs[i]?).bind (·.nb)=some b:=(wS.1 h).2.2.2
theorem T1 {es:List (Option Nat)} {rs:List c7} (hl:es.length=rs.length) (al:∀ (p i:Nat),es[p]?=some (some i)→i < p) (r:c7) (e:Option Nat) (he:∀ i,e=some i→i < rs.length) :
  iZ (es++[e]) (rs++[r])=qP (iZ es rs) e++[r.nb]:=by
 have hD:∀ i,i < rs.length+1→decide (i < (rs++[r]).length)=true:=fun i hi=>by simp; omega
 have RB:∀ i,nh (es++[e]) (fun i=>decide (i < (rs++[r]).length)) i=(nh es (fun i=>decide (i < rs.length)) i || e == some i):=fun i=>by
  rw [Bool.eq_iff_iff,Bool.or_eq_true,um,um,beq_iff_eq];constructor
  ·rintro ⟨p,_,J⟩
   rw [List.getElem?_append] at J
   split at J
   ·rename_i hp;exact .inl ⟨p,by simp; omega,J⟩
   ·right
    have:p - es.length=0:=by
     rcases Nat.eq_zero_or_pos (p - es.length) with h | h
     ·exact h
     ·rw [List.getElem?_eq_none (by simp; omega)] at J; cases J
    rw [this] at J
    simpa using J
  ·rintro (⟨p,h1,J⟩ | J)
   ·have:=(List.getElem?_eq_some_iff.1 J).1;exact ⟨p,by simp at h1 ⊢; omega,by rw [List.getElem?_append_left this]; exact J⟩
   ·exact ⟨es.length,by simp; omega,by rw [List.getElem?_append_right (Nat.le_refl _)]; simp [J]⟩
 apply List.ext_getElem?;intro x;have hlen:(qP (iZ es rs) e).length=rs.length:=by
  cases e <;> simp [qP,iZ,Bv]
 unfold iZ iY;rw [List.getElem?_map];by_cases hx:x < rs.length
 ·rw [List.getElem?_range (by simp; omega),List.getElem?_append_left (by cases e <;> simp [qP] <;> omega)]
  simp only [Option.map_some];simp only [RB x,hD x (by omega)]
  rw [List.getElem?_append_left hx];unfold qP;cases e with
  | none =>
   dsimp only
   rw [List.getElem?_map,List.getElem?_range hx];simp [hx]
  | some i =>
   dsimp only
   by_cases JP:i=x
   ·subst JP;rw [List.getElem?_set_self (by simpa using hx)]
    simp
   ·rw [List.getElem?_set_ne JP,List.getElem?_map,List.getElem?_range hx];have:(some i == some x)=false:=by simp [JP]
    rw [this];simp [hx]
 ·by_cases oi:x=rs.length
  ·subst oi;rw [List.getElem?_range (by simp),List.getElem?_append_right (by cases e <;> simp [qP])]
   have aD:nh es (fun i=>decide (i < rs.length)) rs.length=false:=by
    cases h:nh es (fun i=>decide (i < rs.length)) rs.length with
    | false=>rfl
    | true =>
     obtain ⟨p,h1,J⟩:=um.1 h;have:=al p _ J;have:=of_decide_eq_true h1;omega
   have IT:(e == some rs.length)=false:=by
    cases e with
    | none=>rfl
    | some i=>have:=he i rfl; simp; omega
   simp only [Option.map_some];simp only [RB,hD _ (Nat.lt_succ_self _),aD,IT];cases e <;> simp [qP]
  ·rw [List.getElem?_eq_none (by simp; omega),List.getElem?_eq_none (by cases e <;> simp [qP] <;> omega)]; rfl
theorem LM {P:Program} {E:Env} (hE:EnvOk P E) {ops:List Oper} {t0:List Value} {H:ay} {aU:List (List Nat)} {k:List Value→List (Option ai)→Prop} :
  ∀ {l:List Oper} {ms:List (List Nat)} {j:Nat} {rs:List c7} {es:List (Option Nat)},rs.length=j→es.length=j→(∀ (p i:Nat),es[p]?=some (some i)→i < p)→(∀ (i:Nat) o,l[i]?=some o→ops[j+i]?=some o)→(∀ i,i < l.length→ms.getD i []=aU.getD (j+i) []) →
  (∀ i,i < j→pD P ops t0 H aU rs es i)→ni E ops aU H H.length l ms j (ba ops rs (fun i=>decide (i < j)) t0 j) (iZ es rs) k →
  ∃ (bZ:List c7) (j4:List (Option Nat)),bZ.length=j+l.length∧j4.length=j+l.length∧(∀ i,i < j+l.length→pD P ops t0 H aU bZ j4 i)∧k (ba ops bZ (fun i=>decide (i < j+l.length)) t0 (j+l.length)) (iZ j4 bZ)
 | [],ms,j,rs,es,hl,jc,_,_,_,bc,h=>⟨rs,es,hl,jc,bc,h⟩
 | o::l,[],j,rs,es,hl,jc,_,_,_,bc,h=>h.elim
 | o::l,mask::ms,j,rs,es,hl,jc,al,ho,hm,bc,h=>by
  have oz:ops[j]?=some o:=by have:=ho 0 o rfl; simpa using this
  have Ds:mask=aU.getD j []:=by have:=hm 0 (by simp); simpa using this
  -- the next step, whatever this one's result
  have next:∀ (r:c7) (e:Option Nat) t',(t'=match o.dst with | some d=>(ba ops rs (fun i=>decide (i < j)) t0 j).set d r.v | none=>ba ops rs (fun i=>decide (i < j)) t0 j)→(∀ i,e=some i→i < j) →
    (pD P ops t0 H aU (rs++[r]) (es++[e]) j)→ni E ops aU H H.length l ms (j+1) t' (qP (iZ es rs) e++[r.nb]) k →
    ∃ (bZ:List c7) (j4:List (Option Nat)),bZ.length=j+(o::l).length∧j4.length=j+(o::l).length∧(∀ i,i < j+(o::l).length→pD P ops t0 H aU bZ j4 i)∧k (ba ops bZ (fun i=>decide (i < j+(o::l).length)) t0 (j+(o::l).length)) (iZ j4 bZ):=by
   intro r e t' jB fy hj h';have hv:ba ops (rs++[r]) (fun i=>decide (i < j+1)) t0 (j+1)=t':=by
    have hr:(rs++[r])[j]?=some r:=by rw [← hl]; simp
    have hd:bO ops j=o.dst:=by simp [bO,oz]
    have zZ:ba ops (rs++[r]) (fun i=>decide (i < j+1)) t0 j=ba ops rs (fun i=>decide (i < j)) t0 j:=by
     rw [uf (bZ:=rs) (fun i hi=>by rw [List.getElem?_append_left (by omega)])]
     exact yJ (fun i hi=>by simp; omega)
    have IP:decide (j < j+1)=true:=by simp
    rw [jB,Fy,hr,hd,zZ,IP];cases o.dst <;> rfl
   rw [← hv,← T1 (jc.trans hl.symm) al r e (fun i hi=>by rw [hl]; exact fy i hi)] at h'
   obtain ⟨bZ,j4,k1,RC,k2,k3⟩:=LM hE (l:=l) (ms:=ms) (j:=j+1) (rs:=rs++[r]) (es:=es++[e]) (by simp [hl]) (by simp [jc]) (fun p i hp=>by
     rw [List.getElem?_append] at hp
     split at hp
     ·exact al p i hp
     ·rename_i eK;have:p - es.length=0:=by
       rcases Nat.eq_zero_or_pos (p - es.length) with h | h
       ·exact h
       ·rw [List.getElem?_eq_none (by simp; omega)] at hp; cases hp
      rw [this] at hp;have:=fy i (by simpa using hp)
      omega) (fun i p hp=>by have:=ho (i+1) p (by simpa using hp); rwa [show j+1+i=j+(i+1) by omega])
    (fun i hi=>by have:=hm (i+1) (by simp; omega); rw [show j+1+i=j+(i+1) by omega]; simpa using this)
    (fun i hi=>by
     by_cases e':i=j
     ·subst e'; exact hj
     ·exact (bc i (by omega)).more (by omega) (by omega) r e) h'
   have e2:j+1+l.length=j+(o::l).length:=by simp; omega
   rw [e2] at k1 RC k2 k3;exact ⟨bZ,j4,k1,RC,k2,k3⟩
  have oC:∀ r:c7,ba ops (rs++[r]) (fun i=>decide (i < j)) t0 j=ba ops rs (fun i=>decide (i < j)) t0 j:=fun r=>uf (fun i hi=>by rw [List.getElem?_append_left (by omega)])
  have tP:∀ r:c7,(rs++[r])[j]?=some r:=fun r=>by rw [← hl]; simp
  have EE:∀ e:Option Nat,(es++[e])[j]?=some e:=fun e=>by rw [← jc]; simp
  -- what is seen of the blocks
  have seen:∀ {Sm:List (Option ai)} (r:c7),(∀ jj b,Sm[jj]?=some (some b)→(iZ es rs)[jj]?=some (some b)∧(0+jj)∈mask)→∀ id b,(H++Sm)[id]?=some (some b) →
    (id < H.length∧H[id]?=some (some b))∨(∃ i,id=H.length+i∧i < j∧i∈aU.getD j []∧((rs++[r])[i]?).bind (·.nb)=some b):=by
   intro Sm r h3 id b hb;rw [List.getElem?_append] at hb
   split at hb
   ·exact .inl ⟨by assumption,hb⟩
   ·rename_i eK;obtain ⟨q1,q2⟩:=h3 _ b hb;have aeU:id - H.length < rs.length:=by
     have:=(List.getElem?_eq_some_iff.1 q1).1
     rwa [iZ,Bv] at this
    refine .inr ⟨id - H.length,by omega,by omega,by rw [← Ds]; simpa using q2,?_⟩
    rw [List.getElem?_append_left aeU];exact Vk q1
  have DW:∀ {v:Value} {kk:List Value→Prop},dr (ba ops rs (fun i=>decide (i < j)) t0 j) o.dst v kk→∃ t',(t'=match o.dst with | some d=>(ba ops rs (fun i=>decide (i < j)) t0 j).set d v | none=>ba ops rs (fun i=>decide (i < j)) t0 j)∧(∀ d,o.dst=some d→d < t0.length)∧kk t':=by
   intro v kk hk;cases hd:o.dst with
   | none=>rw [hd] at hk; exact ⟨_,rfl,(fun d hd=>by cases hd),hk⟩
   | some d =>
    rw [hd] at hk;obtain ⟨k1,k2⟩:=oV hk;rw [rW] at k1;exact ⟨_,rfl,(fun d' cV=>by cases cV; exact k1),k2⟩
  have run:(o.guard=none∨∃ g want d b,o.guard=some (g,want)∧bO ops g=some d∧(ba ops rs (fun i=>decide (i < j)) t0 j)[d]?=some (.bool b)∧(b == want)=true) →
    (lI (iZ es rs) 0 mask fun Sm=>nF H Sm fun G=>kZ E o.op (ba ops rs (fun i=>decide (i < j)) t0 j) G (H.length+j) fun v nb=>dr (ba ops rs (fun i=>decide (i < j)) t0 j) o.dst v fun t'=>jt (iZ es rs) nb fun S'=>ni E ops aU H H.length l ms (j+1) t' S' k) →
    ∃ (bZ:List c7) (j4:List (Option Nat)),bZ.length=j+(o::l).length∧j4.length=j+(o::l).length∧(∀ i,i < j+(o::l).length→pD P ops t0 H aU bZ j4 i)∧k (ba ops bZ (fun i=>decide (i < j+(o::l).length)) t0 (j+(o::l).length)) (iZ j4 bZ):=by
   intro hg h;obtain ⟨Sm,h1,J,h3⟩:=wK h;have h1:=ux h1;obtain ⟨v,nb,hk,hq⟩:=BW (P:=P) hE h1;obtain ⟨t',e1,e2,e3⟩:=DW hk;refine next ⟨v,nb,true⟩ none t' e1 (fun i hi=>by cases hi) ⟨⟨o,⟨v,nb,true⟩,none,oz,tP _,EE _,e2,.inl ⟨H++Sm,seen _ h3,(fun i hi=>by cases hi),?_,?_⟩⟩⟩ (ui e3)
   ·rw [oC];exact fun ν a w q n ha hH hn next Q hN=>hq o ν a w q n rfl ha hH hn next Q (fun v' w' ak hp=>hN v' w' ak (hp.e _))
   ·rw [oC]; exact hg
  have skip:(∃ g want d v,o.guard=some (g,want)∧bO ops g=some d∧(ba ops rs (fun i=>decide (i < j)) t0 j)[d]?=some v∧((∃ b,v=.bool b∧(b == want)=false)∨∃ vs,v=.tuple vs)) →
    (dr (ba ops rs (fun i=>decide (i < j)) t0 j) o.dst undef fun t'=>jt (iZ es rs) none fun S'=>ni E ops aU H H.length l ms (j+1) t' S' k) →
    ∃ (bZ:List c7) (j4:List (Option Nat)),bZ.length=j+(o::l).length∧j4.length=j+(o::l).length∧(∀ i,i < j+(o::l).length→pD P ops t0 H aU bZ j4 i)∧k (ba ops bZ (fun i=>decide (i < j+(o::l).length)) t0 (j+(o::l).length)) (iZ j4 bZ):=by
   intro hg hk;obtain ⟨t',e1,e2,e3⟩:=DW hk;exact next ⟨undef,none,false⟩ none t' e1 (fun i hi=>by cases hi) ⟨⟨o,⟨undef,none,false⟩,none,oz,tP _,EE _,e2,.inr ⟨rfl,rfl,rfl,by rw [oC]; exact hg⟩⟩⟩ (ui e3)
  unfold ni at h
  split at h
  ·rename_i hg
   split at h
   ·rename_i ty x y aeV;obtain ⟨Sm,h1,J,h3⟩:=wK h;have h1:=ux h1;obtain ⟨v,gp,nb,hk,kl,hq⟩:=Vj (P:=P) hE h1;obtain ⟨c,rG,JQ,RD,hc4⟩:=TZ aeV
    -- what the step gives
    have step:∀ (ν:Nu) (a:Act) (w:World) (q:Option Nat) (n:Nat),(∀ x∈o.op.operands,fm ν (ba ops rs (fun i=>decide (i < j)) t0 j) a x)→bU ν (H++Sm) w→ν (H.length+j)=none →
      ∀ next Q,(∀ v' w' ak,EPost ν ak (H.length+j) (gp.bind fun i=>ν (H.length+i)) w w' v v' nb→next (a.put o.dst v') w')→o.wpIn (WF q) n P a w next Q:=by
     intro ν a w q n ha hH hn next Q hN;have gL:∀ z,z∈[x,y]→z∈o.op.operands:=fun z hz=>by
      rw [rG];simp only [List.mem_cons,List.mem_nil_iff,or_false] at hz;rcases hz with rfl | rfl <;> simp [Op.operands,Call.operands,RD]
     obtain ⟨v',w',ak,bB,hp⟩:=hq ν a w o.type (ha x (gL x (by simp))) (ha y (gL y (by simp))) hH hn
     exact jH (by simp [rG]) (by simp [execOp,rG,resolve,JQ,RD,hc4,invoke,builtin,bB]) next Q (hN _ _ _ hp)
    cases gp with
    | none =>
     obtain ⟨t',e1,e2,e3⟩:=DW hk;exact next ⟨v,nb,true⟩ none t' e1 (fun i hi=>by cases hi) ⟨⟨o,⟨v,nb,true⟩,none,oz,tP _,EE _,e2,.inl ⟨H++Sm,seen _ h3,(fun i hi=>by cases hi),by rw [oC]; exact step,.inl hg⟩⟩⟩ (ui e3)
    | some i =>
     obtain ⟨aeW,hk⟩:=hk;obtain ⟨yA,AV,hiq⟩:=T0 aeW;obtain ⟨t',e1,e2,e3⟩:=DW hk;obtain ⟨_,e3⟩:=mq e3;exact next ⟨v,nb,true⟩ (some i) t' e1 (fun i' hi=>by cases hi; exact yA) ⟨⟨o,⟨v,nb,true⟩,some i,oz,tP _,EE _,e2,.inl ⟨H++Sm,seen _ h3,(fun i' hi=>by cases hi; exact ⟨yA,AV,hiq,kl i rfl⟩),by rw [oC]; exact step,.inl hg⟩⟩⟩ (ui e3)
   ·exact run (.inl hg) h
  ·rename_i g want hg
   split at h
   ·rename_i d hd;obtain ⟨v,hv,h⟩:=oU h
    split at h
    ·rename_i b;cases hb:(b == want) with
     | true=>exact run (.inr ⟨g,want,d,b,hg,hd,hv,hb⟩) (CB h hb)
     | false=>exact skip ⟨g,want,d,_,hg,hd,hv,.inl ⟨b,rfl,hb⟩⟩ (Ch h hb)
    ·exact skip ⟨g,want,d,_,hg,hd,hv,.inr ⟨_,rfl⟩⟩ h
    ·exact h.elim
   ·exact h.elim
section
variable {P:Program} {E:Env} {r:Option Nat} {n:Nat} {F:Fr} {ops:Array Oper} {Q:Exit→Act→World→Prop} {m:Nat} {aU:List (List Nat)} {k:SK}
theorem T2 (hc:Order ops.toList aU) (u0:m≤ops.size)
  (zw:∀ j o i p d,j < m→i < m→i≠j→ops.toList[j]?=some o→ops.toList[i]?=some p→p.dst=some d→o.dst≠some d∧(d ∉ jk ops.toList o∨i∈aU.getD j []∨j∈aU.getD i []))
  (Dt:∀ j,j < ops.size→m≤j→∀ i,i < m→i∈aU.getD j [])
  {t0:List Value} {H:ay} {rs:List c7} {es:List (Option Nat)} (hel:es.length=m) (hh:∀ i,i < m→pD P ops.toList t0 H aU rs es i)
  (pI:∀ (fuel:Nat) (aE:Array Bool) (ν:Nu) (a:Act) (w:World),aE.size=ops.size→pf ops.toList (DB aE)→(∀ i,DB aE i=true→i < m)→(∀ i,i < m→DB aE i=true) →
   bu F ν (ba ops.toList rs (DB aE) t0 m) (H++iY es rs (DB aE) m) a w→gy (DB aE) ops.size≤fuel→wpAnyIn (WF r) n P .any ops Q fuel aE a w) :
  ∀ (fuel:Nat) (aE:Array Bool) (ν:Nu) (a:Act) (w:World),aE.size=ops.size→pf ops.toList (DB aE)→(∀ i,DB aE i=true→i < m) →
  bu F ν (ba ops.toList rs (DB aE) t0 m) (H++iY es rs (DB aE) m) a w→(∀ i,i < m→DB aE i=false→ν (H.length+i)=none)→gy (DB aE) ops.size≤fuel →
  wpAnyIn (WF r) n P .any ops Q fuel aE a w:=by
 have lQ:∀ i d,i < m→bO ops.toList i=some d→d < t0.length:=by
  intro i d hi hd;obtain ⟨o,q,_,h1,J,_,h3,_⟩:=(hh i hi).ok;unfold bO at hd;rw [h1] at hd;exact h3 d hd
 have pS:xX ops.toList m:=by
  intro i j d hi hj h1 J;rcases Nat.decEq i j with aD | he
  ·obtain ⟨o,q,_,k1,_⟩:=(hh i hi).ok;obtain ⟨p,q',_,k2,_⟩:=(hh j hj).ok;unfold bO at h1 J;rw [k1] at h1; rw [k2] at J;exact absurd h1 (zw i o j p d hi hj (Ne.symm aD) k1 k2 J).1
  ·exact he
 intro fuel
 induction fuel with
 | zero =>
  intro aE ν a w hs eZ al hi gm hu;have c5:∀ i,i < ops.size→DB aE i=true:=fun i aQ=>by
   cases hd:DB aE i with
   | true=>rfl
   | false=>have:=Fz aQ hd; omega
  exact pI 0 aE ν a w hs eZ al (fun i aQ=>c5 i (by omega)) hi hu
 | succ fuel ih =>
  intro aE ν a w hs eZ al hi gm hu;by_cases pC:∀ i,i < m→DB aE i=true
  ·exact pI (fuel+1) aE ν a w hs eZ al pC hi hu
  ·-- something of the head has not gone: the least such one may go
   have hex:∃ i,i < m∧DB aE i=false:=by
    refine Classical.byContradiction fun aD=>pC fun i aQ=>?_
    cases hd:DB aE i with
    | true=>rfl
    | false=>exact absurd ⟨i,aQ,hd⟩ aD
   obtain ⟨i1,Ez,c8⟩:=hex;obtain ⟨i0,QC,fE,je⟩:=Fa c8;have gd:i0 < m:=by omega
   have hr:=BD hc hs (by omega:i0 < ops.size) fE je
   refine ⟨(fun hn=>by rw [hn] at hr; cases hr),fun j hj=>?_⟩
   rw [mem_ready] at hj;obtain ⟨h1,o,ho,he⟩:=hj;have nG:j < ops.size:=(Array.getElem?_eq_some_iff.1 ho).1;rw [uG (by omega)] at h1
   have gg:ops.toList[j]?=some o:=by simpa using ho
   have mf:=ug hc eZ j o gg (fun e' gh bE=>he e' gh bE)
   have mQ:j < m:=by
    rcases Nat.lt_or_ge j m with h | h
    ·exact h
    ·have:=mf i1 (Dt j nG h i1 Ez);rw [c8] at this; cases this
   obtain ⟨o',q,gp,g1,g2,g2e,g3,g4⟩:=(hh j mQ).ok;rw [gg] at g1; cases g1;have JK:bO ops.toList j=o.dst:=by simp [bO,gg]
   -- what it reads stands as the text's order has it
   have H8:∀ d,d∈jk ops.toList o→(ba ops.toList rs (DB aE) t0 m)[d]?=(ba ops.toList rs (fun i=>decide (i < j)) t0 j)[d]?:=by
    intro d hd;rw [← wR (j:=j) (m:=m) (by omega) (fun i h1 J=>by simp; omega)]
    refine yT pS lQ (fun i aQ gf=>?_)
    by_cases e:i=j
    ·subst e; rw [h1]; simp
    ·obtain ⟨p,q',_,k1,_⟩:=(hh i aQ).ok;have JL:p.dst=some d:=by unfold bO at gf; rw [k1] at gf; exact gf
     rcases (zw j o i p d mQ aQ e gg k1 JL).2 with h | h | h
     ·exact absurd hd h
     ·rw [mf i h];have:=(hc.mask j o gg i h).1;simp [this]
     ·have hji:=(hc.mask i p k1 j h).1;have:DB aE i=false:=by
       cases cV:DB aE i with
       | false=>rfl
       | true =>
        have:=ug hc eZ i p k1 (eZ i p cV k1) j h;rw [h1] at this; cases this
      rw [this]; simp; omega
   have dg:∀ i,DB (aE.setIfInBounds j true) i=(DB aE i || i == j):=fun i=>C5 (by omega) i
   have yj:pf ops.toList (DB (aE.setIfInBounds j true)):=by
    intro i p aQ hp e' gh bE;rw [dg] at aQ ⊢;by_cases e:i=j
    ·subst e;rw [gg] at hp; cases hp;have:DB aE e'.on=true:=he e' gh bE;rw [this]; rfl
    ·have e2:(i == j)=false:=by simp [e]
     rw [e2,Bool.or_false] at aQ;rw [eZ i p aQ hp e' gh bE]; rfl
   have q9:∀ i,DB (aE.setIfInBounds j true) i=true→i < m:=fun i aQ=>by
    rw [dg] at aQ;by_cases e:i=j
    ·subst e; exact mQ
    ·have e2:(i == j)=false:=by simp [e]
     rw [e2,Bool.or_false] at aQ;exact al i aQ
   have tH:gy (DB (aE.setIfInBounds j true)) ops.size≤fuel:=by
    have:=BR dg h1 ops.size;rw [if_pos nG] at this; omega
   have ve:=LK (D:=DB aE) (D':=DB (aE.setIfInBounds j true)) pS lQ mQ h1 dg g2;rw [JK] at ve;have hat:∀ p i,es[p]?=some (some i)→p < m∧i < p∧i∈aU.getD p []∧∀ q,q≠p→i∈aU.getD q []→q∈aU.getD p []:=by
    intro p i hp;have vZ:p < m:=by have:=(List.getElem?_eq_some_iff.1 hp).1; omega
    obtain ⟨_,_,e',_,_,k3,_,k4⟩:=(hh p vZ).ok;rw [hp] at k3; cases k3;rcases k4 with ⟨_,_,k5,_⟩ | ⟨k5,_⟩
    ·obtain ⟨y1,y2,y3,_⟩:=k5 i rfl;exact ⟨vZ,y1,y2,y3⟩
    ·cases k5
   -- what this one sees has not been eaten
   have fresh:∀ i,i∈aU.getD j []→nh es (DB aE) i=false:=by
    intro i aQ;cases gh:nh es (DB aE) i with
    | false=>rfl
    | true =>
     obtain ⟨p,nI,rH⟩:=um.1 gh;obtain ⟨vZ,_,_,y3⟩:=hat p i rH;have RE:j≠p:=fun e=>by rw [← e,h1] at nI; cases nI
     have hjp:=y3 j RE aQ;obtain ⟨op,_,_,k1,_⟩:=(hh p vZ).ok;have:=ug hc eZ p op k1 (eZ p op nI k1) j hjp;rw [h1] at this; cases this
   have fx:∀ (id:Nat) (c:ai),(H++iY es rs (DB (aE.setIfInBounds j true)) m)[id]?=some (some c) →
     ((H++iY es rs (DB aE) m)[id]?=some (some c)∧∀ i,gp=some i→id≠H.length+i)∨(id=H.length+j∧q.nb=some c):=by
    intro id c;by_cases bm:id < H.length
    ·rw [List.getElem?_append_left bm,List.getElem?_append_left bm];exact fun h=>.inl ⟨h,fun i _=>by omega⟩
    ·rw [List.getElem?_append_right (by omega),List.getElem?_append_right (by omega),wS,wS]
     rintro ⟨k1,k2,k3,k4⟩
     rw [dg] at k2;by_cases e:id - H.length=j
     ·refine .inr ⟨by omega,?_⟩
      rw [e,g2] at k4; exact k4
     ·have e2:(id - H.length == j)=false:=by simp [e]
      rw [e2,Bool.or_false] at k2;refine .inl ⟨⟨k1,k2,?_,k4⟩,fun i aQ afN=>?_⟩
      ·cases gh:nh es (DB aE) (id - H.length) with
       | false=>rfl
       | true =>
        obtain ⟨p,nI,rH⟩:=um.1 gh;rw [um.2 ⟨p,by rw [dg,nI]; rfl,rH⟩] at k3; cases k3
      ·have hx:id - H.length=i:=by omega
       rw [hx,um.2 ⟨j,by rw [dg]; simp,by rw [g2e,aQ]⟩] at k3; cases k3
   have nf:ν (H.length+j)=none:=gm j mQ h1;have H9:(H++iY es rs (DB aE) m).length=H.length+m:=by rw [List.length_append,Bv]
   have Hu:(H++iY es rs (DB (aE.setIfInBounds j true)) m).length=H.length+m:=by rw [List.length_append,Bv]
   have hG:∀ {G:ay},(∀ (id:Nat) (b:ai),G[id]?=some (some b)→(id < H.length∧H[id]?=some (some b))∨(∃ i,id=H.length+i∧i < j∧i∈aU.getD j []∧(rs[i]?).bind (·.nb)=some b)) →
     ∀ (id:Nat) (b:ai),G[id]?=some (some b)→(H++iY es rs (DB aE) m)[id]?=some (some b):=by
    intro G q1 id b hb;rcases q1 id b hb with ⟨h3,h4⟩ | ⟨i,h3,h4,h5,h6⟩
    ·rw [List.getElem?_append_left h3]; exact h4
    ·subst h3;rw [List.getElem?_append_right (by omega)]
     rw [show H.length+i - H.length=i by omega,wS]
     exact ⟨by omega,mf i h5,fresh i h5,h6⟩
   have aeX:∀ i,gp=some i→∃ bi,(H++iY es rs (DB aE) m)[H.length+i]?=some (some bi)∧bi.own=true:=by
    intro i aQ;rcases g4 with ⟨G,q1,q2,_⟩ | ⟨q1,_⟩
    ·obtain ⟨_,_,_,bi,y1,y2⟩:=q2 i aQ;exact ⟨bi,hG q1 _ _ y1,y2⟩
    ·rw [aQ] at q1; cases q1
   -- the state behind it
   have after:∀ v' w' ak,EPost ν ak (H.length+j) (gp.bind fun i=>ν (H.length+i)) w w' q.v v' q.nb→wpAnyIn (WF r) n P .any ops Q fuel (aE.setIfInBounds j true) (a.put o.dst v') w':=by
    intro v' w' ak hp;have hold:∀ lo,(gp.bind fun i=>ν (H.length+i))=some lo→∃ i bi,gp=some i∧ν (H.length+i)=some lo∧(H++iY es rs (DB aE) m)[H.length+i]?=some (some bi)∧bi.own=true:=by
     intro lo g9;cases gh:gp with
     | none=>rw [gh] at g9; cases g9
     | some i =>
      rw [gh] at g9;obtain ⟨bi,y1,y2⟩:=aeX i gh;exact ⟨i,bi,rfl,g9,y1,y2⟩
    have dE:∀ (id:Nat) (c:ai),(H++iY es rs (DB aE) m)[id]?=some (some c)→id≠H.length+j:=fun id c h e=>by
     obtain ⟨l',cC,_⟩:=hi.hp.aL id c h;rw [e,nf] at cC; cases cC
    have u0:w.heap.size≤w'.heap.size:=by
     rcases hp.ED with hb | ⟨_,_,_,_,h,_⟩
     ·exact hb.size
     ·exact h
    have tN:Kept F.O F.W w':=by
     rcases hp.ED with hb | ⟨lo,g9,_,J,h3,h4,h5,h6⟩
     ·exact hi.kp.below hb
     ·obtain ⟨i,bi,y1,y2,y3,y4⟩:=hold lo g9;refine ⟨h4.trans hi.kp.os,h5.trans hi.kp.tape,h6.trans hi.kp.output,Nat.le_trans hi.kp.size h3,fun x hx hO=>(J x fun e=>?_).trans (hi.kp.aL x hx hO)⟩
      subst e;rcases hi.own _ bi lo y3 y4 y2 with h | h
      ·exact hO h
      ·omega
    have Iz:∀ (id:Nat) (c:ai) (l:Loc),(H++iY es rs (DB aE) m)[id]?=some (some c)→(∀ i,gp=some i→id≠H.length+i)→ν id=some l→bP ν l c w→bP ν l c w':=by
     intro id c l h aD hl hB;rcases hp.ED with hb | ⟨lo,g9,_,J,h3,_⟩
     ·exact hB.below hb
     ·obtain ⟨i,bi,y1,y2,y3,y4⟩:=hold lo g9;exact hB.same (J _ (Ne.symm (hi.hp.sep _ id bi c lo l y3 h (Ne.symm (aD i y1)) y4 y2 hl))) h3
    have Om:∀ (id:Nat) (c:ai) (l l2:Loc),(H++iY es rs (DB aE) m)[id]?=some (some c)→(∀ i,gp=some i→id≠H.length+i)→ν id=some l→(w.heap.size≤l2.aL∨∃ lo,(gp.bind fun i=>ν (H.length+i))=some lo∧l2.aL=lo.aL)→l2.aL≠l.aL:=by
     intro id c l l2 h aD hl J;rcases J with J | ⟨lo,g9,J⟩
     ·obtain ⟨l',cC,hB⟩:=hi.hp.aL id c h;rw [hl] at cC; cases cC;have:=hB.live;omega
     ·obtain ⟨i,bi,y1,y2,y3,y4⟩:=hold lo g9;rw [J];exact hi.hp.sep _ id bi c lo l y3 h (Ne.symm (aD i y1)) y4 y2 hl
    refine ih _ ak _ w' (by simp [hs]) yj q9 ⟨?_,?_,⟨fun id c cD=>?_,fun x y bx bY lx ly hx hy aD JR e1 e2=>?_⟩,fun id bm=>?_,tN,fun id c lc cD ot dN=>?_,Nu.le_trans hi.mono hp.le⟩ (fun i aQ cV=>?_) tH
    ·rw [ve];cases hd:o.dst with
     | none=>exact hi.tm.mono hp.le
     | some d=>rw [sj]; exact (hi.tm.mono hp.le).set hp.val d
    ·rcases hp.ED with hb | ⟨lo,g9,⟨cur,t,jV⟩,J,h3,_⟩
     ·cases o.dst <;> exact hi.df.below hb
     ·cases o.dst <;> exact hi.df.eP jV J
    ·rcases fx id c cD with ⟨h,aD⟩ | ⟨h3,h4⟩
     ·obtain ⟨l,hl,hB⟩:=hi.hp.aL id c h;exact ⟨l,hp.le _ _ hl,(Iz id c l h aD hl hB).mono hp.le⟩
     ·obtain ⟨l,hl,hB,_⟩:=hp.g8 c h4;exact ⟨l,by rw [h3]; exact hl,hB⟩
    ·rcases fx x bx hx with ⟨h,cK⟩ | ⟨h3,h4⟩
     ·rw [hp.only x (dE x bx h)] at e1;rcases fx y bY hy with ⟨g,RF⟩ | ⟨g3,g4⟩
      ·rw [hp.only y (dE y bY g)] at e2;exact hi.hp.sep x y bx bY lx ly h g aD JR e1 e2
      ·obtain ⟨l,hl,_,hle⟩:=hp.g8 bY g4;rw [g3,hl] at e2; cases e2;exact Ne.symm (Om x bx lx _ h cK e1 hle)
     ·obtain ⟨l,hl,_,hle⟩:=hp.g8 bx h4;rw [h3,hl] at e1; cases e1;rcases fx y bY hy with ⟨g,RF⟩ | ⟨g3,g4⟩
      ·rw [hp.only y (dE y bY g)] at e2;exact Om y bY ly _ g RF e2 hle
      ·exact absurd (h3.trans g3.symm) aD
    ·rw [Hu] at bm;rw [hp.only id (by omega)]
     exact hi.fr id (by rw [H9]; exact bm)
    ·rcases fx id c cD with ⟨h,_⟩ | ⟨h3,h4⟩
     ·rw [hp.only id (dE id c h)] at dN;exact hi.own id c lc h ot dN
     ·obtain ⟨l,hl,_,hle⟩:=hp.g8 c h4;rw [h3,hl] at dN; cases dN;rcases hle with hle | ⟨lo,g9,hle⟩
      ·exact .inr (Nat.le_trans hi.kp.size hle)
      ·obtain ⟨i,bi,y1,y2,y3,y4⟩:=hold lo g9;rw [hle];exact hi.own _ bi lo y3 y4 y2
    ·have aD:i≠j:=fun e=>by subst e; rw [dg] at cV; simp at cV
     rw [hp.only _ (by omega)]
     refine gm i aQ ?_;rw [dg] at cV;simp only [Bool.or_eq_false_iff] at cV;exact cV.1
   unfold wpOpIn;rw [ho]
   dsimp only
   have fC:∀ d,d∈jk ops.toList o→∀ v,(ba ops.toList rs (fun i=>decide (i < j)) t0 j)[d]?=some v→∃ v',a.tmps[d]?=some v'∧au ν v v':=by
    intro d hd v hv;rw [← H8 d hd] at hv;obtain ⟨v',k1,k2⟩:=hi.tm.get hv;exact ⟨v',by simpa using k1,k2⟩
   rcases g4 with ⟨G,q1,_,q2,q3⟩ | ⟨q0,q1,q2,g,want,d,v,q3,q4,q5,q6⟩
   ·have hw:Region.wanted o (yielded ops a.tmps)=true:=by
     rcases q3 with hg | ⟨g,want,d,b,hg,hd,hv,hb⟩
     ·simp [Region.wanted,hg]
     ·obtain ⟨v',k1,k2⟩:=fC d (Bq hg hd) _ hv;rw [k2.j7] at k1;have hy:=yR (ops:=ops) (tmps:=a.tmps) (j:=g) (d:=d) (by simpa [bO] using hd)
      rw [k1] at hy;simp only [Region.wanted,hg,hy];rw [← hb];cases b <;> cases want <;> rfl
    rw [if_pos hw];refine q2 ν a w r n (fun x hx t ht v hv=>fC t ?_ v hv) (hi.hp.sN fun id b hb=>?_) nf _ Q after
    ·unfold jk;exact List.mem_append_left _ (p8 (by rw [ht] at hx; simpa using hx))
    ·exact hG q1 id b hb
   ·have hw:Region.wanted o (yielded ops a.tmps)=false:=by
     obtain ⟨v',k1,k2⟩:=fC d (Bq q3 q4) _ q5;have hy:=yR (ops:=ops) (tmps:=a.tmps) (j:=g) (d:=d) (by simpa [bO] using q4)
     rw [k1] at hy;rcases q6 with ⟨b,rfl,hb⟩ | ⟨vs,rfl⟩
     ·rw [k2.j7] at hy;simp only [Region.wanted,q3,hy];rw [← hb];cases b <;> cases want <;> rfl
     ·obtain ⟨ys,rfl,_⟩:=au.nR (xs:=vs.toList) k2;simp only [Region.wanted,q3,hy]
      rfl
    rw [if_neg (by rw [hw]; simp)]
    refine ⟨fun _ _=>trivial,after undef w ν ⟨ν.le_refl,fun _ _=>rfl,by rw [q1]; exact .undef ν,.inl (Below.refl _ _),fun _=>rfl,(fun b hb=>by rw [q2] at hb; cases hb)⟩⟩
theorem Ws (hm:P.follows .mixedOrders=true):nC P PW:=by
 intro E hE r n F bL ops Q id ν tmps H a w k hi h hk;obtain ⟨m,aU,bc,h⟩:=h;have h:=mr h;obtain ⟨QD,h⟩:=yS h;have hc:=Le bc;obtain ⟨rs,es,iQ,jd,kg,gk⟩:=LM (P:=P) hE.toEnvOk (ops:=ops.toList) (t0:=tmps) (H:=H) (aU:=aU) (l:=ops.toList.take m) (ms:=aU) (j:=0) (rs:=[]) (es:=[]) rfl rfl (fun p i hp=>by simp at hp)
  (fun i o ho=>by
   rw [List.getElem?_take] at ho
   split at ho
   ·simpa using ho
   ·cases ho)
  (fun i _=>by simp) (fun i hi=>by omega) h
 have gk:=ux gk;have hlen:0+(ops.toList.take m).length=m:=by rw [List.length_take]; omega
 rw [hlen] at iQ jd kg gk;refine wpIn_region_any hm ?_;have hD:DB (Array.replicate ops.size false)=fun _=>false:=by
  funext i
  unfold DB;by_cases h:i < ops.size <;> simp [h]
 refine T2 (F:=F) hc.toOrder (by have:=hc.le; simpa using this) hc.apart (fun j hj hm i hi=>hc.tail j (by simpa using hj) hm i (by omega)) jd kg ?_ ops.size _ ν a _ (by simp) (fun j o hj=>by rw [hD] at hj; cases hj) (fun i aQ=>by rw [hD] at aQ; cases aQ) ?_ (fun i _ _=>hi.fr _ (by omega)) ?_
 ·intro fuel aE ν a w hs eZ al c5 hi hu;have hle:m≤ops.size:=by have:=hc.le; simpa using this
  have hD:∀ i,DB aE i=decide (i < m):=fun i=>by
   by_cases h:i < m
   ·rw [c5 i h]; simp [h]
   ·cases hd:DB aE i with
    | true=>exact absurd (al i hd) h
    | false=>simp [h]
  have e1:ba ops.toList rs (DB aE) tmps m=ba ops.toList rs (fun i=>decide (i < m)) tmps m:=yJ (fun i _=>hD i)
  have e2:iY es rs (DB aE) m=iZ es rs:=by
   unfold iZ;rw [iQ];rw [show DB aE=fun i=>decide (i < m) from funext hD]
  rw [e1,e2] at hi;exact F0 hE bL hc.toOrder hc.tail hk fuel aE m ν _ _ a w hs hD (Nat.le_refl _) hle hi gk (by
   have:=E9 hD ops.size hle; omega)
 ·rw [hD];have e1:ba ops.toList rs (fun _=>false) tmps m=tmps:=wR (j:=0) (by omega) (fun _ _ _=>rfl)
  rw [e1];have kP:Below w.heap.size w { w with drawn:=w.drawn+1 }:=⟨rfl,rfl,rfl,Nat.le_refl _,fun _ _=>rfl⟩
  refine ⟨hi.tm,hi.df.below kP,(hi.hp.below kP).sN (fun id c cD=>?_),fun id bm=>hi.fr id (by rw [List.length_append] at bm; omega),hi.kp.below kP,fun id c lc cD ot dN=>?_,hi.mono⟩
  ·rw [List.getElem?_append] at cD
   split at cD
   ·exact cD
   ·have:=(wS.1 cD).2.1; cases this
  ·rw [List.getElem?_append] at cD
   split at cD
   ·exact hi.own id c lc cD ot dN
   ·have:=(wS.1 cD).2.1; cases this
 ·unfold gy;have:=List.length_filter_le (fun i=>!DB (Array.replicate ops.size false) i) (List.range ops.size)
  simpa using this
end
open Go Go.RowKit
inductive n4 where
 | leaf
 | br (i:Nat) (sub rest:n4)
def n4.alts:n4→List Nat
 | .leaf=>[]
 | .br i _ rest=>i::rest.alts
def uS (ops:Array Oper):n4→Nat→Bool→Array Bool→Bool
 | .leaf,_,true,l=>(Region.ready .any ops l).isEmpty
 | .leaf,_,false,_=>true
 | .br _ _ _,0,_,_=>false
 | .br i sub rest,n+1,first,l=>(!first || (Region.ready .any ops l == (n4.br i sub rest).alts)) && uS ops sub n true (l.setIfInBounds i true) && uS ops rest (n+1) false l
def IU:List Oper→Nat→(Oper→Prop)→Prop
 | [],_,_=>False
 | o::_,0,k=>k o
 | _::l,i+1,k=>IU l i k
theorem MG:∀ {l:List Oper} {i:Nat} {k:Oper→Prop},IU l i k→∃ o,l[i]?=some o∧k o
 | [],i,k,h=>h.elim
 | o::_,0,k,h=>⟨o,rfl,h⟩
 | _::l,i+1,k,h=>by
  obtain ⟨o,h1,J⟩:=MG (l:=l) h;exact ⟨o,by simpa using h1,J⟩
def Dv (E:Env) (ops:List Oper):n4→Bool→List Value→ay→SK→Prop
 | .leaf,true,t,H,k=>k t H
 | .leaf,false,_,_,_=>True
 | .br i sub rest,_,t,H,k=>(IU ops i fun o=>xW E ops o t H fun t' H'=>Dv E ops sub true t' H' k)∧Dv E ops rest false t H k
def cF (E:Env) (ops:List Oper) (t:List Value) (H:ay) (k:SK):Prop :=
 PT E ops t H k∨(∃ T:n4,uS ops.toArray T ops.length true (Array.replicate ops.length false)=true∧Dv E ops T true t H k)∨PU E ops t H k∨PW E ops t H k
section
variable {P:Program} {E:Env} {r:Option Nat} {n:Nat} {F:Fr}
theorem T3 (hE:jU P E) (bL:k9 F E) {ops:Array Oper} {Q:Exit→Act→World→Prop} {k:SK} (hk:∀ ν t' H' a' w',bu F ν t' H' a' w'→k t' H'→Q .normal a' w') :
  ∀ (T:n4) (fuel:Nat) (first:Bool) (aE:Array Bool) (ν:Nu) (t:List Value) (H:ay) (a:Act) (w:World),uS ops T fuel first aE=true→bu F ν t H a w→Dv E ops.toList T first t H k →
  (first=true→wpAnyIn (WF r) n P .any ops Q fuel aE a w)∧(first=false→∀ m,fuel=m+1→∀ i∈T.alts,wpOpIn (WF r) n P ops Q i (wpAnyIn (WF r) n P .any ops Q m (aE.setIfInBounds i true)) a w):=by
 intro T
 induction T with
 | leaf =>
  intro fuel first aE ν t H a w bc hi h;cases first with
  | true =>
   refine ⟨fun _=>?_,fun h=>by cases h⟩
   have hr:Region.ready .any ops aE=[]:=by
    have:(Region.ready .any ops aE).isEmpty=true:=by simpa [uS] using bc
    simpa using this
   have hq:Q .normal a w:=hk _ _ _ _ _ hi h;cases fuel with
   | zero=>exact ⟨hr,hq⟩
   | succ f=>exact ⟨fun _=>hq,fun i aQ=>by rw [hr] at aQ; cases aQ⟩
  | false=>exact ⟨(fun h=>by cases h),fun _ m _ i aQ=>by cases aQ⟩
 | br j sub rest ihs ihr =>
  intro fuel first aE ν t H a w bc hi h;cases fuel with
  | zero=>simp [uS] at bc
  | succ f =>
   simp only [uS,Bool.and_eq_true,Bool.or_eq_true] at bc;obtain ⟨⟨h1,J⟩,h3⟩:=bc;obtain ⟨hs,zZ⟩:=h;have c5:∀ i∈(n4.br j sub rest).alts,wpOpIn (WF r) n P ops Q i (wpAnyIn (WF r) n P .any ops Q f (aE.setIfInBounds i true)) a w:=by
    intro i aQ;simp only [n4.alts,List.mem_cons] at aQ;rcases aQ with rfl | aQ
    ·obtain ⟨o,ho,hs⟩:=MG hs;unfold wpOpIn;have JR:ops[i]?=some o:=by simpa using ho
     rw [JR];exact Fx hE bL hi hs (fun ν t' H' a' w' hJ h'=>(ihs f true _ ν t' H' a' w' J hJ h').1 rfl)
    ·exact (ihr (f+1) false aE ν t H a w h3 hi zZ).2 rfl f rfl i aQ
   refine ⟨fun hf=>?_,fun _ m hm=>?_⟩
   ·subst hf;have hr:Region.ready .any ops aE=(n4.br j sub rest).alts:=by
     rcases h1 with h1 | h1
     ·cases h1
     ·exact eq_of_beq h1
    refine ⟨(fun hn=>by rw [hr] at hn; cases hn),fun i aQ=>c5 i (by rw [← hr]; exact aQ)⟩
   ·have:f=m:=by omega
    subst this;exact c5
theorem Wt (hm:P.follows .mixedOrders=true):nC P cF:=by
 intro E hE r n F bL ops Q id ν tmps H a w k hi h hk;rcases h with h | ⟨T,bc,h⟩ | h | h
 ·exact Wo hm E hE r n F bL ops Q id ν tmps H a w k hi h hk
 ·refine wpIn_region_any hm ?_;have kP:Below w.heap.size w { w with drawn:=w.drawn+1 }:=⟨rfl,rfl,rfl,Nat.le_refl _,fun _ _=>rfl⟩
  have hJ:bu F ν tmps H a { w with drawn:=w.drawn+1 }:=⟨hi.tm,hi.df.below kP,hi.hp.below kP,hi.fr,hi.kp.below kP,hi.own,hi.mono⟩
  have:=(T3 (r:=r) (n:=n) hE bL (ops:=ops) hk T ops.toList.length true _ ν tmps H a _ (by simpa using bc) hJ h).1 rfl
  simpa using this
 ·exact Wr hm E hE r n F bL ops Q id ν tmps H a w k hi h hk
 ·exact Ws hm E hE r n F bL ops Q id ν tmps H a w k hi h hk
end
open Go Go.RowKit
inductive fj:Value→Value→Prop
 | refl (v:Value):fj v v
 | cap (a:Addr) (n c:Nat) (h:a.spot=none):fj (.slice (some a) n c) (.slice (some a) n aI)
 | two {x y x' y':Value} (h:fj x x') (hs:fj y y'):fj (.tuple ⟨[x,y]⟩) (.tuple ⟨[x',y']⟩)
 | three {x y z x' y' z':Value} (h:fj x x') (hs:fj y y') (hz:fj z z'):fj (.tuple ⟨[x,y,z]⟩) (.tuple ⟨[x',y',z']⟩)
theorem au.RG {ν:Nu} {xs ys:List Value} (h:bf ν xs ys):au ν (.tuple ⟨xs⟩) (.tuple ⟨ys⟩):=.tuple _ _ h.1 h.2
theorem au.IW {ν:Nu} {v v':Value} (h:fj v v'):∀ {r},au ν v r→au ν v' r:=by
 induction h with
 | refl v=>exact fun h=>h
 | cap a n c hs =>
  intro r hr;obtain ⟨b,o,sp⟩:=a;have hs:sp=none:=hs;subst hs;cases hr with
  | slice _ _ _ _ c' l h hc hn hr=>exact .slice _ _ _ _ c' l h (.inr rfl) hn hr
  | void _ _ _ a hc=>exact .void _ _ _ a (.inr rfl)
 | two h hs i1 i2 =>
  intro r hr;obtain ⟨ys,rfl,hy⟩:=hr.nR;obtain ⟨a,ys,rfl,k1,hy⟩:=hy.jm;obtain ⟨b,ys,rfl,k2,hy⟩:=hy.jm;rw [hy.iU];exact .RG (.cons (i1 k1) (.cons (i2 k2) (.nil ν)))
 | three h hs hz i1 i2 i3 =>
  intro r hr;obtain ⟨ys,rfl,hy⟩:=hr.nR;obtain ⟨a,ys,rfl,k1,hy⟩:=hy.jm;obtain ⟨b,ys,rfl,k2,hy⟩:=hy.jm;obtain ⟨c,ys,rfl,k3,hy⟩:=hy.jm;rw [hy.iU];exact .RG (.cons (i1 k1) (.cons (i2 k2) (.cons (i3 k3) (.nil ν))))
def gz (S:cl) (i:S.ι) (v:Value) (H:ay):Prop :=
 match S.new i with
 | none=>∃ v',cR (List.range (S.ah i).length) 3 (S.val i)=some v'∧fj v v'
 | some b=>∃ p,gK H p fun c=>(c.own=true∧aH b c)∧∃ v',cR (List.range (S.ah i).length++[p]) 3 (S.val i)=some v'∧fj v v'
section
variable {P:Program} {E:Env} {D:Env→List Oper→List Value→ay→SK→Prop}
theorem ud {l:List ai} {id:Nat} {b:ai} (h:(l.map some)[id]?=some (some b)):l[id]?=some b:=by
 rw [List.getElem?_map] at h;cases e:l[id]? with
 | none=>rw [e] at h; cases h
 | some b'=>rw [e] at h; simp at h; rw [h]
theorem Vl {m p j:Nat} (h:j < m):(List.range m++[p])[j]?=some j:=by
 rw [List.getElem?_append_left (by simpa using h),List.getElem?_range h]
theorem dQ {S:cl} (hE:EnvOk P E) (hD:nC P D) {f:FuncId} {fn:Func} (hf:P.funcs[f]?=some fn) (oo:∀ args w,(callFunc f args).run P w=.ok (.enter f args) w)
  (nD:∀ i b,b∈S.ah i→b.own=false) (tG:∀ i b,S.new i=some b→b.jM=true)
  (h:∀ i,S.pre i→b9 E D fn (S.args i) ((S.ah i).map some) (gz S i))
  (hI:gV P E:=by exact gV.none rfl) (hy:E.ys=[]:=by rfl) (hu:E.nu=(fun _=>none):=by rfl):di P f S:=by
 refine ⟨oo,nD,tG,fun i hp ν as w n has hH gm=>?_⟩
 refine y7 (O:=fun _=>False) (ν:=ν) (hE.x hI hy) hD hf (h i hp) has hH (fun id bm=>gm id (by simpa using bm)) (fun id b l hb ho=>?_) (CF hu) ?_
 ·rw [nD i b (List.mem_of_getElem? (ud hb))] at ho; cases ho
 intro ak v v' t H' a w' hi hk hv;have hb:Below w.heap.size w w':=⟨hi.kp.os,hi.kp.tape,hi.kp.output,hi.kp.size,fun k hk=>hi.kp.aL k hk (fun h=>h)⟩
 unfold gz at hk
 split at hk
 ·rename_i dE;obtain ⟨v2,n8,AX⟩:=hk;have h1:=wY 3 _ _ _ n8 (au.IW AX hv);refine ⟨v',ν,rfl,⟨ν.le_refl,fun _ _=>rfl,h1.mono (fun j lj hj=>?_),hb,fun _=>rfl,(fun b hb=>by rw [dE] at hb; cases hb)⟩⟩
  unfold Nu.comp at hj;by_cases al:j < (S.ah i).length
  ·rw [List.getElem?_range al] at hj;have hj:ak j=some lj:=hj;obtain ⟨l0,e1,_⟩:=hH.aL j ((S.ah i)[j]) (by simp [al])
   have:=hi.mono j l0 e1;rw [hj] at this; cases this;exact e1
  ·have:(List.range (S.ah i).length)[j]?=none:=List.getElem?_eq_none (by simp; omega)
   rw [this] at hj; cases hj
 ·rename_i b dE;obtain ⟨p,hk⟩:=hk;obtain ⟨c,hc,⟨ho,hle⟩,v2,n8,AX⟩:=gD hk;obtain ⟨l,hl,hB⟩:=hi.hp.aL p c hc;have vX:ν (S.ah i).length=none:=gm _ (Nat.le_refl _);refine ⟨v',ν.add (S.ah i).length l,rfl,⟨Nu.kd vX,fun id bm=>Nu.iV bm,?_,hb,(fun h=>by rw [dE] at h; cases h),(fun b' bE=>?_)⟩⟩
  ·have h1:=wY 3 _ _ _ n8 (au.IW AX hv);refine h1.mono (fun j lj hj=>?_)
   unfold Nu.comp at hj;rcases Nat.lt_trichotomy j (S.ah i).length with al | he | Ri
   ·rw [Vl al] at hj;have hj:ak j=some lj:=hj;obtain ⟨l0,e1,_⟩:=hH.aL j ((S.ah i)[j]) (by simp [al])
    have:=hi.mono j l0 e1;rw [hj] at this; cases this;rw [Nu.iV (by omega)]; exact e1
   ·subst he;have:(List.range (S.ah i).length++[p])[(S.ah i).length]?=some p:=by simp
    rw [this] at hj;have hj:ak p=some lj:=hj;rw [hl] at hj; cases hj;exact Nu.add_same
   ·have:(List.range (S.ah i).length++[p])[j]?=none:=List.getElem?_eq_none (by simp; omega)
    rw [this] at hj; cases hj
  ·rw [dE] at bE; cases bE;refine ⟨l,Nu.add_same,hB.le ⟨hle,by have:=tG i b dE; cases b <;> first | rfl | cases this⟩,?_⟩
   rcases hi.own p c l hc ho hl with h | h
   ·exact h.elim
   ·exact h
structure z5 where
 ι:Type
 args:ι→List Value
 ah:ι→List ai
 pre:ι→Prop
 val:ι→Value
 post:ι→List ai
 new:ι→List ai
def xY (H:ay):List Nat→List ai→List ai→(ay→Prop)→Prop
 | [],[],[],k=>k H
 | s::σ,b::bs,p::ps,k=>match b.own with
  | true=>match p with
   | .b6 _=>False
   | p=>jv H s (some p) fun H'=>xY H' σ bs ps k
  | false=>xY H σ bs ps k
 | _,_,_,_=>False
def CH (H:ay):List ai→(ay→Prop)→Prop
 | [],k=>k H
 | b::bs,k=>match b with
  | .b6 _=>False
  | b=>pr H (some b) fun H'=>CH H' bs k
def xI:Nat→Nat→List Nat
 | _,0=>[]
 | a,n+1=>a::xI (a+1) n
def DX:List ai→Nat
 | []=>0
 | _::l=>DX l+1
def AY (S:z5):FT:=fun args H K=>∃ (i:S.ι) (σ:List Nat),mF σ 3 (S.args i)=some args∧S.pre i∧σ.Nodup∧zQ H σ (S.ah i) (jw H fun n0=>xY H σ (S.ah i) (S.post i) fun H1=>CH H1 (S.new i) fun H2 =>
 ∃ v,cR (σ++xI n0 (DX (S.new i))) 3 (S.val i)=some v∧qE v fun v=>K v H2)
def An (S:z5) (i:S.ι) (v:Value) (H:ay):Prop :=
 ∃ ps:List Nat,ps.Nodup∧(∀ p∈ps,(S.ah i).length≤p)∧ps.length=(S.new i).length ∧
  (∀ (j:Nat) (b q:ai),(S.ah i)[j]?=some b→(S.post i)[j]?=some q→b.own=true→∃ c,H[j]?=some (some c)∧c.own=true∧aH q c) ∧
  (∀ (j p:Nat) (b:ai),ps[j]?=some p→(S.new i)[j]?=some b→∃ c,H[p]?=some (some c)∧c.own=true∧aH b c) ∧
  ∃ v',cR (List.range (S.ah i).length++ps) 3 (S.val i)=some v'∧fj v v'
theorem LN:∀ {n a j:Nat},(xI a n)[j]?=if j < n then some (a+j) else none
 | 0,a,j=>by simp [xI]
 | n+1,a,0=>by simp [xI]
 | n+1,a,j+1=>by
  have:=LN (n:=n) (a:=a+1) (j:=j);simp only [xI,List.getElem?_cons_succ,this];by_cases h:j < n
  ·rw [if_pos h,if_pos (by omega)]; congr 1; omega
  ·rw [if_neg h,if_neg (by omega)]
theorem On:∀ {l:List ai},DX l=l.length
 | []=>rfl
 | _::l=>by simp [DX,On (l:=l)]
theorem KT:∀ {bs:List ai} {H:ay} {k:ay→Prop},CH H bs k→k (H++bs.map some)∧∀ b∈bs,b.rc=none
 | [],H,k,h=>by
  have h:k H:=h;exact ⟨by simpa using h,fun b hb=>by cases hb⟩
 | b::bs,H,k,h=>by
  have h:b.rc=none∧pr H (some b) fun H'=>CH H' bs k:=by
   cases b with
   | aP o e r=>exact ⟨rfl,h⟩
   | flat o n e g=>exact ⟨rfl,h⟩
   | b6 r=>exact h.elim
  have:=KT (bs:=bs) (yO h.2);refine ⟨by simpa using this.1,fun c hc=>?_⟩
  rcases List.mem_cons.1 hc with rfl | hc
  ·exact h.1
  ·exact this.2 c hc
theorem FA:∀ {σ:List Nat} {bs ps:List ai} {H:ay} {k:ay→Prop},σ.Nodup→xY H σ bs ps k→∃ H1,k H1∧H1.length=H.length∧(∀ id,id ∉ σ→H1[id]?=H[id]?) ∧
  ∀ (j s:Nat) (b:ai),σ[j]?=some s→bs[j]?=some b→(b.own=true→∃ p,ps[j]?=some p∧H1[s]?=some (some p)∧p.rc=none)∧(b.own=false→H1[s]?=H[s]?)
 | [],[],[],H,k,_,h=>⟨H,h,rfl,fun _ _=>rfl,fun j s b hj=>by simp at hj⟩
 | s::σ,b::bs,p::ps,H,k,hn,h=>by
  obtain ⟨hs,hn⟩:=List.nodup_cons.1 hn;unfold xY at h
  split at h
  ·rename_i ho;have JS:p.rc=none∧jv H s (some p) fun H'=>xY H' σ bs ps k:=by
    cases p with
    | aP o e r=>exact ⟨rfl,h⟩
    | flat o n e g=>exact ⟨rfl,h⟩
    | b6 r=>exact h.elim
   obtain ⟨JS,h⟩:=JS;obtain ⟨al,h⟩:=mq h;obtain ⟨H1,h1,J,h3,h4⟩:=FA hn h;refine ⟨H1,h1,by rw [J]; simp,fun id bm=>?_,fun j s' b' hj hb=>?_⟩
   ·rw [List.mem_cons,not_or] at bm;rw [h3 id bm.2,List.getElem?_set_ne (Ne.symm bm.1)]
   ·cases j with
    | zero =>
     simp at hj hb; subst hj; subst hb;refine ⟨fun _=>⟨p,rfl,?_,JS⟩,(fun h=>by rw [ho] at h; cases h)⟩
     rw [h3 s hs,List.getElem?_set_self al]
    | succ j =>
     obtain ⟨h5,h6⟩:=h4 j s' b' (by simpa using hj) (by simpa using hb)
     refine ⟨fun h=>by simpa using h5 h,fun h=>?_⟩
     rw [h6 h,List.getElem?_set_ne];intro e;subst e;exact hs (List.mem_of_getElem? (by simpa using hj))
  ·rename_i ho;obtain ⟨H1,h1,J,h3,h4⟩:=FA hn h;refine ⟨H1,h1,J,fun id bm=>?_,fun j s' b' hj hb=>?_⟩
   ·rw [List.mem_cons,not_or] at bm;exact h3 id bm.2
   ·cases j with
    | zero =>
     simp at hj hb; subst hj; subst hb;exact ⟨(fun h=>by rw [ho] at h; cases h),fun _=>h3 s hs⟩
    | succ j=>simpa using h4 j s' b' (by simpa using hj) (by simpa using hb)
 | [],_::_,_,H,k,_,h=>by cases h
 | [],[],_::_,H,k,_,h=>by cases h
 | _::_,[],_,H,k,_,h=>by cases h
 | _::_,_::_,[],H,k,_,h=>by cases h
theorem Pb {S:z5} (hE:EnvOk P E) (hD:nC P D) {f:FuncId} {fn:Func} (hf:P.funcs[f]?=some fn) (oo:∀ args w,(callFunc f args).run P w=.ok (.enter f args) w)
  (h:∀ i,S.pre i→b9 E D fn (S.args i) ((S.ah i).map some) (An S i))
  (hI:gV P E:=by exact gV.none rfl) (hy:E.ys=[]:=by rfl) (hu:E.nu=(fun _=>none):=by rfl):gj P f (AY S):=by
 refine ⟨oo,fun args H K hFT ν as w n O has hH gm kl=>?_⟩
 obtain ⟨i,σ,n8,hp,mP,om⟩:=hFT;obtain ⟨hlen,hσ,om⟩:=Ft om;obtain ⟨H1,om,mc,aeY,QI⟩:=FA mP (mr om);obtain ⟨⟨v2,PX,hK⟩,aeZ⟩:=KT om;have hK:=wB hK;rw [On] at PX;have n3:=ur (wY (ν:=ν) 3) n8 has
 -- the callee's blocks
 let Oc:Nat→Prop:=fun x=>∃ (j s:Nat) (b:ai) (l:Loc),σ[j]?=some s∧(S.ah i)[j]?=some b∧b.own=true∧ν s=some l∧x=l.aL
 have tc:∀ (j:Nat) (b:ai),(S.ah i)[j]?=some b→∃ s,σ[j]?=some s∧∃ c l,H[s]?=some (some c)∧C1 b c∧ν s=some l∧bP ν l c w:=by
  intro j b hb;have al:j < σ.length:=by rw [hlen]; exact (List.getElem?_eq_some_iff.1 hb).1
  obtain ⟨c,h1,J⟩:=hσ j _ b (List.getElem?_eq_getElem al) hb;obtain ⟨l,h3,h4⟩:=hH.aL _ _ h1;exact ⟨_,List.getElem?_eq_getElem al,c,l,h1,J,h3,h4⟩
 have ng:∀ (j s:Nat),σ[j]?=some s→(ν.comp σ) j=ν s:=fun j s hj=>by simp [Nu.comp,hj]
 have JT:bU (ν.comp σ) ((S.ah i).map some) w:=by
  refine ⟨fun j b hj=>?_,fun j q bj bq lj lq hj hq aD ho e1 e2=>?_⟩
  ·obtain ⟨s,h1,c,l,J,h3,h4,h5⟩:=tc j b (ud hj);exact ⟨l,by rw [ng j s h1,h4],h5.le h3⟩
  ·obtain ⟨s,h1,c,l,J,h3,h4,h5⟩:=tc j bj (ud hj);obtain ⟨s',fi,c',l',j3,tM,rB,AZ⟩:=tc q bq (ud hq);rw [ng j s h1,h4] at e1; obtain rfl:=Option.some.inj e1;rw [ng q s' fi,rB] at e2; obtain rfl:=Option.some.inj e2;refine hH.sep s s' c c' _ _ J j3 (fun e=>aD ?_) (ai.cZ (h3.own ho).1).1 h4 rB
   subst e;exact (List.getElem?_inj (List.getElem?_eq_some_iff.1 h1).1 mP).1 (h1.trans fi.symm)
 have ae0:∀ id,((S.ah i).map some).length≤id→(ν.comp σ) id=none:=by
  intro id bm;rw [List.length_map] at bm;simp [Nu.comp,List.getElem?_eq_none (show σ.length≤id by omega)]
 have ado:∀ id b l,((S.ah i).map some)[id]?=some (some b)→b.own=true→(ν.comp σ) id=some l→Oc l.aL:=by
  intro id b l hb ho hl;obtain ⟨s,h1,c,l',J,h3,h4,h5⟩:=tc id b (ud hb);rw [ng id s h1,h4] at hl; obtain rfl:=Option.some.inj hl;exact ⟨id,s,b,_,h1,ud hb,ho,h4,rfl⟩
 have rA:∀ x,Oc x→O x:=by
  rintro x ⟨j,s,b,l,h1,J,h3,h4,rfl⟩
  obtain ⟨s',fi,c,l',j3,tM,rB,_⟩:=tc j b J;rw [h1] at fi; cases fi;exact kl s c l j3 (ai.cZ (tM.own h3).1).1 h4
 refine y7 (O:=Oc) (ν:=ν.comp σ) (hE.x hI hy) hD hf (h i hp) n3 JT ae0 ado (CF hu) ?_;intro gn v v' t H' a w' hi hk hv;obtain ⟨ps,pU,ae1,lf,adp,dE,v3,adq,AX⟩:=hk;have tb:(ν.comp σ).le gn:=hi.mono
 let ak:Nu:=fun id=>if id < H.length then ν id else (ps[id - H.length]?).bind gn
 have uT:∀ id,id < H.length→ak id=ν id:=fun id h=>by simp only [ak]; rw [if_pos h]
 have sM:∀ j p,ps[j]?=some p→ak (H.length+j)=gn p:=fun j p h=>by
  simp only [ak]; rw [if_neg (by omega),Nat.add_sub_cancel_left,h]; rfl
 have Ic:ν.le ak:=by
  intro id l bm;have:id < H.length:=by
   rcases Nat.lt_or_ge id H.length with h | h
   ·exact h
   ·rw [gm id h] at bm; cases bm
  rw [uT id this]; exact bm
 -- own blocks of the arguments, behind the call
 have PY:∀ (j s:Nat) (b:ai) (l:Loc),σ[j]?=some s→(S.ah i)[j]?=some b→b.own=true→ν s=some l→∃ q c,(S.post i)[j]?=some q∧H1[s]?=some (some q)∧H'[j]?=some (some c)∧c.own=true∧C1 q c∧gn j=some l:=by
  intro j s b l h1 J h3 h4;obtain ⟨q,h5,h6,h60⟩:=(QI j s b h1 J).1 h3;obtain ⟨c,h7,h8,h9⟩:=adp j b q J h5 h3;exact ⟨q,c,h5,h6,h7,h8,⟨h9,h60⟩,tb j l (by rw [ng j s h1]; exact h4)⟩
 -- a block that the callee does not own has not turned
 have Ia:∀ (id:Nat) (b:ai) (l:Loc),H[id]?=some (some b)→ν id=some l→(∀ (j:Nat) (c:ai),σ[j]?=some id→(S.ah i)[j]?=some c→c.own=false)→¬ Oc l.aL∧w'.heap[l.aL]?=w.heap[l.aL]?:=by
  intro id b l hb hl ox;obtain ⟨l0,e1,hB⟩:=hH.aL id b hb;rw [hl] at e1; cases e1;have RH:¬ Oc l.aL:=by
   rintro ⟨j,s,bj,lj,h1,J,h3,h4,h5⟩
   obtain ⟨s',fi,c,l',j3,tM,rB,_⟩:=tc j bj J;rw [h1] at fi; cases fi;have aD:s≠id:=by
    intro e;subst e;have:=ox j bj h1 J;rw [h3] at this; cases this
   exact hH.sep s id c b lj l j3 hb aD (ai.cZ (tM.own h3).1).1 h4 hl h5.symm
  exact ⟨RH,hi.kp.aL _ hB.live RH⟩
 -- the callee's new blocks
 have adr:∀ (j p:Nat) (b:ai),ps[j]?=some p→(S.new i)[j]?=some b→∃ c l,H'[p]?=some (some c)∧c.own=true∧aH b c∧gn p=some l∧bP gn l c w'∧w.heap.size≤l.aL:=by
  intro j p b h1 J;obtain ⟨c,h3,h4,h5⟩:=dE j p b h1 J;obtain ⟨l,h6,h7⟩:=hi.hp.aL p c h3;refine ⟨c,l,h3,h4,h5,h6,h7,?_⟩;rcases hi.own p c l h3 h4 h6 with ⟨j',s,b',l',k1,k2,k3,k4,k5⟩ | h
  ·obtain ⟨q,c',_,_,k6,k7,_,k8⟩:=PY j' s b' l' k1 k2 k3 k4;have al:j' < (S.ah i).length:=(List.getElem?_eq_some_iff.1 k2).1;have:=ae1 p (List.mem_of_getElem? h1);exact absurd k5 (hi.hp.sep p j' c c' l l' h3 k6 (by omega) h4 h6 k8)
  ·exact h
 -- which blocks there are behind the call
 have xV:∀ (id:Nat) (b:ai),(H1++(S.new i).map some)[id]?=some (some b)→
   (id < H.length∧∃ b0 l,H[id]?=some (some b0)∧ν id=some l∧(b.own=true→b0.own=true)∧bP ak l b w'∧((∃ (j:Nat) (bj:ai),σ[j]?=some id∧(S.ah i)[j]?=some bj∧bj.own=true)∨(¬ Oc l.aL∧l.aL < w.heap.size))) ∨
   (∃ (j p:Nat) (c:ai) (l:Loc),id=H.length+j∧ps[j]?=some p∧(S.new i)[j]?=some b∧H'[p]?=some (some c)∧c.own=true∧gn p=some l∧bP ak l b w'∧w.heap.size≤l.aL):=by
  intro id b hb;rw [List.getElem?_append] at hb
  split at hb
  ·rename_i al;rw [mc] at al;refine .inl ⟨al,?_⟩;by_cases gL:∃ (j:Nat) (bj:ai),σ[j]?=some id∧(S.ah i)[j]?=some bj∧bj.own=true
   ·obtain ⟨j,bj,h1,J,h3⟩:=gL;obtain ⟨s',fi,c,l,h4,h5,h6,h7⟩:=tc j bj J;rw [h1] at fi; cases fi;obtain ⟨q,c',h8,h9,A0,RI,h12,h13⟩:=PY j id bj l h1 J h3 h6;rw [h9] at hb; cases hb;obtain ⟨l',RJ,h15⟩:=hi.hp.aL j c' A0;rw [h13] at RJ; cases RJ;exact ⟨c,l,h4,h6,fun _=>(ai.cZ (h5.own h3).1).1,h15.le h12,.inl ⟨j,bj,h1,J,h3⟩⟩
   ·have ox:∀ (j:Nat) (c:ai),σ[j]?=some id→(S.ah i)[j]?=some c→c.own=false:=by
     intro j c h1 J;cases h:c.own with
     | false=>rfl
     | true=>exact absurd ⟨j,c,h1,J,h⟩ gL
    have JU:H[id]?=some (some b):=by
     by_cases l9:id∈σ
     ·obtain ⟨j,hj⟩:=List.getElem?_of_mem l9;have Jj:j < (S.ah i).length:=by rw [← hlen]; exact (List.getElem?_eq_some_iff.1 hj).1
      have:=(QI j id _ hj (List.getElem?_eq_getElem Jj)).2 (ox j _ hj (List.getElem?_eq_getElem Jj));rw [← this]; exact hb
     ·rw [← aeY id l9]; exact hb
    obtain ⟨l,h1,J⟩:=hH.aL id b JU;obtain ⟨h3,h4⟩:=Ia id b l JU h1 ox;exact ⟨b,l,JU,h1,fun h=>h,(J.same h4 hi.kp.size).mono Ic,.inr ⟨h3,J.live⟩⟩
  ·rename_i eK;rw [mc] at hb eK;have hb:=ud hb;have al:id - H.length < ps.length:=by rw [lf]; exact (List.getElem?_eq_some_iff.1 hb).1
   obtain ⟨c,l,h1,J,h3,h4,h5,h6⟩:=adr _ _ b (List.getElem?_eq_getElem al) hb;exact .inr ⟨id - H.length,_,c,l,by omega,List.getElem?_eq_getElem al,hb,h1,J,h4,h5.le ⟨h3,aeZ b (List.mem_of_getElem? hb)⟩,h6⟩
 have afH:∀ (j p:Nat),ps[j]?=some p→ak (H.length+j)=gn p:=sM;refine ⟨v2,v',ak,H1++(S.new i).map some,rfl,hK,?_,Ic,⟨fun id b hb=>?_,fun p q bp bq lp lq Jn Js aD ho e1 e2=>?_⟩,fun id bm=>?_,⟨hi.kp.os,hi.kp.tape,hi.kp.output,hi.kp.size,fun b h1 J=>hi.kp.aL b h1 (fun h=>J (rA b h))⟩,fun id b l hb ho hl=>?_⟩
 ·have h1:=wY 3 _ _ _ adq (au.IW AX hv);refine Gl 3 _ _ _ PX (h1.mono (fun j lj hj=>?_))
  unfold Nu.comp at hj ⊢;by_cases al:j < (S.ah i).length
  ·rw [List.getElem?_append_left (by simpa using al),List.getElem?_range al] at hj
   have hj:gn j=some lj:=hj;obtain ⟨s,J,c,l,h3,h4,h5,_⟩:=tc j _ (List.getElem?_eq_getElem al);have:=tb j l (by rw [ng j s J]; exact h5)
   rw [hj] at this; cases this;rw [List.getElem?_append_left (List.getElem?_eq_some_iff.1 J).1,J];exact Ic s lj h5
  ·rw [List.getElem?_append_right (by simp; omega)] at hj
   rw [List.length_range] at hj;rw [List.getElem?_append_right (by omega),LN,hlen]
   cases tJ:ps[j - (S.ah i).length]? with
   | none=>rw [tJ] at hj; cases hj
   | some p =>
    rw [tJ] at hj;have hj:gn p=some lj:=hj;have:=(List.getElem?_eq_some_iff.1 tJ).1;rw [if_pos (by omega)]
    show ak (H.length+(j - (S.ah i).length))=_
    rw [sM _ _ tJ]; exact hj
 ·rcases xV id b hb with ⟨al,b0,l,h1,J,_,h3,_⟩ | ⟨j,p,c,l,rfl,h1,J,h3,h4,h5,h6,h7⟩
  ·exact ⟨l,by rw [uT id al]; exact J,h3⟩
  ·exact ⟨l,by rw [sM j p h1]; exact h5,h6⟩
 ·rcases xV p bp Jn with ⟨al,b0,l,h1,J,h3,h4,h5⟩ | ⟨j,pp,c,l,rfl,h1,J,h3,h4,h5,h6,h7⟩ <;>
   rcases xV q bq Js with ⟨q9,RK,l',fi,j3,tM,rB,AZ⟩ | ⟨j',pp',c',l',rfl,fi,j3,tM,rB,AZ,h6',h7'⟩
  ·rw [uT p al,J] at e1; cases e1;rw [uT q q9,j3] at e2; cases e2;exact hH.sep p q b0 RK _ _ h1 fi aD (h3 ho) J j3
  ·rw [uT p al,J] at e1; cases e1;rw [sM _ _ fi,AZ] at e2; cases e2;have:=(hH.aL p b0 h1);obtain ⟨l0,e3,e4⟩:=this;rw [J] at e3; cases e3;have:=e4.live;omega
  ·rw [sM _ _ h1,h5] at e1; cases e1;rw [uT q q9,j3] at e2; cases e2;obtain ⟨l0,e3,e4⟩:=hH.aL q RK fi;rw [j3] at e3; cases e3;have:=e4.live;omega
  ·rw [sM _ _ h1,h5] at e1; cases e1;rw [sM _ _ fi,AZ] at e2; cases e2;refine hi.hp.sep pp pp' c c' _ _ h3 tM (fun e=>aD ?_) h4 h5 AZ
   subst e;rw [(List.getElem?_inj (List.getElem?_eq_some_iff.1 h1).1 pU).1 (h1.trans fi.symm)]
 ·rw [List.length_append,List.length_map,mc] at bm;simp only [ak];rw [if_neg (by omega),List.getElem?_eq_none (by omega)]
  rfl
 ·rcases xV id b hb with ⟨al,b0,l',h1,J,h3,_⟩ | ⟨j,p,c,l',rfl,h1,J,h3,h4,h5,h6,h7⟩
  ·rw [uT id al,J] at hl; cases hl;exact .inl (kl id b0 _ h1 (h3 ho) J)
  ·rw [sM j p h1,h5] at hl; cases hl;exact .inr h7
end
open Go Go.RowKit
def CI (P:Program) (g:TypeId→Option (Bool × List Value)):Nat→List Field→Option (List Value)
 | _,[]=>some []
 | o, f :: l => match Nat.beq f.offset o && (f.name != "_"), g f.type, P.info? f.type, P.underlying f.type with
  | true,some (b,z),some i,some d=>match Nat.beq i.size z.length && (uP d == b) && Nat.ble 1 z.length with
   | true=>match CI P g (o+z.length) l with
    | some zs=>some (z++zs)
    | none=>none
   | false=>none
  | _,_,_,_=>none
def xZ (P:Program):Nat→TypeId→Option (Bool × List Value)
 | 0,_=>none
 | d+1,t=>match P.underlying t with
  | some .bool=>some (false,[.bool false])
  | some (.int q)=>some (false,[.int q 0])
  | some .string=>some (false,[.string ⟨#[]⟩])
  | some (.struct fs)=>match P.stoodInHeld t with
   | true=>none
   | false=>match CI P (xZ P d) 0 fs.toList with
    | some z=>some (true,z)
    | none=>none
  | _=>none
theorem rV:∀ {l m:List Value},fc l m=true→l.length=m.length
 | [],[],_=>rfl
 | .bool _::l,.bool _::m,h=>by simp [rV (l:=l) (m:=m) h]
 | .int q _::l,.int q' _::m,h=>by
  simp only [fc,Bool.and_eq_true] at h;simp [rV (l:=l) (m:=m) h.2]
 | .string _::l,.string _::m,h=>by simp [rV (l:=l) (m:=m) h]
def JV (x v:Value):Prop:=(∃ a b,x=.bool a∧v=.bool b)∨(∃ q a b,x=.int q a∧v=.int q b)∨∃ a b,x=.string a∧v=.string b
theorem C6 {xs z:List Value} {v:Value} (h:fc xs (v::z)=true):∃ x l,xs=x::l∧JV x v∧fc l z=true:=by
 generalize e:v::z=w at h;unfold fc at h
 split at h
 ·cases e
 ·cases e; exact ⟨_,_,rfl,.inl ⟨_,_,rfl,rfl⟩,h⟩
 ·cases e;simp only [Bool.and_eq_true,decide_eq_true_eq] at h;obtain ⟨rfl,h⟩:=h;exact ⟨_,_,rfl,.inr (.inl ⟨_,_,_,rfl,rfl⟩),h⟩
 ·cases e; exact ⟨_,_,rfl,.inr (.inr ⟨_,_,rfl,rfl⟩),h⟩
 ·cases h
theorem Hv {xs:List Value} (h:fc xs []=true):xs=[]:=List.length_eq_zero_iff.1 (rV h)
theorem X2 {x v:Value} {l z:List Value} (h:JV x v) (J:fc l z=true):fc (x::l) (v::z)=true:=by
 rcases h with ⟨a,b,rfl,rfl⟩ | ⟨q,a,b,rfl,rfl⟩ | ⟨a,b,rfl,rfl⟩
 ·exact J
 ·simp only [fc,decide_true,Bool.true_and]; exact J
 ·exact J
theorem E3:∀ {z xs zs:List Value},fc xs (z++zs)=true→∃ x1 x2,xs=x1++x2∧fc x1 z=true∧fc x2 zs=true
 | [],xs,zs,h=>⟨[],xs,rfl,rfl,h⟩
 | v::z,xs,zs,h=>by
  obtain ⟨x,l,rfl,h1,J⟩:=C6 (z:=z++zs) h;obtain ⟨x1,x2,rfl,h3,h4⟩:=E3 J;exact ⟨x::x1,x2,rfl,X2 h1 h3,h4⟩
theorem KD:∀ {z x1 y1 x2 y2:List Value},fc x1 z=true→fc y1 z=true→eL (x1++x2) (y1++y2)=(eL x1 y1 && eL x2 y2)
 | [],x1,y1,x2,y2,h1,J=>by
  rw [Hv h1,Hv J];simp [eL]
 | v::z,x1,y1,x2,y2,h1,J=>by
  obtain ⟨x,l,rfl,a1,a2⟩:=C6 h1;obtain ⟨y,m,rfl,b1,b2⟩:=C6 J;have ih:=KD (x2:=x2) (y2:=y2) a2 b2;rcases a1 with ⟨p,_,rfl,rfl⟩ | ⟨q,p,_,rfl,rfl⟩ | ⟨p,_,rfl,rfl⟩
  all_goals
   rcases b1 with ⟨r,_,rfl,e⟩ | ⟨q',r,_,rfl,e⟩ | ⟨r,_,rfl,e⟩
  all_goals first | (cases e; done) | skip
  all_goals
   simp only [List.cons_append,eL,ih,Bool.and_assoc]
theorem xJ {xs:List Value} {v:Value} (h:fc xs [v]=true):∃ x,xs=[x]∧JV x v:=by
 obtain ⟨x,l,rfl,h1,J⟩:=C6 h;rw [Hv J];exact ⟨x,rfl,h1⟩
def toV (b:Bool) (xs:List Value):Value:=if b then .agg ⟨xs⟩ else xs.getD 0 undef
theorem KU {P:Program} {d:Nat} (ih:∀ t b z,xZ P d t=some (b,z)→∀ n xs ys w,fc xs z=true→fc ys z=true→(Op.equalIn (n+d) t (toV b xs) (toV b ys)).run P w=.ok (eL xs ys) w) (n:Nat) (w:World) (XS YS:List Value) :
  ∀ (l:List Field) (o:Nat) (z:List Value),CI P (xZ P d) o l=some z→∀ xs ys,fc xs z=true→fc ys z=true→(∀ j v,xs[j]?=some v→XS[o+j]?=some v)→(∀ j v,ys[j]?=some v→YS[o+j]?=some v) →
   (Op.eqFields (n+d) ⟨XS⟩ ⟨YS⟩ l).run P w=.ok (eL xs ys) w
 | [],o,z,h,xs,ys,h1,J,_,_=>by
  cases h;have e1:=rV h1;have e2:=rV J;have e1:xs=[]:=List.length_eq_zero_iff.1 e1;have e2:ys=[]:=List.length_eq_zero_iff.1 e2;subst e1; subst e2
  rfl
 | f::l,o,z,h,xs,ys,h1,J,hx,hy=>by
  unfold CI at h
  split at h
  ·rename_i b z1 i dd hb hg hi hu
   split at h
   ·rename_i hc
    split at h
    ·rename_i zs hz;cases h;simp only [Bool.and_eq_true] at hb hc;obtain ⟨⟨c1,c2⟩,c3⟩:=hc;obtain ⟨x1,x2,rfl,tD,oi⟩:=E3 h1;obtain ⟨y1,y2,rfl,ny,oj⟩:=E3 J;have lx:=rV tD;have ly:=rV ny;have aW:=Nat.eq_of_beq_eq_true c1;have RL:zk P f (o,z1.length,b):=⟨Nat.eq_of_beq_eq_true hb.1,Nat.le_of_ble_eq_true c3,⟨i,hi,aW⟩,dd,hu,by simpa using c2⟩
     have p1:=Gj RL (cs:=XS) (vs:=x1) lx (fun j v hv=>hx j v (by rw [List.getElem?_append_left (by rw [List.getElem?_eq_some_iff] at hv; exact hv.1)]; exact hv)) w
     have p2:=Gj RL (cs:=YS) (vs:=y1) ly (fun j v hv=>hy j v (by rw [List.getElem?_append_left (by rw [List.getElem?_eq_some_iff] at hv; exact hv.1)]; exact hv)) w
     have p3:=ih f.type b z1 hg n x1 y1 w tD ny;have p4:=KU ih n w XS YS l (o+z1.length) zs hz x2 y2 oi oj
      (fun j v hv=>by
       rw [Nat.add_assoc];refine hx _ v ?_;rw [List.getElem?_append_right (by omega),← lx,Nat.add_sub_cancel_left]
       exact hv)
      (fun j v hv=>by
       rw [Nat.add_assoc];refine hy _ v ?_;rw [List.getElem?_append_right (by omega),← ly,Nat.add_sub_cancel_left]
       exact hv)
     have aD : f.name ≠ "_" := by simpa using hb.2
     unfold Op.eqFields;rw [if_pos aD];unfold toV at p3;simp only [Sem.run_bind,p1,p2,Result.andThen_ok];rw [p3];simp only [Result.andThen_ok];rw [KD tD ny];cases eL x1 y1
     ·rfl
     ·simpa using p4
    ·cases h
   ·cases h
  ·cases h
theorem LO {P:Program}:∀ (d:Nat) (t:TypeId) (b:Bool) (z:List Value),xZ P d t=some (b,z)→∀ (n:Nat) (xs ys:List Value) (w:World),fc xs z=true→fc ys z=true →
  (Op.equalIn (n+d) t (toV b xs) (toV b ys)).run P w=.ok (eL xs ys) w
 | 0,t,b,z,h=>by cases h
 | d+1,t,b,z,h=>by
  intro n xs ys w h1 J;unfold xZ at h
  split at h
  ·rename_i hu;cases h;obtain ⟨x,rfl,a1⟩:=xJ h1;obtain ⟨y,rfl,a2⟩:=xJ J;rcases a1 with ⟨x,_,rfl,e⟩ | ⟨_,x,_,rfl,e⟩ | ⟨x,_,rfl,e⟩
   all_goals first | (cases e; done) | skip
   rcases a2 with ⟨y,_,rfl,e⟩ | ⟨_,y,_,rfl,e⟩ | ⟨y,_,rfl,e⟩
   all_goals first | (cases e; done) | skip
   ·skip
    rw [show toV false [Value.bool x]=.bool x from rfl,show toV false [Value.bool y]=.bool y from rfl]
    rw [show n+(d+1)=(n+d)+1 from rfl,run_equalIn_bool' w (n+d) t x y hu]
    simp [eL]
  ·rename_i q hu;cases h;obtain ⟨x,rfl,a1⟩:=xJ h1;obtain ⟨y,rfl,a2⟩:=xJ J;rcases a1 with ⟨x,_,rfl,e⟩ | ⟨q1,x,_,rfl,e⟩ | ⟨x,_,rfl,e⟩
   all_goals first | (cases e; done) | skip
   cases e;rcases a2 with ⟨y,_,rfl,e⟩ | ⟨q2,y,_,rfl,e⟩ | ⟨y,_,rfl,e⟩
   all_goals first | (cases e; done) | skip
   cases e
   ·skip
    rw [show toV false [Value.int q x]=.int q x from rfl,show toV false [Value.int q y]=.int q y from rfl]
    rw [show n+(d+1)=(n+d)+1 from rfl,run_equalIn_int w (n+d) t q q x y hu]
    simp [eL]
  ·rename_i hu;cases h;obtain ⟨x,rfl,a1⟩:=xJ h1;obtain ⟨y,rfl,a2⟩:=xJ J;rcases a1 with ⟨x,_,rfl,e⟩ | ⟨_,x,_,rfl,e⟩ | ⟨x,_,rfl,e⟩
   all_goals first | (cases e; done) | skip
   rcases a2 with ⟨y,_,rfl,e⟩ | ⟨_,y,_,rfl,e⟩ | ⟨y,_,rfl,e⟩
   all_goals first | (cases e; done) | skip
   ·skip
    rw [show toV false [Value.string x]=.string x from rfl,show toV false [Value.string y]=.string y from rfl]
    rw [show n+(d+1)=(n+d)+1 from rfl,run_equalIn_string w (n+d) t x y hu]
    simp [eL]
  ·rename_i fs hu
   split at h
   ·cases h
   ·rename_i ar
    split at h
    ·rename_i z0 hz;cases h;have v5:P.fieldsOf t=fs:=by unfold Program.fieldsOf; rw [hu]
     show (Op.equalIn (n+(d+1)) t (.agg ⟨xs⟩) (.agg ⟨ys⟩)).run P w=_
     rw [show n+(d+1)=(n+d)+1 from rfl,run_equalIn_struct w (n+d) t ⟨xs⟩ ⟨ys⟩ (by rw [v5]; exact hu) ar,v5]
     exact KU (LO d) n w xs ys fs.toList 0 _ hz xs ys h1 J (fun j v hv=>by rw [Nat.zero_add]; exact hv) (fun j v hv=>by rw [Nat.zero_add]; exact hv)
    ·cases h
  ·cases h
theorem ae2 {P:Program} {t:TypeId} {z:List Value} (h:xZ P 5 t=some (true,z)) (hg:P.eqGuardType P.depth t=false):yf P t z:=by
 intro xs ys w h1 J;refine ⟨?_,fun x y op=>run_eqGuard_agg w op t x y ⟨xs⟩ ⟨ys⟩ hg⟩
 exact LO 5 t true z h 9995 xs ys w h1 J
open Go Go.RowKit
def vg:Code→Option (Array Nat × Code × Code)
 | .rangeFunc _ ps a b=>some (ps,a,b)
 | .seq a b=>match vg a with
  | some x=>some x
  | none=>vg b
 | .block _ c=>vg c
 | .loop c=>vg c
 | .cond _ a b=>match vg a with
  | some x=>some x
  | none=>vg b
 | _=>none
def re (f:Func) (fn:FuncId) (tm:Array Value) (df:Nat):Loop :=
 match f.body with
 | some c=>match vg c with
  | some (ps,a,b)=>⟨.ready,none,fn,tm,ps,a,b,df⟩
  | none=>⟨.ready,none,fn,tm,#[],.skip,.skip,df⟩
 | none=>⟨.ready,none,fn,tm,#[],.skip,.skip,df⟩
def dn (id:Nat):Nat→Value
 | 0=>.slice none 0 0
 | q+1=>.slice (some ⟨id,0,none⟩) (q+1) aI
def Ao (e:Nat) (F:Nat→List Value):Nat→ay
 | 0=>[]
 | q+1=>[some (.flat true (q+1) e F)]
end Go.Ae
