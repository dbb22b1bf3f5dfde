import Derived.Laws.StructEq
import Derived.Test.YtlapbjdhekcipaaGreatXB
set_option linter.unusedVariables false
set_option linter.unusedSimpArgs false
namespace Go.Ae
open Go Go.RowKit
def nC (es:List (Option Nat)) (D:Nat→Bool) (i:Nat):Bool:=(List.range es.length).any fun p=>D p && (es.getD p none == some i)
theorem tX {es:List (Option Nat)} {D:Nat→Bool} {i:Nat}:nC es D i=true↔∃ p,D p=true∧es[p]?=some (some i):=by
 unfold nC;rw [List.any_eq_true];constructor
 ·rintro ⟨p,hp,h⟩
  rw [Bool.and_eq_true,beq_iff_eq,List.getD_eq_getElem?_getD,List.getElem?_eq_getElem (List.mem_range.1 hp)] at h;exact ⟨p,h.1,by rw [List.getElem?_eq_getElem (List.mem_range.1 hp)]; exact congrArg some h.2⟩
 ·rintro ⟨p,h1,J⟩
  have an:=(List.getElem?_eq_some_iff.1 J).1;refine ⟨p,List.mem_range.2 an,?_⟩;rw [h1,List.getD_eq_getElem?_getD,J];simp
def jd (es:List (Option Nat)) (rs:List c6) (D:Nat→Bool) (m:Nat):List (Option aj):=(List.range m).map fun i=>if D i && !nC es D i then (rs[i]?).bind (·.nb) else none
theorem wC {es:List (Option Nat)} {rs:List c6} {D:Nat→Bool} {m i:Nat} {b:aj}:(jd es rs D m)[i]?=some (some b)↔i < m∧D i=true∧nC es D i=false∧(rs[i]?).bind (·.nb)=some b:=by
 unfold jd;rw [List.getElem?_map];by_cases h:i < m
 ·simp only [List.getElem?_range h,Option.map_some,Option.some.injEq];cases D i <;> cases nC es D i <;> simp [h]
 ·rw [List.getElem?_eq_none (by simp; omega)]
  simp [h]
theorem Ba (es:List (Option Nat)) (rs:List c6) (D:Nat→Bool) (m:Nat):(jd es rs D m).length=m:=by simp [jd]
def je (es:List (Option Nat)) (rs:List c6):List (Option aj):=jd es rs (fun i=>decide (i < rs.length)) rs.length
def HJ (ms:List (List Nat)) (j i:Nat):Bool :=
 decide (i < j) && (ms.getD j []).contains i && (List.range ms.length).all fun q=>q == j || !((ms.getD q []).contains i) || (ms.getD j []).contains q
theorem Tt {ms:List (List Nat)} {j i:Nat} (h:HJ ms j i=true):i < j∧i∈ms.getD j []∧∀ q,q≠j→i∈ms.getD q []→q∈ms.getD j []:=by
 unfold HJ at h;simp only [Bool.and_eq_true,decide_eq_true_eq,List.contains_iff_mem,List.all_eq_true,List.mem_range,Bool.or_eq_true,beq_iff_eq,Bool.not_eq_true'] at h;refine ⟨h.1.1,h.1.2,fun q hq hi=>?_⟩
 have an:q < ms.length:=by
  rcases Nat.lt_or_ge q ms.length with h' | h'
  ·exact h'
  ·rw [List.getD_eq_getElem?_getD,List.getElem?_eq_none h'] at hi; cases hi
 rcases h.2 q an with (h' | h') | h'
 ·exact absurd h' hq
 ·rw [List.contains_iff_mem.2 hi] at h'; cases h'
 ·exact h'
def nD (E:Env) (ops:List Oper) (vG:List (List Nat)) (H:aA) (n0:Nat):List Oper→List (List Nat)→Nat→List Value→List (Option aj)→(List Value→List (Option aj)→Prop)→Prop
 | [],_,_,t,S,k=>k t S
 | o::l,mask::aS,j,t,S,k =>
  match o.guard with
  | none=>match isApp o.op with
   | some (ty,x,y)=>lP S 0 mask fun Sm=>nQ H Sm fun G=>Qb E t G n0 (n0+j) ty x y fun v gl nb=>match gl with
    | some i=>HJ vG j i=true∧dq t o.dst v fun t'=>jx S i none fun S1=>jv S1 nb fun S'=>nD E ops vG H n0 l aS (j+1) t' S' k
    | none=>dq t o.dst v fun t'=>jv S nb fun S'=>nD E ops vG H n0 l aS (j+1) t' S' k
   | none=>lP S 0 mask fun Sm=>nQ H Sm fun G=>lu E o.op t G (n0+j) fun v nb=>dq t o.dst v fun t'=>jv S nb fun S'=>nD E ops vG H n0 l aS (j+1) t' S' k
  | some (g,want)=>match (ops[g]?).bind (·.dst) with
   | some d=>qQ t d fun v=>match v with
    | .bool b=>br (b == want)
      (lP S 0 mask fun Sm=>nQ H Sm fun G=>lu E o.op t G (n0+j) fun v nb=>dq t o.dst v fun t'=>jv S nb fun S'=>nD E ops vG H n0 l aS (j+1) t' S' k)
      (dq t o.dst undef fun t'=>jv S none fun S'=>nD E ops vG H n0 l aS (j+1) t' S' k)
    | .tuple _=>dq t o.dst undef fun t'=>jv S none fun S'=>nD E ops vG H n0 l aS (j+1) t' S' k
    | _=>False
   | none=>False
 | _::_,[],_,_,_,_=>False
def Pj (E:Env) (ops:List Oper) (t:List Value) (H:aA) (k:SK):Prop :=
 ∃ (m:Nat) (aS:List (List Nat)),CI ops m aS=true∧jy H fun n0=>uV ops m fun hd tl=>nD E ops aS H n0 hd aS 0 t [] fun t' S=>nQ H S fun G=>nI E ops tl t' G k
structure pF (P:Program) (ops:List Oper) (t0:List Value) (H:aA) (aS:List (List Nat)) (rs:List c6) (es:List (Option Nat)) (j:Nat):Prop where
 ok:∃ o r gl,ops[j]?=some o∧rs[j]?=some r∧es[j]?=some gl∧(∀ d,o.dst=some d→d < t0.length) ∧
  ((∃ G:aA,(∀ id b,G[id]?=some (some b)→(id < H.length∧H[id]?=some (some b))∨(∃ i,id=H.length+i∧i < j∧i∈aS.getD j []∧(rs[i]?).bind (·.nb)=some b)) ∧
    (∀ i,gl=some i→i < j∧i∈aS.getD j []∧(∀ q,q≠j→i∈aS.getD q []→q∈aS.getD j [])∧∃ b,G[H.length+i]?=some (some b)∧b.own=true) ∧
    (∀ (ν:Nu) (a:Act) (w:World) (q:Option Nat) (n:Nat),(∀ x∈o.op.operands,fj ν (bc ops rs (fun i=>decide (i < j)) t0 j) a x)→bT ν G w→ν (H.length+j)=none →
     ∀ next Q,(∀ v' w' al,EPost ν al (H.length+j) (gl.bind fun i=>ν (H.length+i)) w w' r.v v' r.nb→next (a.put o.dst v') w')→o.wpIn (WF q) n P a w next Q) ∧
    (o.guard=none∨∃ g want d b,o.guard=some (g,want)∧bU ops g=some d∧(bc ops rs (fun i=>decide (i < j)) t0 j)[d]?=some (.bool b)∧(b == want)=true)) ∨
    (gl=none∧r.v=undef∧r.nb=none∧∃ g want d v,o.guard=some (g,want)∧bU ops g=some d∧(bc ops rs (fun i=>decide (i < j)) t0 j)[d]?=some v∧((∃ b,v=.bool b∧(b == want)=false)∨∃ vs,v=.tuple vs)))
theorem pF.more {P:Program} {ops:List Oper} {t0:List Value} {H:aA} {aS:List (List Nat)} {rs:List c6} {es:List (Option Nat)} {j:Nat} (h:pF P ops t0 H aS rs es j) (hj:j < rs.length) (hj2:j < es.length) (r:c6) (e:Option Nat):pF P ops t0 H aS (rs++[r]) (es++[e]) j:=by
 have he:∀ i,i≤j→(rs++[r])[i]?=rs[i]?:=fun i hi=>by rw [List.getElem?_append_left (by omega)]
 have hv:∀ D,bc ops (rs++[r]) D t0 j=bc ops rs D t0 j:=fun D=>tO (fun i hi=>he i (by omega))
 obtain ⟨o,q,gl,h1,J,jY,h3,h4⟩:=h.ok;refine ⟨⟨o,q,gl,h1,by rw [he j (Nat.le_refl _)]; exact J,by rw [List.getElem?_append_left hj2]; exact jY,h3,?_⟩⟩
 rw [hv];rcases h4 with ⟨G,g1,g2,g3,g4⟩ | h4
 ·exact .inl ⟨G,fun id b hb=>(g1 id b hb).imp (fun x=>x) (fun ⟨i,k1,k2,k3,k4⟩=>⟨i,k1,k2,k3,by rw [he i (by omega)]; exact k4⟩),g2,g3,g4⟩
 ·exact .inr h4
def qL (S:List (Option aj)):Option Nat→List (Option aj)
 | some i=>S.set i none
 | none=>S
theorem UP {es:List (Option Nat)} {rs:List c6} {i:Nat} {b:aj} (h:(je es rs)[i]?=some (some b)):(rs[i]?).bind (·.nb)=some b:=(wC.1 h).2.2.2
theorem Tu {es:List (Option Nat)} {rs:List c6} (hl:es.length=rs.length) (an:∀ (p i:Nat),es[p]?=some (some i)→i < p) (r:c6) (e:Option Nat) (he:∀ i,e=some i→i < rs.length) :
  je (es++[e]) (rs++[r])=qL (je es rs) e++[r.nb]:=by
 have hD:∀ i,i < rs.length+1→decide (i < (rs++[r]).length)=true:=fun i hi=>by simp; omega
 have Q9:∀ i,nC (es++[e]) (fun i=>decide (i < (rs++[r]).length)) i=(nC es (fun i=>decide (i < rs.length)) i || e == some i):=fun i=>by
  rw [Bool.eq_iff_iff,Bool.or_eq_true,tX,tX,beq_iff_eq];constructor
  ·rintro ⟨p,_,J⟩
   rw [List.getElem?_append] at J
   split at J
   ·rename_i hp;exact .inl ⟨p,by simp; omega,J⟩
   ·right
    have:p - es.length=0:=by
     rcases Nat.eq_zero_or_pos (p - es.length) with h | h
     ·exact h
     ·rw [List.getElem?_eq_none (by simp; omega)] at J; cases J
    rw [this] at J
    simpa using J
  ·rintro (⟨p,h1,J⟩ | J)
   ·have:=(List.getElem?_eq_some_iff.1 J).1;exact ⟨p,by simp at h1 ⊢; omega,by rw [List.getElem?_append_left this]; exact J⟩
   ·exact ⟨es.length,by simp; omega,by rw [List.getElem?_append_right (Nat.le_refl _)]; simp [J]⟩
 apply List.ext_getElem?;intro x;have hlen:(qL (je es rs) e).length=rs.length:=by
  cases e <;> simp [qL,je,Ba]
 unfold je jd;rw [List.getElem?_map];by_cases hx:x < rs.length
 ·rw [List.getElem?_range (by simp; omega),List.getElem?_append_left (by cases e <;> simp [qL] <;> omega)]
  simp only [Option.map_some];simp only [Q9 x,hD x (by omega)]
  rw [List.getElem?_append_left hx];unfold qL;cases e with
  | none =>
   dsimp only
   rw [List.getElem?_map,List.getElem?_range hx];simp [hx]
  | some i =>
   dsimp only
   by_cases Jv:i=x
   ·subst Jv;rw [List.getElem?_set_self (by simpa using hx)]
    simp
   ·rw [List.getElem?_set_ne Jv,List.getElem?_map,List.getElem?_range hx];have:(some i == some x)=false:=by simp [Jv]
    rw [this];simp [hx]
 ·by_cases ox:x=rs.length
  ·subst ox;rw [List.getElem?_range (by simp),List.getElem?_append_right (by cases e <;> simp [qL])]
   have aE:nC es (fun i=>decide (i < rs.length)) rs.length=false:=by
    cases h:nC es (fun i=>decide (i < rs.length)) rs.length with
    | false=>rfl
    | true =>
     obtain ⟨p,h1,J⟩:=tX.1 h;have:=an p _ J;have:=of_decide_eq_true h1;omega
   have Ix:(e == some rs.length)=false:=by
    cases e with
    | none=>rfl
    | some i=>have:=he i rfl; simp; omega
   simp only [Option.map_some];simp only [Q9,hD _ (Nat.lt_succ_self _),aE,Ix];cases e <;> simp [qL]
  ·rw [List.getElem?_eq_none (by simp; omega),List.getElem?_eq_none (by cases e <;> simp [qL] <;> omega)]; rfl
theorem Lq {P:Program} {E:Env} (hE:EnvOk P E) {ops:List Oper} {t0:List Value} {H:aA} {aS:List (List Nat)} {k:List Value→List (Option aj)→Prop} :
  ∀ {l:List Oper} {ms:List (List Nat)} {j:Nat} {rs:List c6} {es:List (Option Nat)},rs.length=j→es.length=j→(∀ (p i:Nat),es[p]?=some (some i)→i < p)→(∀ (i:Nat) o,l[i]?=some o→ops[j+i]?=some o)→(∀ i,i < l.length→ms.getD i []=aS.getD (j+i) []) →
  (∀ i,i < j→pF P ops t0 H aS rs es i)→nD E ops aS H H.length l ms j (bc ops rs (fun i=>decide (i < j)) t0 j) (je es rs) k →
  ∃ (cf:List c6) (jZ:List (Option Nat)),cf.length=j+l.length∧jZ.length=j+l.length∧(∀ i,i < j+l.length→pF P ops t0 H aS cf jZ i)∧k (bc ops cf (fun i=>decide (i < j+l.length)) t0 (j+l.length)) (je jZ cf)
 | [],ms,j,rs,es,hl,g8,_,_,_,bd,h=>⟨rs,es,hl,g8,bd,h⟩
 | o::l,[],j,rs,es,hl,g8,_,_,_,bd,h=>h.elim
 | o::l,mask::ms,j,rs,es,hl,g8,an,ho,hm,bd,h=>by
  have oF:ops[j]?=some o:=by have:=ho 0 o rfl; simpa using this
  have C5:mask=aS.getD j []:=by have:=hm 0 (by simp); simpa using this
  -- the next step, whatever this one's result
  have next:∀ (r:c6) (e:Option Nat) t',(t'=match o.dst with | some d=>(bc ops rs (fun i=>decide (i < j)) t0 j).set d r.v | none=>bc ops rs (fun i=>decide (i < j)) t0 j)→(∀ i,e=some i→i < j) →
    (pF P ops t0 H aS (rs++[r]) (es++[e]) j)→nD E ops aS H H.length l ms (j+1) t' (qL (je es rs) e++[r.nb]) k →
    ∃ (cf:List c6) (jZ:List (Option Nat)),cf.length=j+(o::l).length∧jZ.length=j+(o::l).length∧(∀ i,i < j+(o::l).length→pF P ops t0 H aS cf jZ i)∧k (bc ops cf (fun i=>decide (i < j+(o::l).length)) t0 (j+(o::l).length)) (je jZ cf):=by
   intro r e t' jD fx hj h';have hv:bc ops (rs++[r]) (fun i=>decide (i < j+1)) t0 (j+1)=t':=by
    have hr:(rs++[r])[j]?=some r:=by rw [← hl]; simp
    have hd:bU ops j=o.dst:=by simp [bU,oF]
    have zC:bc ops (rs++[r]) (fun i=>decide (i < j+1)) t0 j=bc ops rs (fun i=>decide (i < j)) t0 j:=by
     rw [tO (cf:=rs) (fun i hi=>by rw [List.getElem?_append_left (by omega)])]
     exact yq (fun i hi=>by simp; omega)
    have Iu:decide (j < j+1)=true:=by simp
    rw [jD,Fc,hr,hd,zC,Iu];cases o.dst <;> rfl
   rw [← hv,← Tu (g8.trans hl.symm) an r e (fun i hi=>by rw [hl]; exact fx i hi)] at h'
   obtain ⟨cf,jZ,k1,Ra,k2,k3⟩:=Lq hE (l:=l) (ms:=ms) (j:=j+1) (rs:=rs++[r]) (es:=es++[e]) (by simp [hl]) (by simp [g8]) (fun p i hp=>by
     rw [List.getElem?_append] at hp
     split at hp
     ·exact an p i hp
     ·rename_i eF;have:p - es.length=0:=by
       rcases Nat.eq_zero_or_pos (p - es.length) with h | h
       ·exact h
       ·rw [List.getElem?_eq_none (by simp; omega)] at hp; cases hp
      rw [this] at hp;have:=fx i (by simpa using hp)
      omega) (fun i p hp=>by have:=ho (i+1) p (by simpa using hp); rwa [show j+1+i=j+(i+1) by omega])
    (fun i hi=>by have:=hm (i+1) (by simp; omega); rw [show j+1+i=j+(i+1) by omega]; simpa using this)
    (fun i hi=>by
     by_cases e':i=j
     ·subst e'; exact hj
     ·exact (bd i (by omega)).more (by omega) (by omega) r e) h'
   have e2:j+1+l.length=j+(o::l).length:=by simp; omega
   rw [e2] at k1 Ra k2 k3;exact ⟨cf,jZ,k1,Ra,k2,k3⟩
  have oG:∀ r:c6,bc ops (rs++[r]) (fun i=>decide (i < j)) t0 j=bc ops rs (fun i=>decide (i < j)) t0 j:=fun r=>tO (fun i hi=>by rw [List.getElem?_append_left (by omega)])
  have tx:∀ r:c6,(rs++[r])[j]?=some r:=fun r=>by rw [← hl]; simp
  have D4:∀ e:Option Nat,(es++[e])[j]?=some e:=fun e=>by rw [← g8]; simp
  -- what is seen of the blocks
  have seen:∀ {Sm:List (Option aj)} (r:c6),(∀ jj b,Sm[jj]?=some (some b)→(je es rs)[jj]?=some (some b)∧(0+jj)∈mask)→∀ id b,(H++Sm)[id]?=some (some b) →
    (id < H.length∧H[id]?=some (some b))∨(∃ i,id=H.length+i∧i < j∧i∈aS.getD j []∧((rs++[r])[i]?).bind (·.nb)=some b):=by
   intro Sm r h3 id b hb;rw [List.getElem?_append] at hb
   split at hb
   ·exact .inl ⟨by assumption,hb⟩
   ·rename_i eF;obtain ⟨q1,q2⟩:=h3 _ b hb;have aes:id - H.length < rs.length:=by
     have:=(List.getElem?_eq_some_iff.1 q1).1
     rwa [je,Ba] at this
    refine .inr ⟨id - H.length,by omega,by omega,by rw [← C5]; simpa using q2,?_⟩
    rw [List.getElem?_append_left aes];exact UP q1
  have Dw:∀ {v:Value} {kk:List Value→Prop},dq (bc ops rs (fun i=>decide (i < j)) t0 j) o.dst v kk→∃ t',(t'=match o.dst with | some d=>(bc ops rs (fun i=>decide (i < j)) t0 j).set d v | none=>bc ops rs (fun i=>decide (i < j)) t0 j)∧(∀ d,o.dst=some d→d < t0.length)∧kk t':=by
   intro v kk hk;cases hd:o.dst with
   | none=>rw [hd] at hk; exact ⟨_,rfl,(fun d hd=>by cases hd),hk⟩
   | some d =>
    rw [hd] at hk;obtain ⟨k1,k2⟩:=o4 hk;rw [rO] at k1;exact ⟨_,rfl,(fun d' cX=>by cases cX; exact k1),k2⟩
  have run:(o.guard=none∨∃ g want d b,o.guard=some (g,want)∧bU ops g=some d∧(bc ops rs (fun i=>decide (i < j)) t0 j)[d]?=some (.bool b)∧(b == want)=true) →
    (lP (je es rs) 0 mask fun Sm=>nQ H Sm fun G=>lu E o.op (bc ops rs (fun i=>decide (i < j)) t0 j) G (H.length+j) fun v nb=>dq (bc ops rs (fun i=>decide (i < j)) t0 j) o.dst v fun t'=>jv (je es rs) nb fun S'=>nD E ops aS H H.length l ms (j+1) t' S' k) →
    ∃ (cf:List c6) (jZ:List (Option Nat)),cf.length=j+(o::l).length∧jZ.length=j+(o::l).length∧(∀ i,i < j+(o::l).length→pF P ops t0 H aS cf jZ i)∧k (bc ops cf (fun i=>decide (i < j+(o::l).length)) t0 (j+(o::l).length)) (je jZ cf):=by
   intro hg h;obtain ⟨Sm,h1,J,h3⟩:=wm h;have h1:=ud h1;obtain ⟨v,nb,hk,hq⟩:=Bz (P:=P) hE h1;obtain ⟨t',e1,e2,e3⟩:=Dw hk;refine next ⟨v,nb,true⟩ none t' e1 (fun i hi=>by cases hi) ⟨⟨o,⟨v,nb,true⟩,none,oF,tx _,D4 _,e2,.inl ⟨H++Sm,seen _ h3,(fun i hi=>by cases hi),?_,?_⟩⟩⟩ (tS e3)
   ·rw [oG];exact fun ν a w q n ha hH hn next Q hN=>hq o ν a w q n rfl ha hH hn next Q (fun v' w' al hp=>hN v' w' al (hp.e _))
   ·rw [oG]; exact hg
  have skip:(∃ g want d v,o.guard=some (g,want)∧bU ops g=some d∧(bc ops rs (fun i=>decide (i < j)) t0 j)[d]?=some v∧((∃ b,v=.bool b∧(b == want)=false)∨∃ vs,v=.tuple vs)) →
    (dq (bc ops rs (fun i=>decide (i < j)) t0 j) o.dst undef fun t'=>jv (je es rs) none fun S'=>nD E ops aS H H.length l ms (j+1) t' S' k) →
    ∃ (cf:List c6) (jZ:List (Option Nat)),cf.length=j+(o::l).length∧jZ.length=j+(o::l).length∧(∀ i,i < j+(o::l).length→pF P ops t0 H aS cf jZ i)∧k (bc ops cf (fun i=>decide (i < j+(o::l).length)) t0 (j+(o::l).length)) (je jZ cf):=by
   intro hg hk;obtain ⟨t',e1,e2,e3⟩:=Dw hk;exact next ⟨undef,none,false⟩ none t' e1 (fun i hi=>by cases hi) ⟨⟨o,⟨undef,none,false⟩,none,oF,tx _,D4 _,e2,.inr ⟨rfl,rfl,rfl,by rw [oG]; exact hg⟩⟩⟩ (tS e3)
  unfold nD at h
  split at h
  ·rename_i hg
   split at h
   ·rename_i ty x y aet;obtain ⟨Sm,h1,J,h3⟩:=wm h;have h1:=ud h1;obtain ⟨v,gl,nb,hk,kD,hq⟩:=UO (P:=P) hE h1;obtain ⟨c,rB,Jw,Rb,hc4⟩:=Ts aet
    -- what the step gives
    have step:∀ (ν:Nu) (a:Act) (w:World) (q:Option Nat) (n:Nat),(∀ x∈o.op.operands,fj ν (bc ops rs (fun i=>decide (i < j)) t0 j) a x)→bT ν (H++Sm) w→ν (H.length+j)=none →
      ∀ next Q,(∀ v' w' al,EPost ν al (H.length+j) (gl.bind fun i=>ν (H.length+i)) w w' v v' nb→next (a.put o.dst v') w')→o.wpIn (WF q) n P a w next Q:=by
     intro ν a w q n ha hH hn next Q hN;have gI:∀ z,z∈[x,y]→z∈o.op.operands:=fun z hz=>by
      rw [rB];simp only [List.mem_cons,List.mem_nil_iff,or_false] at hz;rcases hz with rfl | rfl <;> simp [Op.operands,Call.operands,Rb]
     obtain ⟨v',w',al,bC,hp⟩:=hq ν a w o.type (ha x (gI x (by simp))) (ha y (gI y (by simp))) hH hn
     exact jI (by simp [rB]) (by simp [execOp,rB,resolve,Jw,Rb,hc4,invoke,builtin,bC]) next Q (hN _ _ _ hp)
    cases gl with
    | none =>
     obtain ⟨t',e1,e2,e3⟩:=Dw hk;exact next ⟨v,nb,true⟩ none t' e1 (fun i hi=>by cases hi) ⟨⟨o,⟨v,nb,true⟩,none,oF,tx _,D4 _,e2,.inl ⟨H++Sm,seen _ h3,(fun i hi=>by cases hi),by rw [oG]; exact step,.inl hg⟩⟩⟩ (tS e3)
    | some i =>
     obtain ⟨aeu,hk⟩:=hk;obtain ⟨ye,Az,hiq⟩:=Tt aeu;obtain ⟨t',e1,e2,e3⟩:=Dw hk;obtain ⟨_,e3⟩:=mC e3;exact next ⟨v,nb,true⟩ (some i) t' e1 (fun i' hi=>by cases hi; exact ye) ⟨⟨o,⟨v,nb,true⟩,some i,oF,tx _,D4 _,e2,.inl ⟨H++Sm,seen _ h3,(fun i' hi=>by cases hi; exact ⟨ye,Az,hiq,kD i rfl⟩),by rw [oG]; exact step,.inl hg⟩⟩⟩ (tS e3)
   ·exact run (.inl hg) h
  ·rename_i g want hg
   split at h
   ·rename_i d hd;obtain ⟨v,hv,h⟩:=oZ h
    split at h
    ·rename_i b;cases hb:(b == want) with
     | true=>exact run (.inr ⟨g,want,d,b,hg,hd,hv,hb⟩) (Cf h hb)
     | false=>exact skip ⟨g,want,d,_,hg,hd,hv,.inl ⟨b,rfl,hb⟩⟩ (BP h hb)
    ·exact skip ⟨g,want,d,_,hg,hd,hv,.inr ⟨_,rfl⟩⟩ h
    ·exact h.elim
   ·exact h.elim
section
variable {P:Program} {E:Env} {r:Option Nat} {n:Nat} {F:Fr} {ops:Array Oper} {Q:Exit→Act→World→Prop} {m:Nat} {aS:List (List Nat)} {k:SK}
theorem Tv (hc:Order ops.toList aS) (uP:m≤ops.size)
  (y5:∀ j o i p d,j < m→i < m→i≠j→ops.toList[j]?=some o→ops.toList[i]?=some p→p.dst=some d→o.dst≠some d∧(d ∉ jo ops.toList o∨i∈aS.getD j []∨j∈aS.getD i []))
  (C6:∀ j,j < ops.size→m≤j→∀ i,i < m→i∈aS.getD j [])
  {t0:List Value} {H:aA} {rs:List c6} {es:List (Option Nat)} (hel:es.length=m) (hh:∀ i,i < m→pF P ops.toList t0 H aS rs es i)
  (pK:∀ (fuel:Nat) (aC:Array Bool) (ν:Nu) (a:Act) (w:World),aC.size=ops.size→pk ops.toList (DB aC)→(∀ i,DB aC i=true→i < m)→(∀ i,i < m→DB aC i=true) →
   bu F ν (bc ops.toList rs (DB aC) t0 m) (H++jd es rs (DB aC) m) a w→gr (DB aC) ops.size≤fuel→wpAnyIn (WF r) n P .any ops Q fuel aC a w) :
  ∀ (fuel:Nat) (aC:Array Bool) (ν:Nu) (a:Act) (w:World),aC.size=ops.size→pk ops.toList (DB aC)→(∀ i,DB aC i=true→i < m) →
  bu F ν (bc ops.toList rs (DB aC) t0 m) (H++jd es rs (DB aC) m) a w→(∀ i,i < m→DB aC i=false→ν (H.length+i)=none)→gr (DB aC) ops.size≤fuel →
  wpAnyIn (WF r) n P .any ops Q fuel aC a w:=by
 have lY:∀ i d,i < m→bU ops.toList i=some d→d < t0.length:=by
  intro i d hi hd;obtain ⟨o,q,_,h1,J,_,h3,_⟩:=(hh i hi).ok;unfold bU at hd;rw [h1] at hd;exact h3 d hd
 have pT:xD ops.toList m:=by
  intro i j d hi hj h1 J;rcases Nat.decEq i j with aE | he
  ·obtain ⟨o,q,_,k1,_⟩:=(hh i hi).ok;obtain ⟨p,q',_,k2,_⟩:=(hh j hj).ok;unfold bU at h1 J;rw [k1] at h1; rw [k2] at J;exact absurd h1 (y5 i o j p d hi hj (Ne.symm aE) k1 k2 J).1
  ·exact he
 intro fuel
 induction fuel with
 | zero =>
  intro aC ν a w hs eW an hi gk hu;have c4:∀ i,i < ops.size→DB aC i=true:=fun i aP=>by
   cases hd:DB aC i with
   | true=>rfl
   | false=>have:=Fe aP hd; omega
  exact pK 0 aC ν a w hs eW an (fun i aP=>c4 i (by omega)) hi hu
 | succ fuel ih =>
  intro aC ν a w hs eW an hi gk hu;by_cases pE:∀ i,i < m→DB aC i=true
  ·exact pK (fuel+1) aC ν a w hs eW an pE hi hu
  ·-- something of the head has not gone: the least such one may go
   have hex:∃ i,i < m∧DB aC i=false:=by
    refine Classical.byContradiction fun aE=>pE fun i aP=>?_
    cases hd:DB aC i with
    | true=>rfl
    | false=>exact absurd ⟨i,aP,hd⟩ aE
   obtain ⟨i1,DZ,gg⟩:=hex;obtain ⟨i0,P7,fC,jk⟩:=EH gg;have fY:i0 < m:=by omega
   have hr:=Bh hc hs (by omega:i0 < ops.size) fC jk
   refine ⟨(fun hn=>by rw [hn] at hr; cases hr),fun j hj=>?_⟩
   rw [mem_ready] at hj;obtain ⟨h1,o,ho,he⟩:=hj;have nS:j < ops.size:=(Array.getElem?_eq_some_iff.1 ho).1;rw [uu (by omega)] at h1
   have gd:ops.toList[j]?=some o:=by simpa using ho
   have mj:=tP hc eW j o gd (fun e' gf bz=>he e' gf bz)
   have mZ:j < m:=by
    rcases Nat.lt_or_ge j m with h | h
    ·exact h
    ·have:=mj i1 (C6 j nS h i1 DZ);rw [gg] at this; cases this
   obtain ⟨o',q,gl,g1,g2,g2e,g3,g4⟩:=(hh j mZ).ok;rw [gd] at g1; cases g1;have Jq:bU ops.toList j=o.dst:=by simp [bU,gd]
   -- what it reads stands as the text's order has it
   have HG:∀ d,d∈jo ops.toList o→(bc ops.toList rs (DB aC) t0 m)[d]?=(bc ops.toList rs (fun i=>decide (i < j)) t0 j)[d]?:=by
    intro d hd;rw [← wB (j:=j) (m:=m) (by omega) (fun i h1 J=>by simp; omega)]
    refine yB pT lY (fun i aP fZ=>?_)
    by_cases e:i=j
    ·subst e; rw [h1]; simp
    ·obtain ⟨p,q',_,k1,_⟩:=(hh i aP).ok;have Jr:p.dst=some d:=by unfold bU at fZ; rw [k1] at fZ; exact fZ
     rcases (y5 j o i p d mZ aP e gd k1 Jr).2 with h | h | h
     ·exact absurd hd h
     ·rw [mj i h];have:=(hc.mask j o gd i h).1;simp [this]
     ·have hji:=(hc.mask i p k1 j h).1;have:DB aC i=false:=by
       cases cX:DB aC i with
       | false=>rfl
       | true =>
        have:=tP hc eW i p k1 (eW i p cX k1) j h;rw [h1] at this; cases this
      rw [this]; simp; omega
   have c8:∀ i,DB (aC.setIfInBounds j true) i=(DB aC i || i == j):=fun i=>CJ (by omega) i
   have xU:pk ops.toList (DB (aC.setIfInBounds j true)):=by
    intro i p aP hp e' gf bz;rw [c8] at aP ⊢;by_cases e:i=j
    ·subst e;rw [gd] at hp; cases hp;have:DB aC e'.on=true:=he e' gf bz;rw [this]; rfl
    ·have e2:(i == j)=false:=by simp [e]
     rw [e2,Bool.or_false] at aP;rw [eW i p aP hp e' gf bz]; rfl
   have qU:∀ i,DB (aC.setIfInBounds j true) i=true→i < m:=fun i aP=>by
    rw [c8] at aP;by_cases e:i=j
    ·subst e; exact mZ
    ·have e2:(i == j)=false:=by simp [e]
     rw [e2,Bool.or_false] at aP;exact an i aP
   have tc:gr (DB (aC.setIfInBounds j true)) ops.size≤fuel:=by
    have:=Bt c8 h1 ops.size;rw [if_pos nS] at this; omega
   have uU:=Lp (D:=DB aC) (D':=DB (aC.setIfInBounds j true)) pT lY mZ h1 c8 g2;rw [Jq] at uU;have hat:∀ p i,es[p]?=some (some i)→p < m∧i < p∧i∈aS.getD p []∧∀ q,q≠p→i∈aS.getD q []→q∈aS.getD p []:=by
    intro p i hp;have vH:p < m:=by have:=(List.getElem?_eq_some_iff.1 hp).1; omega
    obtain ⟨_,_,e',_,_,k3,_,k4⟩:=(hh p vH).ok;rw [hp] at k3; cases k3;rcases k4 with ⟨_,_,k5,_⟩ | ⟨k5,_⟩
    ·obtain ⟨y1,y2,y3,_⟩:=k5 i rfl;exact ⟨vH,y1,y2,y3⟩
    ·cases k5
   -- what this one sees has not been eaten
   have fresh:∀ i,i∈aS.getD j []→nC es (DB aC) i=false:=by
    intro i aP;cases gf:nC es (DB aC) i with
    | false=>rfl
    | true =>
     obtain ⟨p,nT,oI⟩:=tX.1 gf;obtain ⟨vH,_,_,y3⟩:=hat p i oI;have Rc:j≠p:=fun e=>by rw [← e,h1] at nT; cases nT
     have hjp:=y3 j Rc aP;obtain ⟨op,_,_,k1,_⟩:=(hh p vH).ok;have:=tP hc eW p op k1 (eW p op nT k1) j hjp;rw [h1] at this; cases this
   have fw:∀ (id:Nat) (c:aj),(H++jd es rs (DB (aC.setIfInBounds j true)) m)[id]?=some (some c) →
     ((H++jd es rs (DB aC) m)[id]?=some (some c)∧∀ i,gl=some i→id≠H.length+i)∨(id=H.length+j∧q.nb=some c):=by
    intro id c;by_cases bm:id < H.length
    ·rw [List.getElem?_append_left bm,List.getElem?_append_left bm];exact fun h=>.inl ⟨h,fun i _=>by omega⟩
    ·rw [List.getElem?_append_right (by omega),List.getElem?_append_right (by omega),wC,wC]
     rintro ⟨k1,k2,k3,k4⟩
     rw [c8] at k2;by_cases e:id - H.length=j
     ·refine .inr ⟨by omega,?_⟩
      rw [e,g2] at k4; exact k4
     ·have e2:(id - H.length == j)=false:=by simp [e]
      rw [e2,Bool.or_false] at k2;refine .inl ⟨⟨k1,k2,?_,k4⟩,fun i aP afk=>?_⟩
      ·cases gf:nC es (DB aC) (id - H.length) with
       | false=>rfl
       | true =>
        obtain ⟨p,nT,oI⟩:=tX.1 gf;rw [tX.2 ⟨p,by rw [c8,nT]; rfl,oI⟩] at k3; cases k3
      ·have hx:id - H.length=i:=by omega
       rw [hx,tX.2 ⟨j,by rw [c8]; simp,by rw [g2e,aP]⟩] at k3; cases k3
   have ny:ν (H.length+j)=none:=gk j mZ h1;have HH:(H++jd es rs (DB aC) m).length=H.length+m:=by rw [List.length_append,Ba]
   have G5:(H++jd es rs (DB (aC.setIfInBounds j true)) m).length=H.length+m:=by rw [List.length_append,Ba]
   have hG:∀ {G:aA},(∀ (id:Nat) (b:aj),G[id]?=some (some b)→(id < H.length∧H[id]?=some (some b))∨(∃ i,id=H.length+i∧i < j∧i∈aS.getD j []∧(rs[i]?).bind (·.nb)=some b)) →
     ∀ (id:Nat) (b:aj),G[id]?=some (some b)→(H++jd es rs (DB aC) m)[id]?=some (some b):=by
    intro G q1 id b hb;rcases q1 id b hb with ⟨h3,h4⟩ | ⟨i,h3,h4,h5,h6⟩
    ·rw [List.getElem?_append_left h3]; exact h4
    ·subst h3;rw [List.getElem?_append_right (by omega)]
     rw [show H.length+i - H.length=i by omega,wC]
     exact ⟨by omega,mj i h5,fresh i h5,h6⟩
   have aev:∀ i,gl=some i→∃ bi,(H++jd es rs (DB aC) m)[H.length+i]?=some (some bi)∧bi.own=true:=by
    intro i aP;rcases g4 with ⟨G,q1,q2,_⟩ | ⟨q1,_⟩
    ·obtain ⟨_,_,_,bi,y1,y2⟩:=q2 i aP;exact ⟨bi,hG q1 _ _ y1,y2⟩
    ·rw [aP] at q1; cases q1
   -- the state behind it
   have after:∀ v' w' al,EPost ν al (H.length+j) (gl.bind fun i=>ν (H.length+i)) w w' q.v v' q.nb→wpAnyIn (WF r) n P .any ops Q fuel (aC.setIfInBounds j true) (a.put o.dst v') w':=by
    intro v' w' al hp;have hold:∀ lo,(gl.bind fun i=>ν (H.length+i))=some lo→∃ i bi,gl=some i∧ν (H.length+i)=some lo∧(H++jd es rs (DB aC) m)[H.length+i]?=some (some bi)∧bi.own=true:=by
     intro lo hJ;cases gf:gl with
     | none=>rw [gf] at hJ; cases hJ
     | some i =>
      rw [gf] at hJ;obtain ⟨bi,y1,y2⟩:=aev i gf;exact ⟨i,bi,rfl,hJ,y1,y2⟩
    have dz:∀ (id:Nat) (c:aj),(H++jd es rs (DB aC) m)[id]?=some (some c)→id≠H.length+j:=fun id c h e=>by
     obtain ⟨l',cE,_⟩:=hi.hp.aJ id c h;rw [e,ny] at cE; cases cE
    have uP:w.heap.size≤w'.heap.size:=by
     rcases hp.D3 with hb | ⟨_,_,_,_,h,_⟩
     ·exact hb.size
     ·exact h
    have tv:Kept F.O F.W w':=by
     rcases hp.D3 with hb | ⟨lo,hJ,_,J,h3,h4,h5,h6⟩
     ·exact hi.kp.below hb
     ·obtain ⟨i,bi,y1,y2,y3,y4⟩:=hold lo hJ;refine ⟨h4.trans hi.kp.os,h5.trans hi.kp.tape,h6.trans hi.kp.output,Nat.le_trans hi.kp.size h3,fun x hx hO=>(J x fun e=>?_).trans (hi.kp.aJ x hx hO)⟩
      subst e;rcases hi.own _ bi lo y3 y4 y2 with h | h
      ·exact hO h
      ·omega
    have Ic:∀ (id:Nat) (c:aj) (l:Loc),(H++jd es rs (DB aC) m)[id]?=some (some c)→(∀ i,gl=some i→id≠H.length+i)→ν id=some l→bQ ν l c w→bQ ν l c w':=by
     intro id c l h aE hl hB;rcases hp.D3 with hb | ⟨lo,hJ,_,J,h3,_⟩
     ·exact hB.below hb
     ·obtain ⟨i,bi,y1,y2,y3,y4⟩:=hold lo hJ;exact hB.same (J _ (Ne.symm (hi.hp.sep _ id bi c lo l y3 h (Ne.symm (aE i y1)) y4 y2 hl))) h3
    have NS:∀ (id:Nat) (c:aj) (l l2:Loc),(H++jd es rs (DB aC) m)[id]?=some (some c)→(∀ i,gl=some i→id≠H.length+i)→ν id=some l→(w.heap.size≤l2.aJ∨∃ lo,(gl.bind fun i=>ν (H.length+i))=some lo∧l2.aJ=lo.aJ)→l2.aJ≠l.aJ:=by
     intro id c l l2 h aE hl J;rcases J with J | ⟨lo,hJ,J⟩
     ·obtain ⟨l',cE,hB⟩:=hi.hp.aJ id c h;rw [hl] at cE; cases cE;have:=hB.live;omega
     ·obtain ⟨i,bi,y1,y2,y3,y4⟩:=hold lo hJ;rw [J];exact hi.hp.sep _ id bi c lo l y3 h (Ne.symm (aE i y1)) y4 y2 hl
    refine ih _ al _ w' (by simp [hs]) xU qU ⟨?_,?_,⟨fun id c cF=>?_,fun x y bx bY lx ly hx hy aE Jx e1 e2=>?_⟩,fun id bm=>?_,tv,fun id c lc cF oB dH=>?_,Nu.le_trans hi.mono hp.le⟩ (fun i aP cX=>?_) tc
    ·rw [uU];cases hd:o.dst with
     | none=>exact hi.tm.mono hp.le
     | some d=>rw [rV]; exact (hi.tm.mono hp.le).set hp.val d
    ·rcases hp.D3 with hb | ⟨lo,hJ,⟨cur,t,jU⟩,J,h3,_⟩
     ·cases o.dst <;> exact hi.df.below hb
     ·cases o.dst <;> exact hi.df.cT jU J
    ·rcases fw id c cF with ⟨h,aE⟩ | ⟨h3,h4⟩
     ·obtain ⟨l,hl,hB⟩:=hi.hp.aJ id c h;exact ⟨l,hp.le _ _ hl,(Ic id c l h aE hl hB).mono hp.le⟩
     ·obtain ⟨l,hl,hB,_⟩:=hp.g7 c h4;exact ⟨l,by rw [h3]; exact hl,hB⟩
    ·rcases fw x bx hx with ⟨h,cV⟩ | ⟨h3,h4⟩
     ·rw [hp.only x (dz x bx h)] at e1;rcases fw y bY hy with ⟨g,Rd⟩ | ⟨g3,g4⟩
      ·rw [hp.only y (dz y bY g)] at e2;exact hi.hp.sep x y bx bY lx ly h g aE Jx e1 e2
      ·obtain ⟨l,hl,_,hle⟩:=hp.g7 bY g4;rw [g3,hl] at e2; cases e2;exact Ne.symm (NS x bx lx _ h cV e1 hle)
     ·obtain ⟨l,hl,_,hle⟩:=hp.g7 bx h4;rw [h3,hl] at e1; cases e1;rcases fw y bY hy with ⟨g,Rd⟩ | ⟨g3,g4⟩
      ·rw [hp.only y (dz y bY g)] at e2;exact NS y bY ly _ g Rd e2 hle
      ·exact absurd (h3.trans g3.symm) aE
    ·rw [G5] at bm;rw [hp.only id (by omega)]
     exact hi.fr id (by rw [HH]; exact bm)
    ·rcases fw id c cF with ⟨h,_⟩ | ⟨h3,h4⟩
     ·rw [hp.only id (dz id c h)] at dH;exact hi.own id c lc h oB dH
     ·obtain ⟨l,hl,_,hle⟩:=hp.g7 c h4;rw [h3,hl] at dH; cases dH;rcases hle with hle | ⟨lo,hJ,hle⟩
      ·exact .inr (Nat.le_trans hi.kp.size hle)
      ·obtain ⟨i,bi,y1,y2,y3,y4⟩:=hold lo hJ;rw [hle];exact hi.own _ bi lo y3 y4 y2
    ·have aE:i≠j:=fun e=>by subst e; rw [c8] at cX; simp at cX
     rw [hp.only _ (by omega)]
     refine gk i aP ?_;rw [c8] at cX;simp only [Bool.or_eq_false_iff] at cX;exact cX.1
   unfold wpOpIn;rw [ho]
   dsimp only
   have fy:∀ d,d∈jo ops.toList o→∀ v,(bc ops.toList rs (fun i=>decide (i < j)) t0 j)[d]?=some v→∃ v',a.tmps[d]?=some v'∧aq ν v v':=by
    intro d hd v hv;rw [← HG d hd] at hv;obtain ⟨v',k1,k2⟩:=hi.tm.get hv;exact ⟨v',by simpa using k1,k2⟩
   rcases g4 with ⟨G,q1,_,q2,q3⟩ | ⟨q0,q1,q2,g,want,d,v,q3,q4,q5,q6⟩
   ·have hw:Region.wanted o (yielded ops a.tmps)=true:=by
     rcases q3 with hg | ⟨g,want,d,b,hg,hd,hv,hb⟩
     ·simp [Region.wanted,hg]
     ·obtain ⟨v',k1,k2⟩:=fy d (A6 hg hd) _ hv;rw [k2.kc] at k1;have hy:=yz (ops:=ops) (tmps:=a.tmps) (j:=g) (d:=d) (by simpa [bU] using hd)
      rw [k1] at hy;simp only [Region.wanted,hg,hy];rw [← hb];cases b <;> cases want <;> rfl
    rw [if_pos hw];refine q2 ν a w r n (fun x hx t ht v hv=>fy t ?_ v hv) (hi.hp.sD fun id b hb=>?_) ny _ Q after
    ·unfold jo;exact List.mem_append_left _ (p7 (by rw [ht] at hx; simpa using hx))
    ·exact hG q1 id b hb
   ·have hw:Region.wanted o (yielded ops a.tmps)=false:=by
     obtain ⟨v',k1,k2⟩:=fy d (A6 q3 q4) _ q5;have hy:=yz (ops:=ops) (tmps:=a.tmps) (j:=g) (d:=d) (by simpa [bU] using q4)
     rw [k1] at hy;rcases q6 with ⟨b,rfl,hb⟩ | ⟨vs,rfl⟩
     ·rw [k2.kc] at hy;simp only [Region.wanted,q3,hy];rw [← hb];cases b <;> cases want <;> rfl
     ·obtain ⟨ys,rfl,_⟩:=aq.nY (xs:=vs.toList) k2;simp only [Region.wanted,q3,hy]
      rfl
    rw [if_neg (by rw [hw]; simp)]
    refine ⟨fun _ _=>trivial,after undef w ν ⟨ν.le_refl,fun _ _=>rfl,by rw [q1]; exact .undef ν,.inl (Below.refl _ _),fun _=>rfl,(fun b hb=>by rw [q2] at hb; cases hb)⟩⟩
theorem VX (hm:P.follows .mixedOrders=true):nN P Pj:=by
 intro E hE r n F bN ops Q id ν tmps H a w k hi h hk;obtain ⟨m,aS,bd,h⟩:=h;have h:=mD h;obtain ⟨P8,h⟩:=yA h;have hc:=KV bd;obtain ⟨rs,es,iR,ji,kq,gi⟩:=Lq (P:=P) hE.toEnvOk (ops:=ops.toList) (t0:=tmps) (H:=H) (aS:=aS) (l:=ops.toList.take m) (ms:=aS) (j:=0) (rs:=[]) (es:=[]) rfl rfl (fun p i hp=>by simp at hp)
  (fun i o ho=>by
   rw [List.getElem?_take] at ho
   split at ho
   ·simpa using ho
   ·cases ho)
  (fun i _=>by simp) (fun i hi=>by omega) h
 have gi:=ud gi;have hlen:0+(ops.toList.take m).length=m:=by rw [List.length_take]; omega
 rw [hlen] at iR ji kq gi;refine wpIn_region_any hm ?_;have hD:DB (Array.replicate ops.size false)=fun _=>false:=by
  funext i
  unfold DB;by_cases h:i < ops.size <;> simp [h]
 refine Tv (F:=F) hc.toOrder (by have:=hc.le; simpa using this) hc.apart (fun j hj hm i hi=>hc.tail j (by simpa using hj) hm i (by omega)) ji kq ?_ ops.size _ ν a _ (by simp) (fun j o hj=>by rw [hD] at hj; cases hj) (fun i aP=>by rw [hD] at aP; cases aP) ?_ (fun i _ _=>hi.fr _ (by omega)) ?_
 ·intro fuel aC ν a w hs eW an c4 hi hu;have hle:m≤ops.size:=by have:=hc.le; simpa using this
  have hD:∀ i,DB aC i=decide (i < m):=fun i=>by
   by_cases h:i < m
   ·rw [c4 i h]; simp [h]
   ·cases hd:DB aC i with
    | true=>exact absurd (an i hd) h
    | false=>simp [h]
  have e1:bc ops.toList rs (DB aC) tmps m=bc ops.toList rs (fun i=>decide (i < m)) tmps m:=yq (fun i _=>hD i)
  have e2:jd es rs (DB aC) m=je es rs:=by
   unfold je;rw [iR];rw [show DB aC=fun i=>decide (i < m) from funext hD]
  rw [e1,e2] at hi;exact FD hE bN hc.toOrder hc.tail hk fuel aC m ν _ _ a w hs hD (Nat.le_refl _) hle hi gi (by
   have:=EG hD ops.size hle; omega)
 ·rw [hD];have e1:bc ops.toList rs (fun _=>false) tmps m=tmps:=wB (j:=0) (by omega) (fun _ _ _=>rfl)
  rw [e1];have kV:Below w.heap.size w { w with drawn:=w.drawn+1 }:=⟨rfl,rfl,rfl,Nat.le_refl _,fun _ _=>rfl⟩
  refine ⟨hi.tm,hi.df.below kV,(hi.hp.below kV).sD (fun id c cF=>?_),fun id bm=>hi.fr id (by rw [List.length_append] at bm; omega),hi.kp.below kV,fun id c lc cF oB dH=>?_,hi.mono⟩
  ·rw [List.getElem?_append] at cF
   split at cF
   ·exact cF
   ·have:=(wC.1 cF).2.1; cases this
  ·rw [List.getElem?_append] at cF
   split at cF
   ·exact hi.own id c lc cF oB dH
   ·have:=(wC.1 cF).2.1; cases this
 ·unfold gr;have:=List.length_filter_le (fun i=>!DB (Array.replicate ops.size false) i) (List.range ops.size)
  simpa using this
end
open Go Go.RowKit
inductive od where
 | leaf
 | br (i:Nat) (sub rest:od)
def od.alts:od→List Nat
 | .leaf=>[]
 | .br i _ rest=>i::rest.alts
def uI (ops:Array Oper):od→Nat→Bool→Array Bool→Bool
 | .leaf,_,true,l=>(Region.ready .any ops l).isEmpty
 | .leaf,_,false,_=>true
 | .br _ _ _,0,_,_=>false
 | .br i sub rest,n+1,first,l=>(!first || (Region.ready .any ops l == (od.br i sub rest).alts)) && uI ops sub n true (l.setIfInBounds i true) && uI ops rest (n+1) false l
def Iy:List Oper→Nat→(Oper→Prop)→Prop
 | [],_,_=>False
 | o::_,0,k=>k o
 | _::l,i+1,k=>Iy l i k
theorem Mk:∀ {l:List Oper} {i:Nat} {k:Oper→Prop},Iy l i k→∃ o,l[i]?=some o∧k o
 | [],i,k,h=>h.elim
 | o::_,0,k,h=>⟨o,rfl,h⟩
 | _::l,i+1,k,h=>by
  obtain ⟨o,h1,J⟩:=Mk (l:=l) h;exact ⟨o,by simpa using h1,J⟩
def C8 (E:Env) (ops:List Oper):od→Bool→List Value→aA→SK→Prop
 | .leaf,true,t,H,k=>k t H
 | .leaf,false,_,_,_=>True
 | .br i sub rest,_,t,H,k=>(Iy ops i fun o=>xC E ops o t H fun t' H'=>C8 E ops sub true t' H' k)∧C8 E ops rest false t H k
def cI (E:Env) (ops:List Oper) (t:List Value) (H:aA) (k:SK):Prop :=
 Pg E ops t H k∨(∃ T:od,uI ops.toArray T ops.length true (Array.replicate ops.length false)=true∧C8 E ops T true t H k)∨Ph E ops t H k∨Pj E ops t H k
section
variable {P:Program} {E:Env} {r:Option Nat} {n:Nat} {F:Fr}
theorem Tw (hE:jT P E) (bN:lz F E) {ops:Array Oper} {Q:Exit→Act→World→Prop} {k:SK} (hk:∀ ν t' H' a' w',bu F ν t' H' a' w'→k t' H'→Q .normal a' w') :
  ∀ (T:od) (fuel:Nat) (first:Bool) (aC:Array Bool) (ν:Nu) (t:List Value) (H:aA) (a:Act) (w:World),uI ops T fuel first aC=true→bu F ν t H a w→C8 E ops.toList T first t H k →
  (first=true→wpAnyIn (WF r) n P .any ops Q fuel aC a w)∧(first=false→∀ m,fuel=m+1→∀ i∈T.alts,wpOpIn (WF r) n P ops Q i (wpAnyIn (WF r) n P .any ops Q m (aC.setIfInBounds i true)) a w):=by
 intro T
 induction T with
 | leaf =>
  intro fuel first aC ν t H a w bd hi h;cases first with
  | true =>
   refine ⟨fun _=>?_,fun h=>by cases h⟩
   have hr:Region.ready .any ops aC=[]:=by
    have:(Region.ready .any ops aC).isEmpty=true:=by simpa [uI] using bd
    simpa using this
   have hq:Q .normal a w:=hk _ _ _ _ _ hi h;cases fuel with
   | zero=>exact ⟨hr,hq⟩
   | succ f=>exact ⟨fun _=>hq,fun i aP=>by rw [hr] at aP; cases aP⟩
  | false=>exact ⟨(fun h=>by cases h),fun _ m _ i aP=>by cases aP⟩
 | br j sub rest ihs ihr =>
  intro fuel first aC ν t H a w bd hi h;cases fuel with
  | zero=>simp [uI] at bd
  | succ f =>
   simp only [uI,Bool.and_eq_true,Bool.or_eq_true] at bd;obtain ⟨⟨h1,J⟩,h3⟩:=bd;obtain ⟨hs,zC⟩:=h;have c4:∀ i∈(od.br j sub rest).alts,wpOpIn (WF r) n P ops Q i (wpAnyIn (WF r) n P .any ops Q f (aC.setIfInBounds i true)) a w:=by
    intro i aP;simp only [od.alts,List.mem_cons] at aP;rcases aP with rfl | aP
    ·obtain ⟨o,ho,hs⟩:=Mk hs;unfold wpOpIn;have Jx:ops[i]?=some o:=by simpa using ho
     rw [Jx];exact Fb hE bN hi hs (fun ν t' H' a' w' ia h'=>(ihs f true _ ν t' H' a' w' J ia h').1 rfl)
    ·exact (ihr (f+1) false aC ν t H a w h3 hi zC).2 rfl f rfl i aP
   refine ⟨fun hf=>?_,fun _ m hm=>?_⟩
   ·subst hf;have hr:Region.ready .any ops aC=(od.br j sub rest).alts:=by
     rcases h1 with h1 | h1
     ·cases h1
     ·exact eq_of_beq h1
    refine ⟨(fun hn=>by rw [hr] at hn; cases hn),fun i aP=>c4 i (by rw [← hr]; exact aP)⟩
   ·have:f=m:=by omega
    subst this;exact c4
theorem VY (hm:P.follows .mixedOrders=true):nN P cI:=by
 intro E hE r n F bN ops Q id ν tmps H a w k hi h hk;rcases h with h | ⟨T,bd,h⟩ | h | h
 ·exact VT hm E hE r n F bN ops Q id ν tmps H a w k hi h hk
 ·refine wpIn_region_any hm ?_;have kV:Below w.heap.size w { w with drawn:=w.drawn+1 }:=⟨rfl,rfl,rfl,Nat.le_refl _,fun _ _=>rfl⟩
  have ia:bu F ν tmps H a { w with drawn:=w.drawn+1 }:=⟨hi.tm,hi.df.below kV,hi.hp.below kV,hi.fr,hi.kp.below kV,hi.own,hi.mono⟩
  have:=(Tw (r:=r) (n:=n) hE bN (ops:=ops) hk T ops.toList.length true _ ν tmps H a _ (by simpa using bd) ia h).1 rfl
  simpa using this
 ·exact VW hm E hE r n F bN ops Q id ν tmps H a w k hi h hk
 ·exact VX hm E hE r n F bN ops Q id ν tmps H a w k hi h hk
end
open Go Go.RowKit
inductive eG:Value→Value→Prop
 | refl (v:Value):eG v v
 | cap (a:Addr) (n c:Nat) (h:a.spot=none):eG (.slice (some a) n c) (.slice (some a) n aM)
 | two {x y x' y':Value} (h:eG x x') (hs:eG y y'):eG (.tuple ⟨[x,y]⟩) (.tuple ⟨[x',y']⟩)
 | three {x y z x' y' z':Value} (h:eG x x') (hs:eG y y') (hz:eG z z'):eG (.tuple ⟨[x,y,z]⟩) (.tuple ⟨[x',y',z']⟩)
theorem aq.Re {ν:Nu} {xs ys:List Value} (h:bf ν xs ys):aq ν (.tuple ⟨xs⟩) (.tuple ⟨ys⟩):=.tuple _ _ h.1 h.2
theorem aq.Iz {ν:Nu} {v v':Value} (h:eG v v'):∀ {r},aq ν v r→aq ν v' r:=by
 induction h with
 | refl v=>exact fun h=>h
 | cap a n c hs =>
  intro r hr;obtain ⟨b,o,sp⟩:=a;have hs:sp=none:=hs;subst hs;cases hr with
  | slice _ _ _ _ c' l h hc hn hr=>exact .slice _ _ _ _ c' l h (.inr rfl) hn hr
  | void _ _ _ a hc=>exact .void _ _ _ a (.inr rfl)
 | two h hs i1 i2 =>
  intro r hr;obtain ⟨ys,rfl,hy⟩:=hr.nY;obtain ⟨a,ys,rfl,k1,hy⟩:=hy.jr;obtain ⟨b,ys,rfl,k2,hy⟩:=hy.jr;rw [hy.iW];exact .Re (.cons (i1 k1) (.cons (i2 k2) (.nil ν)))
 | three h hs hz i1 i2 i3 =>
  intro r hr;obtain ⟨ys,rfl,hy⟩:=hr.nY;obtain ⟨a,ys,rfl,k1,hy⟩:=hy.jr;obtain ⟨b,ys,rfl,k2,hy⟩:=hy.jr;obtain ⟨c,ys,rfl,k3,hy⟩:=hy.jr;rw [hy.iW];exact .Re (.cons (i1 k1) (.cons (i2 k2) (.cons (i3 k3) (.nil ν))))
def gJ (S:a9) (i:S.ι) (v:Value) (H:aA):Prop :=
 match S.new i with
 | none=>∃ v',cM (List.range (S.ae i).length) 3 (S.val i)=some v'∧eG v v'
 | some b=>∃ p,gH H p fun c=>(c.own=true∧aG b c)∧∃ v',cM (List.range (S.ae i).length++[p]) 3 (S.val i)=some v'∧eG v v'
section
variable {P:Program} {E:Env} {D:Env→List Oper→List Value→aA→SK→Prop}
theorem tM {l:List aj} {id:Nat} {b:aj} (h:(l.map some)[id]?=some (some b)):l[id]?=some b:=by
 rw [List.getElem?_map] at h;cases e:l[id]? with
 | none=>rw [e] at h; cases h
 | some b'=>rw [e] at h; simp at h; rw [h]
theorem UQ {m p j:Nat} (h:j < m):(List.range m++[p])[j]?=some j:=by
 rw [List.getElem?_append_left (by simpa using h),List.getElem?_range h]
theorem dh {S:a9} (hE:EnvOk P E) (hD:nN P D) {f:FuncId} {fn:Func} (hf:P.funcs[f]?=some fn) (oA:∀ args w,(callFunc f args).run P w=.ok (.enter f args) w)
  (nO:∀ i b,b∈S.ae i→b.own=false) (tb:∀ i b,S.new i=some b→b.iY=true)
  (h:∀ i,S.pre i→ck E D fn (S.args i) ((S.ae i).map some) (gJ S i))
  (hI:gP P E:=by exact gP.none rfl) (hy:E.ys=[]:=by rfl) (hu:E.nu=(fun _=>none):=by rfl):cU P f S:=by
 refine ⟨oA,nO,tb,fun i hp ν as w n has hH gk=>?_⟩
 refine yI (O:=fun _=>False) (ν:=ν) (hE.x hI hy) hD hf (h i hp) has hH (fun id bm=>gk id (by simpa using bm)) (fun id b l hb ho=>?_) (Cj hu) ?_
 ·rw [nO i b (List.mem_of_getElem? (tM hb))] at ho; cases ho
 intro al v v' t H' a w' hi hk hv;have hb:Below w.heap.size w w':=⟨hi.kp.os,hi.kp.tape,hi.kp.output,hi.kp.size,fun k hk=>hi.kp.aJ k hk (fun h=>h)⟩
 unfold gJ at hk
 split at hk
 ·rename_i dz;obtain ⟨v2,oi,AB⟩:=hk;have h1:=wK 3 _ _ _ oi (aq.Iz AB hv);refine ⟨v',ν,rfl,⟨ν.le_refl,fun _ _=>rfl,h1.mono (fun j lj hj=>?_),hb,fun _=>rfl,(fun b hb=>by rw [dz] at hb; cases hb)⟩⟩
  unfold Nu.comp at hj;by_cases an:j < (S.ae i).length
  ·rw [List.getElem?_range an] at hj;have hj:al j=some lj:=hj;obtain ⟨l0,e1,_⟩:=hH.aJ j ((S.ae i)[j]) (by simp [an])
   have:=hi.mono j l0 e1;rw [hj] at this; cases this;exact e1
  ·have:(List.range (S.ae i).length)[j]?=none:=List.getElem?_eq_none (by simp; omega)
   rw [this] at hj; cases hj
 ·rename_i b dz;obtain ⟨p,hk⟩:=hk;obtain ⟨c,hc,⟨ho,hle⟩,v2,oi,AB⟩:=gA hk;obtain ⟨l,hl,hB⟩:=hi.hp.aJ p c hc;have vF:ν (S.ae i).length=none:=gk _ (Nat.le_refl _);refine ⟨v',ν.add (S.ae i).length l,rfl,⟨Nu.kh vF,fun id bm=>Nu.iX bm,?_,hb,(fun h=>by rw [dz] at h; cases h),(fun b' bz=>?_)⟩⟩
  ·have h1:=wK 3 _ _ _ oi (aq.Iz AB hv);refine h1.mono (fun j lj hj=>?_)
   unfold Nu.comp at hj;rcases Nat.lt_trichotomy j (S.ae i).length with an | he | QJ
   ·rw [UQ an] at hj;have hj:al j=some lj:=hj;obtain ⟨l0,e1,_⟩:=hH.aJ j ((S.ae i)[j]) (by simp [an])
    have:=hi.mono j l0 e1;rw [hj] at this; cases this;rw [Nu.iX (by omega)]; exact e1
   ·subst he;have:(List.range (S.ae i).length++[p])[(S.ae i).length]?=some p:=by simp
    rw [this] at hj;have hj:al p=some lj:=hj;rw [hl] at hj; cases hj;exact Nu.add_same
   ·have:(List.range (S.ae i).length++[p])[j]?=none:=List.getElem?_eq_none (by simp; omega)
    rw [this] at hj; cases hj
  ·rw [dz] at bz; cases bz;refine ⟨l,Nu.add_same,hB.le ⟨hle,by have:=tb i b dz; cases b <;> first | rfl | cases this⟩,?_⟩
   rcases hi.own p c l hc ho hl with h | h
   ·exact h.elim
   ·exact h
structure zD where
 ι:Type
 args:ι→List Value
 ae:ι→List aj
 pre:ι→Prop
 val:ι→Value
 post:ι→List aj
 new:ι→List aj
def xE (H:aA):List Nat→List aj→List aj→(aA→Prop)→Prop
 | [],[],[],k=>k H
 | s::σ,b::bs,p::ps,k=>match b.own with
  | true=>match p with
   | .cg _=>False
   | p=>jx H s (some p) fun H'=>xE H' σ bs ps k
  | false=>xE H σ bs ps k
 | _,_,_,_=>False
def Cl (H:aA):List aj→(aA→Prop)→Prop
 | [],k=>k H
 | b::bs,k=>match b with
  | .cg _=>False
  | b=>pB H (some b) fun H'=>Cl H' bs k
def xo:Nat→Nat→List Nat
 | _,0=>[]
 | a,n+1=>a::xo (a+1) n
def Dx:List aj→Nat
 | []=>0
 | _::l=>Dx l+1
def AD (S:zD):FT:=fun args H K=>∃ (i:S.ι) (σ:List Nat),mO σ 3 (S.args i)=some args∧S.pre i∧σ.Nodup∧zm H σ (S.ae i) (jy H fun n0=>xE H σ (S.ae i) (S.post i) fun H1=>Cl H1 (S.new i) fun H2 =>
 ∃ v,cM (σ++xo n0 (Dx (S.new i))) 3 (S.val i)=some v∧qB v fun v=>K v H2)
def zT (S:zD) (i:S.ι) (v:Value) (H:aA):Prop :=
 ∃ ps:List Nat,ps.Nodup∧(∀ p∈ps,(S.ae i).length≤p)∧ps.length=(S.new i).length ∧
  (∀ (j:Nat) (b q:aj),(S.ae i)[j]?=some b→(S.post i)[j]?=some q→b.own=true→∃ c,H[j]?=some (some c)∧c.own=true∧aG q c) ∧
  (∀ (j p:Nat) (b:aj),ps[j]?=some p→(S.new i)[j]?=some b→∃ c,H[p]?=some (some c)∧c.own=true∧aG b c) ∧
  ∃ v',cM (List.range (S.ae i).length++ps) 3 (S.val i)=some v'∧eG v v'
theorem Lr:∀ {n a j:Nat},(xo a n)[j]?=if j < n then some (a+j) else none
 | 0,a,j=>by simp [xo]
 | n+1,a,0=>by simp [xo]
 | n+1,a,j+1=>by
  have:=Lr (n:=n) (a:=a+1) (j:=j);simp only [xo,List.getElem?_cons_succ,this];by_cases h:j < n
  ·rw [if_pos h,if_pos (by omega)]; congr 1; omega
  ·rw [if_neg h,if_neg (by omega)]
theorem NT:∀ {l:List aj},Dx l=l.length
 | []=>rfl
 | _::l=>by simp [Dx,NT (l:=l)]
theorem Kz:∀ {bs:List aj} {H:aA} {k:aA→Prop},Cl H bs k→k (H++bs.map some)∧∀ b∈bs,b.rc=none
 | [],H,k,h=>by
  have h:k H:=h;exact ⟨by simpa using h,fun b hb=>by cases hb⟩
 | b::bs,H,k,h=>by
  have h:b.rc=none∧pB H (some b) fun H'=>Cl H' bs k:=by
   cases b with
   | aO o e r=>exact ⟨rfl,h⟩
   | flat o n e g=>exact ⟨rfl,h⟩
   | cg r=>exact h.elim
  have:=Kz (bs:=bs) (yw h.2);refine ⟨by simpa using this.1,fun c hc=>?_⟩
  rcases List.mem_cons.1 hc with rfl | hc
  ·exact h.1
  ·exact this.2 c hc
theorem Ff:∀ {σ:List Nat} {bs ps:List aj} {H:aA} {k:aA→Prop},σ.Nodup→xE H σ bs ps k→∃ H1,k H1∧H1.length=H.length∧(∀ id,id ∉ σ→H1[id]?=H[id]?) ∧
  ∀ (j s:Nat) (b:aj),σ[j]?=some s→bs[j]?=some b→(b.own=true→∃ p,ps[j]?=some p∧H1[s]?=some (some p)∧p.rc=none)∧(b.own=false→H1[s]?=H[s]?)
 | [],[],[],H,k,_,h=>⟨H,h,rfl,fun _ _=>rfl,fun j s b hj=>by simp at hj⟩
 | s::σ,b::bs,p::ps,H,k,hn,h=>by
  obtain ⟨hs,hn⟩:=List.nodup_cons.1 hn;unfold xE at h
  split at h
  ·rename_i ho;have Jy:p.rc=none∧jx H s (some p) fun H'=>xE H' σ bs ps k:=by
    cases p with
    | aO o e r=>exact ⟨rfl,h⟩
    | flat o n e g=>exact ⟨rfl,h⟩
    | cg r=>exact h.elim
   obtain ⟨Jy,h⟩:=Jy;obtain ⟨an,h⟩:=mC h;obtain ⟨H1,h1,J,h3,h4⟩:=Ff hn h;refine ⟨H1,h1,by rw [J]; simp,fun id bm=>?_,fun j s' b' hj hb=>?_⟩
   ·rw [List.mem_cons,not_or] at bm;rw [h3 id bm.2,List.getElem?_set_ne (Ne.symm bm.1)]
   ·cases j with
    | zero =>
     simp at hj hb; subst hj; subst hb;refine ⟨fun _=>⟨p,rfl,?_,Jy⟩,(fun h=>by rw [ho] at h; cases h)⟩
     rw [h3 s hs,List.getElem?_set_self an]
    | succ j =>
     obtain ⟨h5,h6⟩:=h4 j s' b' (by simpa using hj) (by simpa using hb)
     refine ⟨fun h=>by simpa using h5 h,fun h=>?_⟩
     rw [h6 h,List.getElem?_set_ne];intro e;subst e;exact hs (List.mem_of_getElem? (by simpa using hj))
  ·rename_i ho;obtain ⟨H1,h1,J,h3,h4⟩:=Ff hn h;refine ⟨H1,h1,J,fun id bm=>?_,fun j s' b' hj hb=>?_⟩
   ·rw [List.mem_cons,not_or] at bm;exact h3 id bm.2
   ·cases j with
    | zero =>
     simp at hj hb; subst hj; subst hb;exact ⟨(fun h=>by rw [ho] at h; cases h),fun _=>h3 s hs⟩
    | succ j=>simpa using h4 j s' b' (by simpa using hj) (by simpa using hb)
 | [],_::_,_,H,k,_,h=>by cases h
 | [],[],_::_,H,k,_,h=>by cases h
 | _::_,[],_,H,k,_,h=>by cases h
 | _::_,_::_,[],H,k,_,h=>by cases h
theorem OG {S:zD} (hE:EnvOk P E) (hD:nN P D) {f:FuncId} {fn:Func} (hf:P.funcs[f]?=some fn) (oA:∀ args w,(callFunc f args).run P w=.ok (.enter f args) w)
  (h:∀ i,S.pre i→ck E D fn (S.args i) ((S.ae i).map some) (zT S i))
  (hI:gP P E:=by exact gP.none rfl) (hy:E.ys=[]:=by rfl) (hu:E.nu=(fun _=>none):=by rfl):fM P f (AD S):=by
 refine ⟨oA,fun args H K hFT ν as w n O has hH gk kD=>?_⟩
 obtain ⟨i,σ,oi,hp,mY,oz⟩:=hFT;obtain ⟨hlen,hσ,oz⟩:=E7 oz;obtain ⟨H1,oz,kH,aew,Qd⟩:=Ff mY (mD oz);obtain ⟨⟨v2,Pk,hK⟩,aex⟩:=Kz oz;have hK:=wb hK;rw [NT] at Pk;have oc:=ub (wK (ν:=ν) 3) oi has
 -- the callee's blocks
 let Oc:Nat→Prop:=fun x=>∃ (j s:Nat) (b:aj) (l:Loc),σ[j]?=some s∧(S.ae i)[j]?=some b∧b.own=true∧ν s=some l∧x=l.aJ
 have sW:∀ (j:Nat) (b:aj),(S.ae i)[j]?=some b→∃ s,σ[j]?=some s∧∃ c l,H[s]?=some (some c)∧CF b c∧ν s=some l∧bQ ν l c w:=by
  intro j b hb;have an:j < σ.length:=by rw [hlen]; exact (List.getElem?_eq_some_iff.1 hb).1
  obtain ⟨c,h1,J⟩:=hσ j _ b (List.getElem?_eq_getElem an) hb;obtain ⟨l,h3,h4⟩:=hH.aJ _ _ h1;exact ⟨_,List.getElem?_eq_getElem an,c,l,h1,J,h3,h4⟩
 have nz:∀ (j s:Nat),σ[j]?=some s→(ν.comp σ) j=ν s:=fun j s hj=>by simp [Nu.comp,hj]
 have Jz:bT (ν.comp σ) ((S.ae i).map some) w:=by
  refine ⟨fun j b hj=>?_,fun j q bj bq lj lq hj hq aE ho e1 e2=>?_⟩
  ·obtain ⟨s,h1,c,l,J,h3,h4,h5⟩:=sW j b (tM hj);exact ⟨l,by rw [nz j s h1,h4],h5.le h3⟩
  ·obtain ⟨s,h1,c,l,J,h3,h4,h5⟩:=sW j bj (tM hj);obtain ⟨s',fe,c',l',jY,tq,rl,AE⟩:=sW q bq (tM hq);rw [nz j s h1,h4] at e1; obtain rfl:=Option.some.inj e1;rw [nz q s' fe,rl] at e2; obtain rfl:=Option.some.inj e2;refine hH.sep s s' c c' _ _ J jY (fun e=>aE ?_) (aj.cZ (h3.own ho).1).1 h4 rl
   subst e;exact (List.getElem?_inj (List.getElem?_eq_some_iff.1 h1).1 mY).1 (h1.trans fe.symm)
 have aey:∀ id,((S.ae i).map some).length≤id→(ν.comp σ) id=none:=by
  intro id bm;rw [List.length_map] at bm;simp [Nu.comp,List.getElem?_eq_none (show σ.length≤id by omega)]
 have acV:∀ id b l,((S.ae i).map some)[id]?=some (some b)→b.own=true→(ν.comp σ) id=some l→Oc l.aJ:=by
  intro id b l hb ho hl;obtain ⟨s,h1,c,l',J,h3,h4,h5⟩:=sW id b (tM hb);rw [nz id s h1,h4] at hl; obtain rfl:=Option.some.inj hl;exact ⟨id,s,b,_,h1,tM hb,ho,h4,rfl⟩
 have rk:∀ x,Oc x→O x:=by
  rintro x ⟨j,s,b,l,h1,J,h3,h4,rfl⟩
  obtain ⟨s',fe,c,l',jY,tq,rl,_⟩:=sW j b J;rw [h1] at fe; cases fe;exact kD s c l jY (aj.cZ (tq.own h3).1).1 h4
 refine yI (O:=Oc) (ν:=ν.comp σ) (hE.x hI hy) hD hf (h i hp) oc Jz aey acV (Cj hu) ?_;intro dP v v' t H' a w' hi hk hv;obtain ⟨ps,hpn,aez,lE,acW,dz,v3,acX,AB⟩:=hk;have sV:(ν.comp σ).le dP:=hi.mono
 let al:Nu:=fun id=>if id < H.length then ν id else (ps[id - H.length]?).bind dP
 have uJ:∀ id,id < H.length→al id=ν id:=fun id h=>by simp only [al]; rw [if_pos h]
 have si:∀ j p,ps[j]?=some p→al (H.length+j)=dP p:=fun j p h=>by
  simp only [al]; rw [if_neg (by omega),Nat.add_sub_cancel_left,h]; rfl
 have HK:ν.le al:=by
  intro id l bm;have:id < H.length:=by
   rcases Nat.lt_or_ge id H.length with h | h
   ·exact h
   ·rw [gk id h] at bm; cases bm
  rw [uJ id this]; exact bm
 -- own blocks of the arguments, behind the call
 have Pm:∀ (j s:Nat) (b:aj) (l:Loc),σ[j]?=some s→(S.ae i)[j]?=some b→b.own=true→ν s=some l→∃ q c,(S.post i)[j]?=some q∧H1[s]?=some (some q)∧H'[j]?=some (some c)∧c.own=true∧CF q c∧dP j=some l:=by
  intro j s b l h1 J h3 h4;obtain ⟨q,h5,h6,h60⟩:=(Qd j s b h1 J).1 h3;obtain ⟨c,h7,h8,h9⟩:=acW j b q J h5 h3;exact ⟨q,c,h5,h6,h7,h8,⟨h9,h60⟩,sV j l (by rw [nz j s h1]; exact h4)⟩
 -- a block that the callee does not own has not turned
 have HI:∀ (id:Nat) (b:aj) (l:Loc),H[id]?=some (some b)→ν id=some l→(∀ (j:Nat) (c:aj),σ[j]?=some id→(S.ae i)[j]?=some c→c.own=false)→¬ Oc l.aJ∧w'.heap[l.aJ]?=w.heap[l.aJ]?:=by
  intro id b l hb hl nR;obtain ⟨l0,e1,hB⟩:=hH.aJ id b hb;rw [hl] at e1; cases e1;have Rf:¬ Oc l.aJ:=by
   rintro ⟨j,s,bj,lj,h1,J,h3,h4,h5⟩
   obtain ⟨s',fe,c,l',jY,tq,rl,_⟩:=sW j bj J;rw [h1] at fe; cases fe;have aE:s≠id:=by
    intro e;subst e;have:=nR j bj h1 J;rw [h3] at this; cases this
   exact hH.sep s id c b lj l jY hb aE (aj.cZ (tq.own h3).1).1 h4 hl h5.symm
  exact ⟨Rf,hi.kp.aJ _ hB.live Rf⟩
 -- the callee's new blocks
 have acY:∀ (j p:Nat) (b:aj),ps[j]?=some p→(S.new i)[j]?=some b→∃ c l,H'[p]?=some (some c)∧c.own=true∧aG b c∧dP p=some l∧bQ dP l c w'∧w.heap.size≤l.aJ:=by
  intro j p b h1 J;obtain ⟨c,h3,h4,h5⟩:=dz j p b h1 J;obtain ⟨l,h6,h7⟩:=hi.hp.aJ p c h3;refine ⟨c,l,h3,h4,h5,h6,h7,?_⟩;rcases hi.own p c l h3 h4 h6 with ⟨j',s,b',l',k1,k2,k3,k4,k5⟩ | h
  ·obtain ⟨q,c',_,_,k6,k7,_,k8⟩:=Pm j' s b' l' k1 k2 k3 k4;have an:j' < (S.ae i).length:=(List.getElem?_eq_some_iff.1 k2).1;have:=aez p (List.mem_of_getElem? h1);exact absurd k5 (hi.hp.sep p j' c c' l l' h3 k6 (by omega) h4 h6 k8)
  ·exact h
 -- which blocks there are behind the call
 have xB:∀ (id:Nat) (b:aj),(H1++(S.new i).map some)[id]?=some (some b)→
   (id < H.length∧∃ b0 l,H[id]?=some (some b0)∧ν id=some l∧(b.own=true→b0.own=true)∧bQ al l b w'∧((∃ (j:Nat) (bj:aj),σ[j]?=some id∧(S.ae i)[j]?=some bj∧bj.own=true)∨(¬ Oc l.aJ∧l.aJ < w.heap.size))) ∨
   (∃ (j p:Nat) (c:aj) (l:Loc),id=H.length+j∧ps[j]?=some p∧(S.new i)[j]?=some b∧H'[p]?=some (some c)∧c.own=true∧dP p=some l∧bQ al l b w'∧w.heap.size≤l.aJ):=by
  intro id b hb;rw [List.getElem?_append] at hb
  split at hb
  ·rename_i an;rw [kH] at an;refine .inl ⟨an,?_⟩;by_cases gI:∃ (j:Nat) (bj:aj),σ[j]?=some id∧(S.ae i)[j]?=some bj∧bj.own=true
   ·obtain ⟨j,bj,h1,J,h3⟩:=gI;obtain ⟨s',fe,c,l,h4,h5,h6,h7⟩:=sW j bj J;rw [h1] at fe; cases fe;obtain ⟨q,c',h8,h9,AF,Rg,h12,h13⟩:=Pm j id bj l h1 J h3 h6;rw [h9] at hb; cases hb;obtain ⟨l',Rh,h15⟩:=hi.hp.aJ j c' AF;rw [h13] at Rh; cases Rh;exact ⟨c,l,h4,h6,fun _=>(aj.cZ (h5.own h3).1).1,h15.le h12,.inl ⟨j,bj,h1,J,h3⟩⟩
   ·have nR:∀ (j:Nat) (c:aj),σ[j]?=some id→(S.ae i)[j]?=some c→c.own=false:=by
     intro j c h1 J;cases h:c.own with
     | false=>rfl
     | true=>exact absurd ⟨j,c,h1,J,h⟩ gI
    have JA:H[id]?=some (some b):=by
     by_cases pR:id∈σ
     ·obtain ⟨j,hj⟩:=List.getElem?_of_mem pR;have IW:j < (S.ae i).length:=by rw [← hlen]; exact (List.getElem?_eq_some_iff.1 hj).1
      have:=(Qd j id _ hj (List.getElem?_eq_getElem IW)).2 (nR j _ hj (List.getElem?_eq_getElem IW));rw [← this]; exact hb
     ·rw [← aew id pR]; exact hb
    obtain ⟨l,h1,J⟩:=hH.aJ id b JA;obtain ⟨h3,h4⟩:=HI id b l JA h1 nR;exact ⟨b,l,JA,h1,fun h=>h,(J.same h4 hi.kp.size).mono HK,.inr ⟨h3,J.live⟩⟩
  ·rename_i eF;rw [kH] at hb eF;have hb:=tM hb;have an:id - H.length < ps.length:=by rw [lE]; exact (List.getElem?_eq_some_iff.1 hb).1
   obtain ⟨c,l,h1,J,h3,h4,h5,h6⟩:=acY _ _ b (List.getElem?_eq_getElem an) hb;exact .inr ⟨id - H.length,_,c,l,by omega,List.getElem?_eq_getElem an,hb,h1,J,h4,h5.le ⟨h3,aex b (List.mem_of_getElem? hb)⟩,h6⟩
 have afe:∀ (j p:Nat),ps[j]?=some p→al (H.length+j)=dP p:=si;refine ⟨v2,v',al,H1++(S.new i).map some,rfl,hK,?_,HK,⟨fun id b hb=>?_,fun p q bp bq lp lq I0 I8 aE ho e1 e2=>?_⟩,fun id bm=>?_,⟨hi.kp.os,hi.kp.tape,hi.kp.output,hi.kp.size,fun b h1 J=>hi.kp.aJ b h1 (fun h=>J (rk b h))⟩,fun id b l hb ho hl=>?_⟩
 ·have h1:=wK 3 _ _ _ acX (aq.Iz AB hv);refine F2 3 _ _ _ Pk (h1.mono (fun j lj hj=>?_))
  unfold Nu.comp at hj ⊢;by_cases an:j < (S.ae i).length
  ·rw [List.getElem?_append_left (by simpa using an),List.getElem?_range an] at hj
   have hj:dP j=some lj:=hj;obtain ⟨s,J,c,l,h3,h4,h5,_⟩:=sW j _ (List.getElem?_eq_getElem an);have:=sV j l (by rw [nz j s J]; exact h5)
   rw [hj] at this; cases this;rw [List.getElem?_append_left (List.getElem?_eq_some_iff.1 J).1,J];exact HK s lj h5
  ·rw [List.getElem?_append_right (by simp; omega)] at hj
   rw [List.length_range] at hj;rw [List.getElem?_append_right (by omega),Lr,hlen]
   cases tg:ps[j - (S.ae i).length]? with
   | none=>rw [tg] at hj; cases hj
   | some p =>
    rw [tg] at hj;have hj:dP p=some lj:=hj;have:=(List.getElem?_eq_some_iff.1 tg).1;rw [if_pos (by omega)]
    show al (H.length+(j - (S.ae i).length))=_
    rw [si _ _ tg]; exact hj
 ·rcases xB id b hb with ⟨an,b0,l,h1,J,_,h3,_⟩ | ⟨j,p,c,l,rfl,h1,J,h3,h4,h5,h6,h7⟩
  ·exact ⟨l,by rw [uJ id an]; exact J,h3⟩
  ·exact ⟨l,by rw [si j p h1]; exact h5,h6⟩
 ·rcases xB p bp I0 with ⟨an,b0,l,h1,J,h3,h4,h5⟩ | ⟨j,pp,c,l,rfl,h1,J,h3,h4,h5,h6,h7⟩ <;>
   rcases xB q bq I8 with ⟨qU,Ri,l',fe,jY,tq,rl,AE⟩ | ⟨j',pp',c',l',rfl,fe,jY,tq,rl,AE,h6',h7'⟩
  ·rw [uJ p an,J] at e1; cases e1;rw [uJ q qU,jY] at e2; cases e2;exact hH.sep p q b0 Ri _ _ h1 fe aE (h3 ho) J jY
  ·rw [uJ p an,J] at e1; cases e1;rw [si _ _ fe,AE] at e2; cases e2;have:=(hH.aJ p b0 h1);obtain ⟨l0,e3,e4⟩:=this;rw [J] at e3; cases e3;have:=e4.live;omega
  ·rw [si _ _ h1,h5] at e1; cases e1;rw [uJ q qU,jY] at e2; cases e2;obtain ⟨l0,e3,e4⟩:=hH.aJ q Ri fe;rw [jY] at e3; cases e3;have:=e4.live;omega
  ·rw [si _ _ h1,h5] at e1; cases e1;rw [si _ _ fe,AE] at e2; cases e2;refine hi.hp.sep pp pp' c c' _ _ h3 tq (fun e=>aE ?_) h4 h5 AE
   subst e;rw [(List.getElem?_inj (List.getElem?_eq_some_iff.1 h1).1 hpn).1 (h1.trans fe.symm)]
 ·rw [List.length_append,List.length_map,kH] at bm;simp only [al];rw [if_neg (by omega),List.getElem?_eq_none (by omega)]
  rfl
 ·rcases xB id b hb with ⟨an,b0,l',h1,J,h3,_⟩ | ⟨j,p,c,l',rfl,h1,J,h3,h4,h5,h6,h7⟩
  ·rw [uJ id an,J] at hl; cases hl;exact .inl (kD id b0 _ h1 (h3 ho) J)
  ·rw [si j p h1,h5] at hl; cases hl;exact .inr h7
end
open Go Go.RowKit
def Cm (P:Program) (g:TypeId→Option (Bool × List Value)):Nat→List Field→Option (List Value)
 | _,[]=>some []
 | o, f :: l => match Nat.beq f.offset o && (f.name != "_"), g f.type, P.info? f.type, P.underlying f.type with
  | true,some (b,z),some i,some d=>match Nat.beq i.size z.length && (uF d == b) && Nat.ble 1 z.length with
   | true=>match Cm P g (o+z.length) l with
    | some zs=>some (z++zs)
    | none=>none
   | false=>none
  | _,_,_,_=>none
def xF (P:Program):Nat→TypeId→Option (Bool × List Value)
 | 0,_=>none
 | d+1,t=>match P.underlying t with
  | some .bool=>some (false,[.bool false])
  | some (.int q)=>some (false,[.int q 0])
  | some .string=>some (false,[.string ⟨#[]⟩])
  | some (.struct fs)=>match P.stoodInHeld t with
   | true=>none
   | false=>match Cm P (xF P d) 0 fs.toList with
    | some z=>some (true,z)
    | none=>none
  | _=>none
theorem rN:∀ {l m:List Value},eY l m=true→l.length=m.length
 | [],[],_=>rfl
 | .bool _::l,.bool _::m,h=>by simp [rN (l:=l) (m:=m) h]
 | .int q _::l,.int q' _::m,h=>by
  simp only [eY,Bool.and_eq_true] at h;simp [rN (l:=l) (m:=m) h.2]
 | .string _::l,.string _::m,h=>by simp [rN (l:=l) (m:=m) h]
def JB (x v:Value):Prop:=(∃ a b,x=.bool a∧v=.bool b)∨(∃ q a b,x=.int q a∧v=.int q b)∨∃ a b,x=.string a∧v=.string b
theorem CK {xs z:List Value} {v:Value} (h:eY xs (v::z)=true):∃ x l,xs=x::l∧JB x v∧eY l z=true:=by
 generalize e:v::z=w at h;unfold eY at h
 split at h
 ·cases e
 ·cases e; exact ⟨_,_,rfl,.inl ⟨_,_,rfl,rfl⟩,h⟩
 ·cases e;simp only [Bool.and_eq_true,decide_eq_true_eq] at h;obtain ⟨rfl,h⟩:=h;exact ⟨_,_,rfl,.inr (.inl ⟨_,_,_,rfl,rfl⟩),h⟩
 ·cases e; exact ⟨_,_,rfl,.inr (.inr ⟨_,_,rfl,rfl⟩),h⟩
 ·cases h
theorem G6 {xs:List Value} (h:eY xs []=true):xs=[]:=List.length_eq_zero_iff.1 (rN h)
theorem Xq {x v:Value} {l z:List Value} (h:JB x v) (J:eY l z=true):eY (x::l) (v::z)=true:=by
 rcases h with ⟨a,b,rfl,rfl⟩ | ⟨q,a,b,rfl,rfl⟩ | ⟨a,b,rfl,rfl⟩
 ·exact J
 ·simp only [eY,decide_true,Bool.true_and]; exact J
 ·exact J
theorem Ez:∀ {z xs zs:List Value},eY xs (z++zs)=true→∃ x1 x2,xs=x1++x2∧eY x1 z=true∧eY x2 zs=true
 | [],xs,zs,h=>⟨[],xs,rfl,rfl,h⟩
 | v::z,xs,zs,h=>by
  obtain ⟨x,l,rfl,h1,J⟩:=CK (z:=z++zs) h;obtain ⟨x1,x2,rfl,h3,h4⟩:=Ez J;exact ⟨x::x1,x2,rfl,Xq h1 h3,h4⟩
theorem Kj:∀ {z x1 y1 x2 y2:List Value},eY x1 z=true→eY y1 z=true→eU (x1++x2) (y1++y2)=(eU x1 y1 && eU x2 y2)
 | [],x1,y1,x2,y2,h1,J=>by
  rw [G6 h1,G6 J];simp [eU]
 | v::z,x1,y1,x2,y2,h1,J=>by
  obtain ⟨x,l,rfl,a1,a2⟩:=CK h1;obtain ⟨y,m,rfl,b1,b2⟩:=CK J;have ih:=Kj (x2:=x2) (y2:=y2) a2 b2;rcases a1 with ⟨p,_,rfl,rfl⟩ | ⟨q,p,_,rfl,rfl⟩ | ⟨p,_,rfl,rfl⟩
  all_goals
   rcases b1 with ⟨r,_,rfl,e⟩ | ⟨q',r,_,rfl,e⟩ | ⟨r,_,rfl,e⟩
  all_goals first | (cases e; done) | skip
  all_goals
   simp only [List.cons_append,eU,ih,Bool.and_assoc]
theorem xp {xs:List Value} {v:Value} (h:eY xs [v]=true):∃ x,xs=[x]∧JB x v:=by
 obtain ⟨x,l,rfl,h1,J⟩:=CK h;rw [G6 J];exact ⟨x,rfl,h1⟩
def toV (b:Bool) (xs:List Value):Value:=if b then .agg ⟨xs⟩ else xs.getD 0 undef
theorem KA {P:Program} {d:Nat} (ih:∀ t b z,xF P d t=some (b,z)→∀ n xs ys w,eY xs z=true→eY ys z=true→(Op.equalIn (n+d) t (toV b xs) (toV b ys)).run P w=.ok (eU xs ys) w) (n:Nat) (w:World) (XS YS:List Value) :
  ∀ (l:List Field) (o:Nat) (z:List Value),Cm P (xF P d) o l=some z→∀ xs ys,eY xs z=true→eY ys z=true→(∀ j v,xs[j]?=some v→XS[o+j]?=some v)→(∀ j v,ys[j]?=some v→YS[o+j]?=some v) →
   (Op.eqFields (n+d) ⟨XS⟩ ⟨YS⟩ l).run P w=.ok (eU xs ys) w
 | [],o,z,h,xs,ys,h1,J,_,_=>by
  cases h;have e1:=rN h1;have e2:=rN J;have e1:xs=[]:=List.length_eq_zero_iff.1 e1;have e2:ys=[]:=List.length_eq_zero_iff.1 e2;subst e1; subst e2
  rfl
 | f::l,o,z,h,xs,ys,h1,J,hx,hy=>by
  unfold Cm at h
  split at h
  ·rename_i b z1 i dd hb hg hi hu
   split at h
   ·rename_i hc
    split at h
    ·rename_i zs hz;cases h;simp only [Bool.and_eq_true] at hb hc;obtain ⟨⟨c1,c2⟩,c3⟩:=hc;obtain ⟨x1,x2,rfl,s8,ox⟩:=Ez h1;obtain ⟨y1,y2,rfl,g9,gy⟩:=Ez J;have lx:=rN s8;have ly:=rN g9;have ba:=Nat.eq_of_beq_eq_true c1;have Rj:yQ P f (o,z1.length,b):=⟨Nat.eq_of_beq_eq_true hb.1,Nat.le_of_ble_eq_true c3,⟨i,hi,ba⟩,dd,hu,by simpa using c2⟩
     have p1:=F0 Rj (cs:=XS) (vs:=x1) lx (fun j v hv=>hx j v (by rw [List.getElem?_append_left (by rw [List.getElem?_eq_some_iff] at hv; exact hv.1)]; exact hv)) w
     have p2:=F0 Rj (cs:=YS) (vs:=y1) ly (fun j v hv=>hy j v (by rw [List.getElem?_append_left (by rw [List.getElem?_eq_some_iff] at hv; exact hv.1)]; exact hv)) w
     have p3:=ih f.type b z1 hg n x1 y1 w s8 g9;have p4:=KA ih n w XS YS l (o+z1.length) zs hz x2 y2 ox gy
      (fun j v hv=>by
       rw [Nat.add_assoc];refine hx _ v ?_;rw [List.getElem?_append_right (by omega),← lx,Nat.add_sub_cancel_left]
       exact hv)
      (fun j v hv=>by
       rw [Nat.add_assoc];refine hy _ v ?_;rw [List.getElem?_append_right (by omega),← ly,Nat.add_sub_cancel_left]
       exact hv)
     have aE : f.name ≠ "_" := by simpa using hb.2
     unfold Op.eqFields;rw [if_pos aE];unfold toV at p3;simp only [Sem.run_bind,p1,p2,Result.andThen_ok];rw [p3];simp only [Result.andThen_ok];rw [Kj s8 g9];cases eU x1 y1
     ·rfl
     ·simpa using p4
    ·cases h
   ·cases h
  ·cases h
theorem Ls {P:Program}:∀ (d:Nat) (t:TypeId) (b:Bool) (z:List Value),xF P d t=some (b,z)→∀ (n:Nat) (xs ys:List Value) (w:World),eY xs z=true→eY ys z=true →
  (Op.equalIn (n+d) t (toV b xs) (toV b ys)).run P w=.ok (eU xs ys) w
 | 0,t,b,z,h=>by cases h
 | d+1,t,b,z,h=>by
  intro n xs ys w h1 J;unfold xF at h
  split at h
  ·rename_i hu;cases h;obtain ⟨x,rfl,a1⟩:=xp h1;obtain ⟨y,rfl,a2⟩:=xp J;rcases a1 with ⟨x,_,rfl,e⟩ | ⟨_,x,_,rfl,e⟩ | ⟨x,_,rfl,e⟩
   all_goals first | (cases e; done) | skip
   rcases a2 with ⟨y,_,rfl,e⟩ | ⟨_,y,_,rfl,e⟩ | ⟨y,_,rfl,e⟩
   all_goals first | (cases e; done) | skip
   ·skip
    rw [show toV false [Value.bool x]=.bool x from rfl,show toV false [Value.bool y]=.bool y from rfl]
    rw [show n+(d+1)=(n+d)+1 from rfl,run_equalIn_bool' w (n+d) t x y hu]
    simp [eU]
  ·rename_i q hu;cases h;obtain ⟨x,rfl,a1⟩:=xp h1;obtain ⟨y,rfl,a2⟩:=xp J;rcases a1 with ⟨x,_,rfl,e⟩ | ⟨q1,x,_,rfl,e⟩ | ⟨x,_,rfl,e⟩
   all_goals first | (cases e; done) | skip
   cases e;rcases a2 with ⟨y,_,rfl,e⟩ | ⟨q2,y,_,rfl,e⟩ | ⟨y,_,rfl,e⟩
   all_goals first | (cases e; done) | skip
   cases e
   ·skip
    rw [show toV false [Value.int q x]=.int q x from rfl,show toV false [Value.int q y]=.int q y from rfl]
    rw [show n+(d+1)=(n+d)+1 from rfl,run_equalIn_int w (n+d) t q q x y hu]
    simp [eU]
  ·rename_i hu;cases h;obtain ⟨x,rfl,a1⟩:=xp h1;obtain ⟨y,rfl,a2⟩:=xp J;rcases a1 with ⟨x,_,rfl,e⟩ | ⟨_,x,_,rfl,e⟩ | ⟨x,_,rfl,e⟩
   all_goals first | (cases e; done) | skip
   rcases a2 with ⟨y,_,rfl,e⟩ | ⟨_,y,_,rfl,e⟩ | ⟨y,_,rfl,e⟩
   all_goals first | (cases e; done) | skip
   ·skip
    rw [show toV false [Value.string x]=.string x from rfl,show toV false [Value.string y]=.string y from rfl]
    rw [show n+(d+1)=(n+d)+1 from rfl,run_equalIn_string w (n+d) t x y hu]
    simp [eU]
  ·rename_i fs hu
   split at h
   ·cases h
   ·rename_i au
    split at h
    ·rename_i z0 hz;cases h;have vI:P.fieldsOf t=fs:=by unfold Program.fieldsOf; rw [hu]
     show (Op.equalIn (n+(d+1)) t (.agg ⟨xs⟩) (.agg ⟨ys⟩)).run P w=_
     rw [show n+(d+1)=(n+d)+1 from rfl,run_equalIn_struct w (n+d) t ⟨xs⟩ ⟨ys⟩ (by rw [vI]; exact hu) au,vI]
     exact KA (Ls d) n w xs ys fs.toList 0 _ hz xs ys h1 J (fun j v hv=>by rw [Nat.zero_add]; exact hv) (fun j v hv=>by rw [Nat.zero_add]; exact hv)
    ·cases h
  ·cases h
theorem aeA {P:Program} {t:TypeId} {z:List Value} (h:xF P 5 t=some (true,z)) (hg:P.eqGuardType P.depth t=false):xQ P t z:=by
 intro xs ys w h1 J;refine ⟨?_,fun x y op=>run_eqGuard_agg w op t x y ⟨xs⟩ ⟨ys⟩ hg⟩
 exact Ls 5 t true z h 9995 xs ys w h1 J
open Go Go.RowKit
def uW:Code→Option (Array Nat × Code × Code)
 | .rangeFunc _ ps a b=>some (ps,a,b)
 | .seq a b=>match uW a with
  | some x=>some x
  | none=>uW b
 | .block _ c=>uW c
 | .loop c=>uW c
 | .cond _ a b=>match uW a with
  | some x=>some x
  | none=>uW b
 | _=>none
def qV (f:Func) (fn:FuncId) (tm:Array Value) (df:Nat):Loop :=
 match f.body with
 | some c=>match uW c with
  | some (ps,a,b)=>⟨.ready,none,fn,tm,ps,a,b,df⟩
  | none=>⟨.ready,none,fn,tm,#[],.skip,.skip,df⟩
 | none=>⟨.ready,none,fn,tm,#[],.skip,.skip,df⟩
def eg (id:Nat):Nat→Value
 | 0=>.slice none 0 0
 | q+1=>.slice (some ⟨id,0,none⟩) (q+1) aM
def zU (e:Nat) (F:Nat→List Value):Nat→aA
 | 0=>[]
 | q+1=>[some (.flat true (q+1) e F)]
end Go.Ae
