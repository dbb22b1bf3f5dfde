import Derived.Laws.StructEq
import Derived.Test.YtlapbjdhekcipaaGreatTB
set_option linter.unusedVariables false
set_option linter.unusedSimpArgs false
namespace Go.Ae
open Go Go.RowKit
def nE (es:List (Option Nat)) (D:Nat→Bool) (i:Nat):Bool:=(List.range es.length).any fun p=>D p && (es.getD p none == some i)
theorem tV {es:List (Option Nat)} {D:Nat→Bool} {i:Nat}:nE es D i=true↔∃ p,D p=true∧es[p]?=some (some i):=by
 unfold nE;rw [List.any_eq_true];constructor
 ·rintro ⟨p,hp,h⟩
  rw [Bool.and_eq_true,beq_iff_eq,List.getD_eq_getElem?_getD,List.getElem?_eq_getElem (List.mem_range.1 hp)] at h;exact ⟨p,h.1,by rw [List.getElem?_eq_getElem (List.mem_range.1 hp)]; exact congrArg some h.2⟩
 ·rintro ⟨p,h1,J⟩
  have ak:=(List.getElem?_eq_some_iff.1 J).1;refine ⟨p,List.mem_range.2 ak,?_⟩;rw [h1,List.getD_eq_getElem?_getD,J];simp
def ji (es:List (Option Nat)) (rs:List dr) (D:Nat→Bool) (m:Nat):List (Option ai):=(List.range m).map fun i=>if D i && !nE es D i then (rs[i]?).bind (·.nb) else none
theorem wk {es:List (Option Nat)} {rs:List dr} {D:Nat→Bool} {m i:Nat} {b:ai}:(ji es rs D m)[i]?=some (some b)↔i < m∧D i=true∧nE es D i=false∧(rs[i]?).bind (·.nb)=some b:=by
 unfold ji;rw [List.getElem?_map];by_cases h:i < m
 ·simp only [List.getElem?_range h,Option.map_some,Option.some.injEq];cases D i <;> cases nE es D i <;> simp [h]
 ·rw [List.getElem?_eq_none (by simp; omega)]
  simp [h]
theorem A6 (es:List (Option Nat)) (rs:List dr) (D:Nat→Bool) (m:Nat):(ji es rs D m).length=m:=by simp [ji]
def jk (es:List (Option Nat)) (rs:List dr):List (Option ai):=ji es rs (fun i=>decide (i < rs.length)) rs.length
def HJ (ms:List (List Nat)) (j i:Nat):Bool :=
 decide (i < j) && (ms.getD j []).contains i && (List.range ms.length).all fun q=>q == j || !((ms.getD q []).contains i) || (ms.getD j []).contains q
theorem Tc {ms:List (List Nat)} {j i:Nat} (h:HJ ms j i=true):i < j∧i∈ms.getD j []∧∀ q,q≠j→i∈ms.getD q []→q∈ms.getD j []:=by
 unfold HJ at h;simp only [Bool.and_eq_true,decide_eq_true_eq,List.contains_iff_mem,List.all_eq_true,List.mem_range,Bool.or_eq_true,beq_iff_eq,Bool.not_eq_true'] at h;refine ⟨h.1.1,h.1.2,fun q hq hi=>?_⟩
 have ak:q < ms.length:=by
  rcases Nat.lt_or_ge q ms.length with h' | h'
  ·exact h'
  ·rw [List.getD_eq_getElem?_getD,List.getElem?_eq_none h'] at hi; cases hi
 rcases h.2 q ak with (h' | h') | h'
 ·exact absurd h' hq
 ·rw [List.contains_iff_mem.2 hi] at h'; cases h'
 ·exact h'
def nF (E:Env) (ops:List Oper) (vH:List (List Nat)) (H:aA) (n0:Nat):List Oper→List (List Nat)→Nat→List Value→List (Option ai)→(List Value→List (Option ai)→Prop)→Prop
 | [],_,_,t,S,k=>k t S
 | o::l,mask::aV,j,t,S,k =>
  match o.guard with
  | none=>match isApp o.op with
   | some (ty,x,y)=>lR S 0 mask fun Sm=>nU H Sm fun G=>PX E t G n0 (n0+j) ty x y fun v gA nb=>match gA with
    | some i=>HJ vH j i=true∧dD t o.dst v fun t'=>jD S i none fun S1=>jy S1 nb fun S'=>nF E ops vH H n0 l aV (j+1) t' S' k
    | none=>dD t o.dst v fun t'=>jy S nb fun S'=>nF E ops vH H n0 l aV (j+1) t' S' k
   | none=>lR S 0 mask fun Sm=>nU H Sm fun G=>lB E o.op t G (n0+j) fun v nb=>dD t o.dst v fun t'=>jy S nb fun S'=>nF E ops vH H n0 l aV (j+1) t' S' k
  | some (g,want)=>match (ops[g]?).bind (·.dst) with
   | some d=>qO t d fun v=>match v with
    | .bool b=>br (b == want)
      (lR S 0 mask fun Sm=>nU H Sm fun G=>lB E o.op t G (n0+j) fun v nb=>dD t o.dst v fun t'=>jy S nb fun S'=>nF E ops vH H n0 l aV (j+1) t' S' k)
      (dD t o.dst undef fun t'=>jy S none fun S'=>nF E ops vH H n0 l aV (j+1) t' S' k)
    | .tuple _=>dD t o.dst undef fun t'=>jy S none fun S'=>nF E ops vH H n0 l aV (j+1) t' S' k
    | _=>False
   | none=>False
 | _::_,[],_,_,_,_=>False
def O7 (E:Env) (ops:List Oper) (t:List Value) (H:aA) (k:SK):Prop :=
 ∃ (m:Nat) (aV:List (List Nat)),Cx ops m aV=true∧jE H fun n0=>uQ ops m fun hd tl=>nF E ops aV H n0 hd aV 0 t [] fun t' S=>nU H S fun G=>nK E ops tl t' G k
structure pk (P:Program) (ops:List Oper) (t0:List Value) (H:aA) (aV:List (List Nat)) (rs:List dr) (es:List (Option Nat)) (j:Nat):Prop where
 ok:∃ o r gA,ops[j]?=some o∧rs[j]?=some r∧es[j]?=some gA∧(∀ d,o.dst=some d→d < t0.length) ∧
  ((∃ G:aA,(∀ id b,G[id]?=some (some b)→(id < H.length∧H[id]?=some (some b))∨(∃ i,id=H.length+i∧i < j∧i∈aV.getD j []∧(rs[i]?).bind (·.nb)=some b)) ∧
    (∀ i,gA=some i→i < j∧i∈aV.getD j []∧(∀ q,q≠j→i∈aV.getD q []→q∈aV.getD j [])∧∃ b,G[H.length+i]?=some (some b)∧b.own=true) ∧
    (∀ (ν:Nu) (a:Act) (w:World) (q:Option Nat) (n:Nat),(∀ x∈o.op.operands,fC ν (bm ops rs (fun i=>decide (i < j)) t0 j) a x)→bU ν G w→ν (H.length+j)=none →
     ∀ next Q,(∀ v' w' aj,EPost ν aj (H.length+j) (gA.bind fun i=>ν (H.length+i)) w w' r.v v' r.nb→next (a.put o.dst v') w')→o.wpIn (WF q) n P a w next Q) ∧
    (o.guard=none∨∃ g want d b,o.guard=some (g,want)∧bV ops g=some d∧(bm ops rs (fun i=>decide (i < j)) t0 j)[d]?=some (.bool b)∧(b == want)=true)) ∨
    (gA=none∧r.v=undef∧r.nb=none∧∃ g want d v,o.guard=some (g,want)∧bV ops g=some d∧(bm ops rs (fun i=>decide (i < j)) t0 j)[d]?=some v∧((∃ b,v=.bool b∧(b == want)=false)∨∃ vs,v=.tuple vs)))
theorem pk.more {P:Program} {ops:List Oper} {t0:List Value} {H:aA} {aV:List (List Nat)} {rs:List dr} {es:List (Option Nat)} {j:Nat} (h:pk P ops t0 H aV rs es j) (hj:j < rs.length) (hj2:j < es.length) (r:dr) (e:Option Nat):pk P ops t0 H aV (rs++[r]) (es++[e]) j:=by
 have he:∀ i,i≤j→(rs++[r])[i]?=rs[i]?:=fun i hi=>by rw [List.getElem?_append_left (by omega)]
 have hv:∀ D,bm ops (rs++[r]) D t0 j=bm ops rs D t0 j:=fun D=>tN (fun i hi=>he i (by omega))
 obtain ⟨o,q,gA,h1,J,j9,h3,h4⟩:=h.ok;refine ⟨⟨o,q,gA,h1,by rw [he j (Nat.le_refl _)]; exact J,by rw [List.getElem?_append_left hj2]; exact j9,h3,?_⟩⟩
 rw [hv];rcases h4 with ⟨G,g1,g2,g3,g4⟩ | h4
 ·exact .inl ⟨G,fun id b hb=>(g1 id b hb).imp (fun x=>x) (fun ⟨i,k1,k2,k3,k4⟩=>⟨i,k1,k2,k3,by rw [he i (by omega)]; exact k4⟩),g2,g3,g4⟩
 ·exact .inr h4
def qF (S:List (Option ai)):Option Nat→List (Option ai)
 | some i=>S.set i none
 | none=>S
theorem Ut {es:List (Option Nat)} {rs:List dr} {i:Nat} {b:ai} (h:(jk es rs)[i]?=some (some b)):(rs[i]?).bind (·.nb)=some b:=(wk.1 h).2.2.2
theorem Td {es:List (Option Nat)} {rs:List dr} (hl:es.length=rs.length) (ak:∀ (p i:Nat),es[p]?=some (some i)→i < p) (r:dr) (e:Option Nat) (he:∀ i,e=some i→i < rs.length) :
  jk (es++[e]) (rs++[r])=qF (jk es rs) e++[r.nb]:=by
 have hD:∀ i,i < rs.length+1→decide (i < (rs++[r]).length)=true:=fun i hi=>by simp; omega
 have QP:∀ i,nE (es++[e]) (fun i=>decide (i < (rs++[r]).length)) i=(nE es (fun i=>decide (i < rs.length)) i || e == some i):=fun i=>by
  rw [Bool.eq_iff_iff,Bool.or_eq_true,tV,tV,beq_iff_eq];constructor
  ·rintro ⟨p,_,J⟩
   rw [List.getElem?_append] at J
   split at J
   ·rename_i hp;exact .inl ⟨p,by simp; omega,J⟩
   ·right
    have:p - es.length=0:=by
     rcases Nat.eq_zero_or_pos (p - es.length) with h | h
     ·exact h
     ·rw [List.getElem?_eq_none (by simp; omega)] at J; cases J
    rw [this] at J
    simpa using J
  ·rintro (⟨p,h1,J⟩ | J)
   ·have:=(List.getElem?_eq_some_iff.1 J).1;exact ⟨p,by simp at h1 ⊢; omega,by rw [List.getElem?_append_left this]; exact J⟩
   ·exact ⟨es.length,by simp; omega,by rw [List.getElem?_append_right (Nat.le_refl _)]; simp [J]⟩
 apply List.ext_getElem?;intro x;have hlen:(qF (jk es rs) e).length=rs.length:=by
  cases e <;> simp [qF,jk,A6]
 unfold jk ji;rw [List.getElem?_map];by_cases hx:x < rs.length
 ·rw [List.getElem?_range (by simp; omega),List.getElem?_append_left (by cases e <;> simp [qF] <;> omega)]
  simp only [Option.map_some];simp only [QP x,hD x (by omega)]
  rw [List.getElem?_append_left hx];unfold qF;cases e with
  | none =>
   dsimp only
   rw [List.getElem?_map,List.getElem?_range hx];simp [hx]
  | some i =>
   dsimp only
   by_cases Js:i=x
   ·subst Js;rw [List.getElem?_set_self (by simpa using hx)]
    simp
   ·rw [List.getElem?_set_ne Js,List.getElem?_map,List.getElem?_range hx];have:(some i == some x)=false:=by simp [Js]
    rw [this];simp [hx]
 ·by_cases mU:x=rs.length
  ·subst mU;rw [List.getElem?_range (by simp),List.getElem?_append_right (by cases e <;> simp [qF])]
   have aN:nE es (fun i=>decide (i < rs.length)) rs.length=false:=by
    cases h:nE es (fun i=>decide (i < rs.length)) rs.length with
    | false=>rfl
    | true =>
     obtain ⟨p,h1,J⟩:=tV.1 h;have:=ak p _ J;have:=of_decide_eq_true h1;omega
   have Is:(e == some rs.length)=false:=by
    cases e with
    | none=>rfl
    | some i=>have:=he i rfl; simp; omega
   simp only [Option.map_some];simp only [QP,hD _ (Nat.lt_succ_self _),aN,Is];cases e <;> simp [qF]
  ·rw [List.getElem?_eq_none (by simp; omega),List.getElem?_eq_none (by cases e <;> simp [qF] <;> omega)]; rfl
theorem Ln {P:Program} {E:Env} (hE:EnvOk P E) {ops:List Oper} {t0:List Value} {H:aA} {aV:List (List Nat)} {k:List Value→List (Option ai)→Prop} :
  ∀ {l:List Oper} {ms:List (List Nat)} {j:Nat} {rs:List dr} {es:List (Option Nat)},rs.length=j→es.length=j→(∀ (p i:Nat),es[p]?=some (some i)→i < p)→(∀ (i:Nat) o,l[i]?=some o→ops[j+i]?=some o)→(∀ i,i < l.length→ms.getD i []=aV.getD (j+i) []) →
  (∀ i,i < j→pk P ops t0 H aV rs es i)→nF E ops aV H H.length l ms j (bm ops rs (fun i=>decide (i < j)) t0 j) (jk es rs) k →
  ∃ (ck:List dr) (kd:List (Option Nat)),ck.length=j+l.length∧kd.length=j+l.length∧(∀ i,i < j+l.length→pk P ops t0 H aV ck kd i)∧k (bm ops ck (fun i=>decide (i < j+l.length)) t0 (j+l.length)) (jk kd ck)
 | [],ms,j,rs,es,hl,jo,_,_,_,a9,h=>⟨rs,es,hl,jo,a9,h⟩
 | o::l,[],j,rs,es,hl,jo,_,_,_,a9,h=>h.elim
 | o::l,mask::ms,j,rs,es,hl,jo,ak,ho,hm,a9,h=>by
  have oA:ops[j]?=some o:=by have:=ho 0 o rfl; simpa using this
  have CX:mask=aV.getD j []:=by have:=hm 0 (by simp); simpa using this
  -- the next step, whatever this one's result
  have next:∀ (r:dr) (e:Option Nat) t',(t'=match o.dst with | some d=>(bm ops rs (fun i=>decide (i < j)) t0 j).set d r.v | none=>bm ops rs (fun i=>decide (i < j)) t0 j)→(∀ i,e=some i→i < j) →
    (pk P ops t0 H aV (rs++[r]) (es++[e]) j)→nF E ops aV H H.length l ms (j+1) t' (qF (jk es rs) e++[r.nb]) k →
    ∃ (ck:List dr) (kd:List (Option Nat)),ck.length=j+(o::l).length∧kd.length=j+(o::l).length∧(∀ i,i < j+(o::l).length→pk P ops t0 H aV ck kd i)∧k (bm ops ck (fun i=>decide (i < j+(o::l).length)) t0 (j+(o::l).length)) (jk kd ck):=by
   intro r e t' jK fF hj h';have hv:bm ops (rs++[r]) (fun i=>decide (i < j+1)) t0 (j+1)=t':=by
    have hr:(rs++[r])[j]?=some r:=by rw [← hl]; simp
    have hd:bV ops j=o.dst:=by simp [bV,oA]
    have zB:bm ops (rs++[r]) (fun i=>decide (i < j+1)) t0 j=bm ops rs (fun i=>decide (i < j)) t0 j:=by
     rw [tN (ck:=rs) (fun i hi=>by rw [List.getElem?_append_left (by omega)])]
     exact yf (fun i hi=>by simp; omega)
    have Ip:decide (j < j+1)=true:=by simp
    rw [jK,EY,hr,hd,zB,Ip];cases o.dst <;> rfl
   rw [← hv,← Td (jo.trans hl.symm) ak r e (fun i hi=>by rw [hl]; exact fF i hi)] at h'
   obtain ⟨ck,kd,k1,QQ,k2,k3⟩:=Ln hE (l:=l) (ms:=ms) (j:=j+1) (rs:=rs++[r]) (es:=es++[e]) (by simp [hl]) (by simp [jo]) (fun p i hp=>by
     rw [List.getElem?_append] at hp
     split at hp
     ·exact ak p i hp
     ·rename_i eY;have:p - es.length=0:=by
       rcases Nat.eq_zero_or_pos (p - es.length) with h | h
       ·exact h
       ·rw [List.getElem?_eq_none (by simp; omega)] at hp; cases hp
      rw [this] at hp;have:=fF i (by simpa using hp)
      omega) (fun i p hp=>by have:=ho (i+1) p (by simpa using hp); rwa [show j+1+i=j+(i+1) by omega])
    (fun i hi=>by have:=hm (i+1) (by simp; omega); rw [show j+1+i=j+(i+1) by omega]; simpa using this)
    (fun i hi=>by
     by_cases e':i=j
     ·subst e'; exact hj
     ·exact (a9 i (by omega)).more (by omega) (by omega) r e) h'
   have e2:j+1+l.length=j+(o::l).length:=by simp; omega
   rw [e2] at k1 QQ k2 k3;exact ⟨ck,kd,k1,QQ,k2,k3⟩
  have oB:∀ r:dr,bm ops (rs++[r]) (fun i=>decide (i < j)) t0 j=bm ops rs (fun i=>decide (i < j)) t0 j:=fun r=>tN (fun i hi=>by rw [List.getElem?_append_left (by omega)])
  have tA:∀ r:dr,(rs++[r])[j]?=some r:=fun r=>by rw [← hl]; simp
  have DS:∀ e:Option Nat,(es++[e])[j]?=some e:=fun e=>by rw [← jo]; simp
  -- what is seen of the blocks
  have seen:∀ {Sm:List (Option ai)} (r:dr),(∀ jj b,Sm[jj]?=some (some b)→(jk es rs)[jj]?=some (some b)∧(0+jj)∈mask)→∀ id b,(H++Sm)[id]?=some (some b) →
    (id < H.length∧H[id]?=some (some b))∨(∃ i,id=H.length+i∧i < j∧i∈aV.getD j []∧((rs++[r])[i]?).bind (·.nb)=some b):=by
   intro Sm r h3 id b hb;rw [List.getElem?_append] at hb
   split at hb
   ·exact .inl ⟨by assumption,hb⟩
   ·rename_i eY;obtain ⟨q1,q2⟩:=h3 _ b hb;have adZ:id - H.length < rs.length:=by
     have:=(List.getElem?_eq_some_iff.1 q1).1
     rwa [jk,A6] at this
    refine .inr ⟨id - H.length,by omega,by omega,by rw [← CX]; simpa using q2,?_⟩
    rw [List.getElem?_append_left adZ];exact Ut q1
  have Dm:∀ {v:Value} {kk:List Value→Prop},dD (bm ops rs (fun i=>decide (i < j)) t0 j) o.dst v kk→∃ t',(t'=match o.dst with | some d=>(bm ops rs (fun i=>decide (i < j)) t0 j).set d v | none=>bm ops rs (fun i=>decide (i < j)) t0 j)∧(∀ d,o.dst=some d→d < t0.length)∧kk t':=by
   intro v kk hk;cases hd:o.dst with
   | none=>rw [hd] at hk; exact ⟨_,rfl,(fun d hd=>by cases hd),hk⟩
   | some d =>
    rw [hd] at hk;obtain ⟨k1,k2⟩:=oT hk;rw [rM] at k1;exact ⟨_,rfl,(fun d' dh=>by cases dh; exact k1),k2⟩
  have run:(o.guard=none∨∃ g want d b,o.guard=some (g,want)∧bV ops g=some d∧(bm ops rs (fun i=>decide (i < j)) t0 j)[d]?=some (.bool b)∧(b == want)=true) →
    (lR (jk es rs) 0 mask fun Sm=>nU H Sm fun G=>lB E o.op (bm ops rs (fun i=>decide (i < j)) t0 j) G (H.length+j) fun v nb=>dD (bm ops rs (fun i=>decide (i < j)) t0 j) o.dst v fun t'=>jy (jk es rs) nb fun S'=>nF E ops aV H H.length l ms (j+1) t' S' k) →
    ∃ (ck:List dr) (kd:List (Option Nat)),ck.length=j+(o::l).length∧kd.length=j+(o::l).length∧(∀ i,i < j+(o::l).length→pk P ops t0 H aV ck kd i)∧k (bm ops ck (fun i=>decide (i < j+(o::l).length)) t0 (j+(o::l).length)) (jk kd ck):=by
   intro hg h;obtain ⟨Sm,h1,J,h3⟩:=v8 h;have h1:=ua h1;obtain ⟨v,nb,hk,hq⟩:=Bt (P:=P) hE h1;obtain ⟨t',e1,e2,e3⟩:=Dm hk;refine next ⟨v,nb,true⟩ none t' e1 (fun i hi=>by cases hi) ⟨⟨o,⟨v,nb,true⟩,none,oA,tA _,DS _,e2,.inl ⟨H++Sm,seen _ h3,(fun i hi=>by cases hi),?_,?_⟩⟩⟩ (tR e3)
   ·rw [oB];exact fun ν a w q n ha hH hn next Q hN=>hq o ν a w q n rfl ha hH hn next Q (fun v' w' aj hp=>hN v' w' aj (hp.e _))
   ·rw [oB]; exact hg
  have skip:(∃ g want d v,o.guard=some (g,want)∧bV ops g=some d∧(bm ops rs (fun i=>decide (i < j)) t0 j)[d]?=some v∧((∃ b,v=.bool b∧(b == want)=false)∨∃ vs,v=.tuple vs)) →
    (dD (bm ops rs (fun i=>decide (i < j)) t0 j) o.dst undef fun t'=>jy (jk es rs) none fun S'=>nF E ops aV H H.length l ms (j+1) t' S' k) →
    ∃ (ck:List dr) (kd:List (Option Nat)),ck.length=j+(o::l).length∧kd.length=j+(o::l).length∧(∀ i,i < j+(o::l).length→pk P ops t0 H aV ck kd i)∧k (bm ops ck (fun i=>decide (i < j+(o::l).length)) t0 (j+(o::l).length)) (jk kd ck):=by
   intro hg hk;obtain ⟨t',e1,e2,e3⟩:=Dm hk;exact next ⟨undef,none,false⟩ none t' e1 (fun i hi=>by cases hi) ⟨⟨o,⟨undef,none,false⟩,none,oA,tA _,DS _,e2,.inr ⟨rfl,rfl,rfl,by rw [oB]; exact hg⟩⟩⟩ (tR e3)
  unfold nF at h
  split at h
  ·rename_i hg
   split at h
   ·rename_i ty x y ad0;obtain ⟨Sm,h1,J,h3⟩:=v8 h;have h1:=ua h1;obtain ⟨v,gA,nb,hk,kA,hq⟩:=Us (P:=P) hE h1;obtain ⟨c,vI,hc2,QR,hc4⟩:=Tb ad0
    -- what the step gives
    have step:∀ (ν:Nu) (a:Act) (w:World) (q:Option Nat) (n:Nat),(∀ x∈o.op.operands,fC ν (bm ops rs (fun i=>decide (i < j)) t0 j) a x)→bU ν (H++Sm) w→ν (H.length+j)=none →
      ∀ next Q,(∀ v' w' aj,EPost ν aj (H.length+j) (gA.bind fun i=>ν (H.length+i)) w w' v v' nb→next (a.put o.dst v') w')→o.wpIn (WF q) n P a w next Q:=by
     intro ν a w q n ha hH hn next Q hN;have gY:∀ z,z∈[x,y]→z∈o.op.operands:=fun z hz=>by
      rw [vI];simp only [List.mem_cons,List.mem_nil_iff,or_false] at hz;rcases hz with rfl | rfl <;> simp [Op.operands,Call.operands,QR]
     obtain ⟨v',w',aj,bK,hp⟩:=hq ν a w o.type (ha x (gY x (by simp))) (ha y (gY y (by simp))) hH hn
     exact jP (by simp [vI]) (by simp [execOp,vI,resolve,hc2,QR,hc4,invoke,builtin,bK]) next Q (hN _ _ _ hp)
    cases gA with
    | none =>
     obtain ⟨t',e1,e2,e3⟩:=Dm hk;exact next ⟨v,nb,true⟩ none t' e1 (fun i hi=>by cases hi) ⟨⟨o,⟨v,nb,true⟩,none,oA,tA _,DS _,e2,.inl ⟨H++Sm,seen _ h3,(fun i hi=>by cases hi),by rw [oB]; exact step,.inl hg⟩⟩⟩ (tR e3)
    | some i =>
     obtain ⟨ad1,hk⟩:=hk;obtain ⟨xZ,At,hiq⟩:=Tc ad1;obtain ⟨t',e1,e2,e3⟩:=Dm hk;obtain ⟨_,e3⟩:=my e3;exact next ⟨v,nb,true⟩ (some i) t' e1 (fun i' hi=>by cases hi; exact xZ) ⟨⟨o,⟨v,nb,true⟩,some i,oA,tA _,DS _,e2,.inl ⟨H++Sm,seen _ h3,(fun i' hi=>by cases hi; exact ⟨xZ,At,hiq,kA i rfl⟩),by rw [oB]; exact step,.inl hg⟩⟩⟩ (tR e3)
   ·exact run (.inl hg) h
  ·rename_i g want hg
   split at h
   ·rename_i d hd;obtain ⟨v,hv,h⟩:=oS h
    split at h
    ·rename_i b;cases hb:(b == want) with
     | true=>exact run (.inr ⟨g,want,d,b,hg,hd,hv,hb⟩) (B6 h hb)
     | false=>exact skip ⟨g,want,d,_,hg,hd,hv,.inl ⟨b,rfl,hb⟩⟩ (BJ h hb)
    ·exact skip ⟨g,want,d,_,hg,hd,hv,.inr ⟨_,rfl⟩⟩ h
    ·exact h.elim
   ·exact h.elim
section
variable {P:Program} {E:Env} {r:Option Nat} {n:Nat} {F:Fr} {ops:Array Oper} {Q:Exit→Act→World→Prop} {m:Nat} {aV:List (List Nat)} {k:SK}
theorem Te (hc:Order ops.toList aV) (uK:m≤ops.size)
  (y6:∀ j o i p d,j < m→i < m→i≠j→ops.toList[j]?=some o→ops.toList[i]?=some p→p.dst=some d→o.dst≠some d∧(d ∉ jt ops.toList o∨i∈aV.getD j []∨j∈aV.getD i []))
  (CY:∀ j,j < ops.size→m≤j→∀ i,i < m→i∈aV.getD j [])
  {t0:List Value} {H:aA} {rs:List dr} {es:List (Option Nat)} (hel:es.length=m) (hh:∀ i,i < m→pk P ops.toList t0 H aV rs es i)
  (pC:∀ (fuel:Nat) (aE:Array Bool) (ν:Nu) (a:Act) (w:World),aE.size=ops.size→o7 ops.toList (DB aE)→(∀ i,DB aE i=true→i < m)→(∀ i,i < m→DB aE i=true) →
   bD F ν (bm ops.toList rs (DB aE) t0 m) (H++ji es rs (DB aE) m) a w→gE (DB aE) ops.size≤fuel→wpAnyIn (WF r) n P .any ops Q fuel aE a w) :
  ∀ (fuel:Nat) (aE:Array Bool) (ν:Nu) (a:Act) (w:World),aE.size=ops.size→o7 ops.toList (DB aE)→(∀ i,DB aE i=true→i < m) →
  bD F ν (bm ops.toList rs (DB aE) t0 m) (H++ji es rs (DB aE) m) a w→(∀ i,i < m→DB aE i=false→ν (H.length+i)=none)→gE (DB aE) ops.size≤fuel →
  wpAnyIn (WF r) n P .any ops Q fuel aE a w:=by
 have l6:∀ i d,i < m→bV ops.toList i=some d→d < t0.length:=by
  intro i d hi hd;obtain ⟨o,q,_,h1,J,_,h3,_⟩:=(hh i hi).ok;unfold bV at hd;rw [h1] at hd;exact h3 d hd
 have pM:xq ops.toList m:=by
  intro i j d hi hj h1 J;rcases Nat.decEq i j with aN | he
  ·obtain ⟨o,q,_,k1,_⟩:=(hh i hi).ok;obtain ⟨p,q',_,k2,_⟩:=(hh j hj).ok;unfold bV at h1 J;rw [k1] at h1; rw [k2] at J;exact absurd h1 (y6 i o j p d hi hj (Ne.symm aN) k1 k2 J).1
  ·exact he
 intro fuel
 induction fuel with
 | zero =>
  intro aE ν a w hs fk ak hi gz hu;have dp:∀ i,i < ops.size→DB aE i=true:=fun i aS=>by
   cases hd:DB aE i with
   | true=>rfl
   | false=>have:=EZ aS hd; omega
  exact pC 0 aE ν a w hs fk ak (fun i aS=>dp i (by omega)) hi hu
 | succ fuel ih =>
  intro aE ν a w hs fk ak hi gz hu;by_cases pj:∀ i,i < m→DB aE i=true
  ·exact pC (fuel+1) aE ν a w hs fk ak pj hi hu
  ·-- something of the head has not gone: the least such one may go
   have hex:∃ i,i < m∧DB aE i=false:=by
    refine Classical.byContradiction fun aN=>pj fun i aS=>?_
    cases hd:DB aE i with
    | true=>rfl
    | false=>exact absurd ⟨i,aS,hd⟩ aN
   obtain ⟨i1,DO,gq⟩:=hex;obtain ⟨i0,PS,fL,iu⟩:=Ey gq;have gH:i0 < m:=by omega
   have hr:=Bd hc hs (by omega:i0 < ops.size) fL iu
   refine ⟨(fun hn=>by rw [hn] at hr; cases hr),fun j hj=>?_⟩
   rw [mem_ready] at hj;obtain ⟨h1,o,ho,he⟩:=hj;have nV:j < ops.size:=(Array.getElem?_eq_some_iff.1 ho).1;rw [ug (by omega)] at h1
   have gn:ops.toList[j]?=some o:=by simpa using ho
   have ml:=tO hc fk j o gn (fun e' gp bE=>he e' gp bE)
   have mX:j < m:=by
    rcases Nat.lt_or_ge j m with h | h
    ·exact h
    ·have:=ml i1 (CY j nV h i1 DO);rw [gq] at this; cases this
   obtain ⟨o',q,gA,g1,g2,g2e,g3,g4⟩:=(hh j mX).ok;rw [gn] at g1; cases g1;have Jm:bV ops.toList j=o.dst:=by simp [bV,gn]
   -- what it reads stands as the text's order has it
   have HG:∀ d,d∈jt ops.toList o→(bm ops.toList rs (DB aE) t0 m)[d]?=(bm ops.toList rs (fun i=>decide (i < j)) t0 j)[d]?:=by
    intro d hd;rw [← wj (j:=j) (m:=m) (by omega) (fun i h1 J=>by simp; omega)]
    refine yu pM l6 (fun i aS gm=>?_)
    by_cases e:i=j
    ·subst e; rw [h1]; simp
    ·obtain ⟨p,q',_,k1,_⟩:=(hh i aS).ok;have Jn:p.dst=some d:=by unfold bV at gm; rw [k1] at gm; exact gm
     rcases (y6 j o i p d mX aS e gn k1 Jn).2 with h | h | h
     ·exact absurd hd h
     ·rw [ml i h];have:=(hc.mask j o gn i h).1;simp [this]
     ·have hji:=(hc.mask i p k1 j h).1;have:DB aE i=false:=by
       cases dh:DB aE i with
       | false=>rfl
       | true =>
        have:=tO hc fk i p k1 (fk i p dh k1) j h;rw [h1] at this; cases this
      rw [this]; simp; omega
   have dv:∀ i,DB (aE.setIfInBounds j true) i=(DB aE i || i == j):=fun i=>Cy (by omega) i
   have xL:o7 ops.toList (DB (aE.setIfInBounds j true)):=by
    intro i p aS hp e' gp bE;rw [dv] at aS ⊢;by_cases e:i=j
    ·subst e;rw [gn] at hp; cases hp;have:DB aE e'.on=true:=he e' gp bE;rw [this]; rfl
    ·have e2:(i == j)=false:=by simp [e]
     rw [e2,Bool.or_false] at aS;rw [fk i p aS hp e' gp bE]; rfl
   have qS:∀ i,DB (aE.setIfInBounds j true) i=true→i < m:=fun i aS=>by
    rw [dv] at aS;by_cases e:i=j
    ·subst e; exact mX
    ·have e2:(i == j)=false:=by simp [e]
     rw [e2,Bool.or_false] at aS;exact ak i aS
   have tg:gE (DB (aE.setIfInBounds j true)) ops.size≤fuel:=by
    have:=Bo dv h1 ops.size;rw [if_pos nV] at this; omega
   have uP:=Lm (D:=DB aE) (D':=DB (aE.setIfInBounds j true)) pM l6 mX h1 dv g2;rw [Jm] at uP;have hat:∀ p i,es[p]?=some (some i)→p < m∧i < p∧i∈aV.getD p []∧∀ q,q≠p→i∈aV.getD q []→q∈aV.getD p []:=by
    intro p i hp;have vJ:p < m:=by have:=(List.getElem?_eq_some_iff.1 hp).1; omega
    obtain ⟨_,_,e',_,_,k3,_,k4⟩:=(hh p vJ).ok;rw [hp] at k3; cases k3;rcases k4 with ⟨_,_,k5,_⟩ | ⟨k5,_⟩
    ·obtain ⟨y1,y2,y3,_⟩:=k5 i rfl;exact ⟨vJ,y1,y2,y3⟩
    ·cases k5
   -- what this one sees has not been eaten
   have fresh:∀ i,i∈aV.getD j []→nE es (DB aE) i=false:=by
    intro i aS;cases gp:nE es (DB aE) i with
    | false=>rfl
    | true =>
     obtain ⟨p,nX,rA⟩:=tV.1 gp;obtain ⟨vJ,_,_,y3⟩:=hat p i rA;have QS:j≠p:=fun e=>by rw [← e,h1] at nX; cases nX
     have hjp:=y3 j QS aS;obtain ⟨op,_,_,k1,_⟩:=(hh p vJ).ok;have:=tO hc fk p op k1 (fk p op nX k1) j hjp;rw [h1] at this; cases this
   have fJ:∀ (id:Nat) (c:ai),(H++ji es rs (DB (aE.setIfInBounds j true)) m)[id]?=some (some c) →
     ((H++ji es rs (DB aE) m)[id]?=some (some c)∧∀ i,gA=some i→id≠H.length+i)∨(id=H.length+j∧q.nb=some c):=by
    intro id c;by_cases bu:id < H.length
    ·rw [List.getElem?_append_left bu,List.getElem?_append_left bu];exact fun h=>.inl ⟨h,fun i _=>by omega⟩
    ·rw [List.getElem?_append_right (by omega),List.getElem?_append_right (by omega),wk,wk]
     rintro ⟨k1,k2,k3,k4⟩
     rw [dv] at k2;by_cases e:id - H.length=j
     ·refine .inr ⟨by omega,?_⟩
      rw [e,g2] at k4; exact k4
     ·have e2:(id - H.length == j)=false:=by simp [e]
      rw [e2,Bool.or_false] at k2;refine .inl ⟨⟨k1,k2,?_,k4⟩,fun i aS aeY=>?_⟩
      ·cases gp:nE es (DB aE) (id - H.length) with
       | false=>rfl
       | true =>
        obtain ⟨p,nX,rA⟩:=tV.1 gp;rw [tV.2 ⟨p,by rw [dv,nX]; rfl,rA⟩] at k3; cases k3
      ·have hx:id - H.length=i:=by omega
       rw [hx,tV.2 ⟨j,by rw [dv]; simp,by rw [g2e,aS]⟩] at k3; cases k3
   have nC:ν (H.length+j)=none:=gz j mX h1;have HH:(H++ji es rs (DB aE) m).length=H.length+m:=by rw [List.length_append,A6]
   have G4:(H++ji es rs (DB (aE.setIfInBounds j true)) m).length=H.length+m:=by rw [List.length_append,A6]
   have hG:∀ {G:aA},(∀ (id:Nat) (b:ai),G[id]?=some (some b)→(id < H.length∧H[id]?=some (some b))∨(∃ i,id=H.length+i∧i < j∧i∈aV.getD j []∧(rs[i]?).bind (·.nb)=some b)) →
     ∀ (id:Nat) (b:ai),G[id]?=some (some b)→(H++ji es rs (DB aE) m)[id]?=some (some b):=by
    intro G q1 id b hb;rcases q1 id b hb with ⟨h3,h4⟩ | ⟨i,h3,h4,h5,h6⟩
    ·rw [List.getElem?_append_left h3]; exact h4
    ·subst h3;rw [List.getElem?_append_right (by omega)]
     rw [show H.length+i - H.length=i by omega,wk]
     exact ⟨by omega,ml i h5,fresh i h5,h6⟩
   have ad2:∀ i,gA=some i→∃ bi,(H++ji es rs (DB aE) m)[H.length+i]?=some (some bi)∧bi.own=true:=by
    intro i aS;rcases g4 with ⟨G,q1,q2,_⟩ | ⟨q1,_⟩
    ·obtain ⟨_,_,_,bi,y1,y2⟩:=q2 i aS;exact ⟨bi,hG q1 _ _ y1,y2⟩
    ·rw [aS] at q1; cases q1
   -- the state behind it
   have after:∀ v' w' aj,EPost ν aj (H.length+j) (gA.bind fun i=>ν (H.length+i)) w w' q.v v' q.nb→wpAnyIn (WF r) n P .any ops Q fuel (aE.setIfInBounds j true) (a.put o.dst v') w':=by
    intro v' w' aj hp;have hold:∀ lo,(gA.bind fun i=>ν (H.length+i))=some lo→∃ i bi,gA=some i∧ν (H.length+i)=some lo∧(H++ji es rs (DB aE) m)[H.length+i]?=some (some bi)∧bi.own=true:=by
     intro lo iw;cases gp:gA with
     | none=>rw [gp] at iw; cases iw
     | some i =>
      rw [gp] at iw;obtain ⟨bi,y1,y2⟩:=ad2 i gp;exact ⟨i,bi,rfl,iw,y1,y2⟩
    have dM:∀ (id:Nat) (c:ai),(H++ji es rs (DB aE) m)[id]?=some (some c)→id≠H.length+j:=fun id c h e=>by
     obtain ⟨l',cP,_⟩:=hi.hp.aJ id c h;rw [e,nC] at cP; cases cP
    have uK:w.heap.size≤w'.heap.size:=by
     rcases hp.DR with hb | ⟨_,_,_,_,h,_⟩
     ·exact hb.size
     ·exact h
    have tw:Kept F.O F.W w':=by
     rcases hp.DR with hb | ⟨lo,iw,_,J,h3,h4,h5,h6⟩
     ·exact hi.kp.below hb
     ·obtain ⟨i,bi,y1,y2,y3,y4⟩:=hold lo iw;refine ⟨h4.trans hi.kp.os,h5.trans hi.kp.tape,h6.trans hi.kp.output,Nat.le_trans hi.kp.size h3,fun x hx hO=>(J x fun e=>?_).trans (hi.kp.aJ x hx hO)⟩
      subst e;rcases hi.own _ bi lo y3 y4 y2 with h | h
      ·exact hO h
      ·omega
    have H8:∀ (id:Nat) (c:ai) (l:Loc),(H++ji es rs (DB aE) m)[id]?=some (some c)→(∀ i,gA=some i→id≠H.length+i)→ν id=some l→bS ν l c w→bS ν l c w':=by
     intro id c l h aN hl hB;rcases hp.DR with hb | ⟨lo,iw,_,J,h3,_⟩
     ·exact hB.below hb
     ·obtain ⟨i,bi,y1,y2,y3,y4⟩:=hold lo iw;exact hB.same (J _ (Ne.symm (hi.hp.sep _ id bi c lo l y3 h (Ne.symm (aN i y1)) y4 y2 hl))) h3
    have NL:∀ (id:Nat) (c:ai) (l l2:Loc),(H++ji es rs (DB aE) m)[id]?=some (some c)→(∀ i,gA=some i→id≠H.length+i)→ν id=some l→(w.heap.size≤l2.aJ∨∃ lo,(gA.bind fun i=>ν (H.length+i))=some lo∧l2.aJ=lo.aJ)→l2.aJ≠l.aJ:=by
     intro id c l l2 h aN hl J;rcases J with J | ⟨lo,iw,J⟩
     ·obtain ⟨l',cP,hB⟩:=hi.hp.aJ id c h;rw [hl] at cP; cases cP;have:=hB.live;omega
     ·obtain ⟨i,bi,y1,y2,y3,y4⟩:=hold lo iw;rw [J];exact hi.hp.sep _ id bi c lo l y3 h (Ne.symm (aN i y1)) y4 y2 hl
    refine ih _ aj _ w' (by simp [hs]) xL qS ⟨?_,?_,⟨fun id c cQ=>?_,fun x y bx bY lx ly hx hy aN Jt e1 e2=>?_⟩,fun id bu=>?_,tw,fun id c lc cQ mW dX=>?_,Nu.le_trans hi.mono hp.le⟩ (fun i aS dh=>?_) tg
    ·rw [uP];cases hd:o.dst with
     | none=>exact hi.tm.mono hp.le
     | some d=>rw [rS]; exact (hi.tm.mono hp.le).set hp.val d
    ·rcases hp.DR with hb | ⟨lo,iw,⟨cur,t,j5⟩,J,h3,_⟩
     ·cases o.dst <;> exact hi.df.below hb
     ·cases o.dst <;> exact hi.df.fZ j5 J
    ·rcases fJ id c cQ with ⟨h,aN⟩ | ⟨h3,h4⟩
     ·obtain ⟨l,hl,hB⟩:=hi.hp.aJ id c h;exact ⟨l,hp.le _ _ hl,(H8 id c l h aN hl hB).mono hp.le⟩
     ·obtain ⟨l,hl,hB,_⟩:=hp.il c h4;exact ⟨l,by rw [h3]; exact hl,hB⟩
    ·rcases fJ x bx hx with ⟨h,b6⟩ | ⟨h3,h4⟩
     ·rw [hp.only x (dM x bx h)] at e1;rcases fJ y bY hy with ⟨g,QT⟩ | ⟨g3,g4⟩
      ·rw [hp.only y (dM y bY g)] at e2;exact hi.hp.sep x y bx bY lx ly h g aN Jt e1 e2
      ·obtain ⟨l,hl,_,hle⟩:=hp.il bY g4;rw [g3,hl] at e2; cases e2;exact Ne.symm (NL x bx lx _ h b6 e1 hle)
     ·obtain ⟨l,hl,_,hle⟩:=hp.il bx h4;rw [h3,hl] at e1; cases e1;rcases fJ y bY hy with ⟨g,QT⟩ | ⟨g3,g4⟩
      ·rw [hp.only y (dM y bY g)] at e2;exact NL y bY ly _ g QT e2 hle
      ·exact absurd (h3.trans g3.symm) aN
    ·rw [G4] at bu;rw [hp.only id (by omega)]
     exact hi.fr id (by rw [HH]; exact bu)
    ·rcases fJ id c cQ with ⟨h,_⟩ | ⟨h3,h4⟩
     ·rw [hp.only id (dM id c h)] at dX;exact hi.own id c lc h mW dX
     ·obtain ⟨l,hl,_,hle⟩:=hp.il c h4;rw [h3,hl] at dX; cases dX;rcases hle with hle | ⟨lo,iw,hle⟩
      ·exact .inr (Nat.le_trans hi.kp.size hle)
      ·obtain ⟨i,bi,y1,y2,y3,y4⟩:=hold lo iw;rw [hle];exact hi.own _ bi lo y3 y4 y2
    ·have aN:i≠j:=fun e=>by subst e; rw [dv] at dh; simp at dh
     rw [hp.only _ (by omega)]
     refine gz i aS ?_;rw [dv] at dh;simp only [Bool.or_eq_false_iff] at dh;exact dh.1
   unfold wpOpIn;rw [ho]
   dsimp only
   have fK:∀ d,d∈jt ops.toList o→∀ v,(bm ops.toList rs (fun i=>decide (i < j)) t0 j)[d]?=some v→∃ v',a.tmps[d]?=some v'∧au ν v v':=by
    intro d hd v hv;rw [← HG d hd] at hv;obtain ⟨v',k1,k2⟩:=hi.tm.get hv;exact ⟨v',by simpa using k1,k2⟩
   rcases g4 with ⟨G,q1,_,q2,q3⟩ | ⟨q0,q1,q2,g,want,d,v,q3,q4,q5,q6⟩
   ·have hw:Region.wanted o (yielded ops a.tmps)=true:=by
     rcases q3 with hg | ⟨g,want,d,b,hg,hd,hv,hb⟩
     ·simp [Region.wanted,hg]
     ·obtain ⟨v',k1,k2⟩:=fK d (A2 hg hd) _ hv;rw [k2.km] at k1;have hy:=yr (ops:=ops) (tmps:=a.tmps) (j:=g) (d:=d) (by simpa [bV] using hd)
      rw [k1] at hy;simp only [Region.wanted,hg,hy];rw [← hb];cases b <;> cases want <;> rfl
    rw [if_pos hw];refine q2 ν a w r n (fun x hx t ht v hv=>fK t ?_ v hv) (hi.hp.sG fun id b hb=>?_) nC _ Q after
    ·unfold jt;exact List.mem_append_left _ (pW (by rw [ht] at hx; simpa using hx))
    ·exact hG q1 id b hb
   ·have hw:Region.wanted o (yielded ops a.tmps)=false:=by
     obtain ⟨v',k1,k2⟩:=fK d (A2 q3 q4) _ q5;have hy:=yr (ops:=ops) (tmps:=a.tmps) (j:=g) (d:=d) (by simpa [bV] using q4)
     rw [k1] at hy;rcases q6 with ⟨b,rfl,hb⟩ | ⟨vs,rfl⟩
     ·rw [k2.km] at hy;simp only [Region.wanted,q3,hy];rw [← hb];cases b <;> cases want <;> rfl
     ·obtain ⟨ys,rfl,_⟩:=au.n6 (xs:=vs.toList) k2;simp only [Region.wanted,q3,hy]
      rfl
    rw [if_neg (by rw [hw]; simp)]
    refine ⟨fun _ _=>trivial,after undef w ν ⟨ν.le_refl,fun _ _=>rfl,by rw [q1]; exact .undef ν,.inl (Below.refl _ _),fun _=>rfl,(fun b hb=>by rw [q2] at hb; cases hb)⟩⟩
theorem VF (hm:P.follows .mixedOrders=true):nR P O7:=by
 intro E hE r n F bQ ops Q id ν tmps H a w k hi h hk;obtain ⟨m,aV,a9,h⟩:=h;have h:=mz h;obtain ⟨PT,h⟩:=yt h;have hc:=KT a9;obtain ⟨rs,es,iX,jq,ku,fH⟩:=Ln (P:=P) hE.toEnvOk (ops:=ops.toList) (t0:=tmps) (H:=H) (aV:=aV) (l:=ops.toList.take m) (ms:=aV) (j:=0) (rs:=[]) (es:=[]) rfl rfl (fun p i hp=>by simp at hp)
  (fun i o ho=>by
   rw [List.getElem?_take] at ho
   split at ho
   ·simpa using ho
   ·cases ho)
  (fun i _=>by simp) (fun i hi=>by omega) h
 have fH:=ua fH;have hlen:0+(ops.toList.take m).length=m:=by rw [List.length_take]; omega
 rw [hlen] at iX jq ku fH;refine wpIn_region_any hm ?_;have hD:DB (Array.replicate ops.size false)=fun _=>false:=by
  funext i
  unfold DB;by_cases h:i < ops.size <;> simp [h]
 refine Te (F:=F) hc.toOrder (by have:=hc.le; simpa using this) hc.apart (fun j hj hm i hi=>hc.tail j (by simpa using hj) hm i (by omega)) jq ku ?_ ops.size _ ν a _ (by simp) (fun j o hj=>by rw [hD] at hj; cases hj) (fun i aS=>by rw [hD] at aS; cases aS) ?_ (fun i _ _=>hi.fr _ (by omega)) ?_
 ·intro fuel aE ν a w hs fk ak dp hi hu;have hle:m≤ops.size:=by have:=hc.le; simpa using this
  have hD:∀ i,DB aE i=decide (i < m):=fun i=>by
   by_cases h:i < m
   ·rw [dp i h]; simp [h]
   ·cases hd:DB aE i with
    | true=>exact absurd (ak i hd) h
    | false=>simp [h]
  have e1:bm ops.toList rs (DB aE) tmps m=bm ops.toList rs (fun i=>decide (i < m)) tmps m:=yf (fun i _=>hD i)
  have e2:ji es rs (DB aE) m=jk es rs:=by
   unfold jk;rw [iX];rw [show DB aE=fun i=>decide (i < m) from funext hD]
  rw [e1,e2] at hi;exact Fp hE bQ hc.toOrder hc.tail hk fuel aE m ν _ _ a w hs hD (Nat.le_refl _) hle hi fH (by
   have:=Ex hD ops.size hle; omega)
 ·rw [hD];have e1:bm ops.toList rs (fun _=>false) tmps m=tmps:=wj (j:=0) (by omega) (fun _ _ _=>rfl)
  rw [e1];have kW:Below w.heap.size w { w with drawn:=w.drawn+1 }:=⟨rfl,rfl,rfl,Nat.le_refl _,fun _ _=>rfl⟩
  refine ⟨hi.tm,hi.df.below kW,(hi.hp.below kW).sG (fun id c cQ=>?_),fun id bu=>hi.fr id (by rw [List.length_append] at bu; omega),hi.kp.below kW,fun id c lc cQ mW dX=>?_,hi.mono⟩
  ·rw [List.getElem?_append] at cQ
   split at cQ
   ·exact cQ
   ·have:=(wk.1 cQ).2.1; cases this
  ·rw [List.getElem?_append] at cQ
   split at cQ
   ·exact hi.own id c lc cQ mW dX
   ·have:=(wk.1 cQ).2.1; cases this
 ·unfold gE;have:=List.length_filter_le (fun i=>!DB (Array.replicate ops.size false) i) (List.range ops.size)
  simpa using this
end
open Go Go.RowKit
inductive oe where
 | leaf
 | br (i:Nat) (sub rest:oe)
def oe.alts:oe→List Nat
 | .leaf=>[]
 | .br i _ rest=>i::rest.alts
def uC (ops:Array Oper):oe→Nat→Bool→Array Bool→Bool
 | .leaf,_,true,l=>(Region.ready .any ops l).isEmpty
 | .leaf,_,false,_=>true
 | .br _ _ _,0,_,_=>false
 | .br i sub rest,n+1,first,l=>(!first || (Region.ready .any ops l == (oe.br i sub rest).alts)) && uC ops sub n true (l.setIfInBounds i true) && uC ops rest (n+1) false l
def Iu:List Oper→Nat→(Oper→Prop)→Prop
 | [],_,_=>False
 | o::_,0,k=>k o
 | _::l,i+1,k=>Iu l i k
theorem Mk:∀ {l:List Oper} {i:Nat} {k:Oper→Prop},Iu l i k→∃ o,l[i]?=some o∧k o
 | [],i,k,h=>h.elim
 | o::_,0,k,h=>⟨o,rfl,h⟩
 | _::l,i+1,k,h=>by
  obtain ⟨o,h1,J⟩:=Mk (l:=l) h;exact ⟨o,by simpa using h1,J⟩
def C0 (E:Env) (ops:List Oper):oe→Bool→List Value→aA→SK→Prop
 | .leaf,true,t,H,k=>k t H
 | .leaf,false,_,_,_=>True
 | .br i sub rest,_,t,H,k=>(Iu ops i fun o=>xp E ops o t H fun t' H'=>C0 E ops sub true t' H' k)∧C0 E ops rest false t H k
def cO (E:Env) (ops:List Oper) (t:List Value) (H:aA) (k:SK):Prop :=
 O5 E ops t H k∨(∃ T:oe,uC ops.toArray T ops.length true (Array.replicate ops.length false)=true∧C0 E ops T true t H k)∨O6 E ops t H k∨O7 E ops t H k
section
variable {P:Program} {E:Env} {r:Option Nat} {n:Nat} {F:Fr}
theorem Tf (hE:j4 P E) (bQ:lC F E) {ops:Array Oper} {Q:Exit→Act→World→Prop} {k:SK} (hk:∀ ν t' H' a' w',bD F ν t' H' a' w'→k t' H'→Q .normal a' w') :
  ∀ (T:oe) (fuel:Nat) (first:Bool) (aE:Array Bool) (ν:Nu) (t:List Value) (H:aA) (a:Act) (w:World),uC ops T fuel first aE=true→bD F ν t H a w→C0 E ops.toList T first t H k →
  (first=true→wpAnyIn (WF r) n P .any ops Q fuel aE a w)∧(first=false→∀ m,fuel=m+1→∀ i∈T.alts,wpOpIn (WF r) n P ops Q i (wpAnyIn (WF r) n P .any ops Q m (aE.setIfInBounds i true)) a w):=by
 intro T
 induction T with
 | leaf =>
  intro fuel first aE ν t H a w a9 hi h;cases first with
  | true =>
   refine ⟨fun _=>?_,fun h=>by cases h⟩
   have hr:Region.ready .any ops aE=[]:=by
    have:(Region.ready .any ops aE).isEmpty=true:=by simpa [uC] using a9
    simpa using this
   have hq:Q .normal a w:=hk _ _ _ _ _ hi h;cases fuel with
   | zero=>exact ⟨hr,hq⟩
   | succ f=>exact ⟨fun _=>hq,fun i aS=>by rw [hr] at aS; cases aS⟩
  | false=>exact ⟨(fun h=>by cases h),fun _ m _ i aS=>by cases aS⟩
 | br j sub rest ihs ihr =>
  intro fuel first aE ν t H a w a9 hi h;cases fuel with
  | zero=>simp [uC] at a9
  | succ f =>
   simp only [uC,Bool.and_eq_true,Bool.or_eq_true] at a9;obtain ⟨⟨h1,J⟩,h3⟩:=a9;obtain ⟨hs,zB⟩:=h;have dp:∀ i∈(oe.br j sub rest).alts,wpOpIn (WF r) n P ops Q i (wpAnyIn (WF r) n P .any ops Q f (aE.setIfInBounds i true)) a w:=by
    intro i aS;simp only [oe.alts,List.mem_cons] at aS;rcases aS with rfl | aS
    ·obtain ⟨o,ho,hs⟩:=Mk hs;unfold wpOpIn;have Jt:ops[i]?=some o:=by simpa using ho
     rw [Jt];exact EX hE bQ hi hs (fun ν t' H' a' w' iy h'=>(ihs f true _ ν t' H' a' w' J iy h').1 rfl)
    ·exact (ihr (f+1) false aE ν t H a w h3 hi zB).2 rfl f rfl i aS
   refine ⟨fun hf=>?_,fun _ m hm=>?_⟩
   ·subst hf;have hr:Region.ready .any ops aE=(oe.br j sub rest).alts:=by
     rcases h1 with h1 | h1
     ·cases h1
     ·exact eq_of_beq h1
    refine ⟨(fun hn=>by rw [hr] at hn; cases hn),fun i aS=>dp i (by rw [← hr]; exact aS)⟩
   ·have:f=m:=by omega
    subst this;exact dp
theorem VG (hm:P.follows .mixedOrders=true):nR P cO:=by
 intro E hE r n F bQ ops Q id ν tmps H a w k hi h hk;rcases h with h | ⟨T,a9,h⟩ | h | h
 ·exact VB hm E hE r n F bQ ops Q id ν tmps H a w k hi h hk
 ·refine wpIn_region_any hm ?_;have kW:Below w.heap.size w { w with drawn:=w.drawn+1 }:=⟨rfl,rfl,rfl,Nat.le_refl _,fun _ _=>rfl⟩
  have iy:bD F ν tmps H a { w with drawn:=w.drawn+1 }:=⟨hi.tm,hi.df.below kW,hi.hp.below kW,hi.fr,hi.kp.below kW,hi.own,hi.mono⟩
  have:=(Tf (r:=r) (n:=n) hE bQ (ops:=ops) hk T ops.toList.length true _ ν tmps H a _ (by simpa using a9) iy h).1 rfl
  simpa using this
 ·exact VE hm E hE r n F bQ ops Q id ν tmps H a w k hi h hk
 ·exact VF hm E hE r n F bQ ops Q id ν tmps H a w k hi h hk
end
open Go Go.RowKit
inductive gd:Value→Value→Prop
 | refl (v:Value):gd v v
 | cap (a:Addr) (n c:Nat) (h:a.spot=none):gd (.slice (some a) n c) (.slice (some a) n ao)
 | two {x y x' y':Value} (h:gd x x') (hs:gd y y'):gd (.tuple ⟨[x,y]⟩) (.tuple ⟨[x',y']⟩)
 | three {x y z x' y' z':Value} (h:gd x x') (hs:gd y y') (hz:gd z z'):gd (.tuple ⟨[x,y,z]⟩) (.tuple ⟨[x',y',z']⟩)
theorem au.QU {ν:Nu} {xs ys:List Value} (h:bn ν xs ys):au ν (.tuple ⟨xs⟩) (.tuple ⟨ys⟩):=.tuple _ _ h.1 h.2
theorem au.Iv {ν:Nu} {v v':Value} (h:gd v v'):∀ {r},au ν v r→au ν v' r:=by
 induction h with
 | refl v=>exact fun h=>h
 | cap a n c hs =>
  intro r hr;obtain ⟨b,o,sp⟩:=a;have hs:sp=none:=hs;subst hs;cases hr with
  | slice _ _ _ _ c' l h hc hn hr=>exact .slice _ _ _ _ c' l h (.inr rfl) hn hr
  | void _ _ _ a hc=>exact .void _ _ _ a (.inr rfl)
 | two h hs i1 i2 =>
  intro r hr;obtain ⟨ys,rfl,hy⟩:=hr.n6;obtain ⟨a,ys,rfl,k1,hy⟩:=hy.jw;obtain ⟨b,ys,rfl,k2,hy⟩:=hy.jw;rw [hy.jb];exact .QU (.cons (i1 k1) (.cons (i2 k2) (.nil ν)))
 | three h hs hz i1 i2 i3 =>
  intro r hr;obtain ⟨ys,rfl,hy⟩:=hr.n6;obtain ⟨a,ys,rfl,k1,hy⟩:=hy.jw;obtain ⟨b,ys,rfl,k2,hy⟩:=hy.jw;obtain ⟨c,ys,rfl,k3,hy⟩:=hy.jw;rw [hy.jb];exact .QU (.cons (i1 k1) (.cons (i2 k2) (.cons (i3 k3) (.nil ν))))
def db (S:ax) (i:S.ι) (v:Value) (H:aA):Prop :=
 match S.new i with
 | none=>∃ v',dn (List.range (S.ae i).length) 3 (S.val i)=some v'∧gd v v'
 | some b=>∃ p,gX H p fun c=>(c.own=true∧aq b c)∧∃ v',dn (List.range (S.ae i).length++[p]) 3 (S.val i)=some v'∧gd v v'
section
variable {P:Program} {E:Env} {D:Env→List Oper→List Value→aA→SK→Prop}
theorem tK {l:List ai} {id:Nat} {b:ai} (h:(l.map some)[id]?=some (some b)):l[id]?=some b:=by
 rw [List.getElem?_map] at h;cases e:l[id]? with
 | none=>rw [e] at h; cases h
 | some b'=>rw [e] at h; simp at h; rw [h]
theorem Uu {m p j:Nat} (h:j < m):(List.range m++[p])[j]?=some j:=by
 rw [List.getElem?_append_left (by simpa using h),List.getElem?_range h]
theorem dC {S:ax} (hE:EnvOk P E) (hD:nR P D) {f:FuncId} {fn:Func} (hf:P.funcs[f]?=some fn) (ov:∀ args w,(callFunc f args).run P w=.ok (.enter f args) w)
  (nS:∀ i b,b∈S.ae i→b.own=false) (tf:∀ i b,S.new i=some b→b.jd=true)
  (h:∀ i,S.pre i→cC E D fn (S.args i) ((S.ae i).map some) (db S i))
  (hI:iD P E:=by exact iD.none rfl) (hy:E.ys=[]:=by rfl) (hu:E.nu=(fun _=>none):=by rfl):dj P f S:=by
 refine ⟨ov,nS,tf,fun i hp ν as w n has hH gz=>?_⟩
 refine yE (O:=fun _=>False) (ν:=ν) (hE.x hI hy) hD hf (h i hp) has hH (fun id bu=>gz id (by simpa using bu)) (fun id b l hb ho=>?_) (Ca hu) ?_
 ·rw [nS i b (List.mem_of_getElem? (tK hb))] at ho; cases ho
 intro aj v v' t H' a w' hi hk hv;have hb:Below w.heap.size w w':=⟨hi.kp.os,hi.kp.tape,hi.kp.output,hi.kp.size,fun k hk=>hi.kp.aJ k hk (fun h=>h)⟩
 unfold db at hk
 split at hk
 ·rename_i dM;obtain ⟨v2,oi,Av⟩:=hk;have h1:=wz 3 _ _ _ oi (au.Iv Av hv);refine ⟨v',ν,rfl,⟨ν.le_refl,fun _ _=>rfl,h1.mono (fun j lj hj=>?_),hb,fun _=>rfl,(fun b hb=>by rw [dM] at hb; cases hb)⟩⟩
  unfold Nu.comp at hj;by_cases ak:j < (S.ae i).length
  ·rw [List.getElem?_range ak] at hj;have hj:aj j=some lj:=hj;obtain ⟨l0,e1,_⟩:=hH.aJ j ((S.ae i)[j]) (by simp [ak])
   have:=hi.mono j l0 e1;rw [hj] at this; cases this;exact e1
  ·have:(List.range (S.ae i).length)[j]?=none:=List.getElem?_eq_none (by simp; omega)
   rw [this] at hj; cases hj
 ·rename_i b dM;obtain ⟨p,hk⟩:=hk;obtain ⟨c,hc,⟨ho,hle⟩,v2,oi,Av⟩:=gK hk;obtain ⟨l,hl,hB⟩:=hi.hp.aJ p c hc;have vG:ν (S.ae i).length=none:=gz _ (Nat.le_refl _);refine ⟨v',ν.add (S.ae i).length l,rfl,⟨Nu.ko vG,fun id bu=>Nu.jc bu,?_,hb,(fun h=>by rw [dM] at h; cases h),(fun b' bE=>?_)⟩⟩
  ·have h1:=wz 3 _ _ _ oi (au.Iv Av hv);refine h1.mono (fun j lj hj=>?_)
   unfold Nu.comp at hj;rcases Nat.lt_trichotomy j (S.ae i).length with ak | he | Qs
   ·rw [Uu ak] at hj;have hj:aj j=some lj:=hj;obtain ⟨l0,e1,_⟩:=hH.aJ j ((S.ae i)[j]) (by simp [ak])
    have:=hi.mono j l0 e1;rw [hj] at this; cases this;rw [Nu.jc (by omega)]; exact e1
   ·subst he;have:(List.range (S.ae i).length++[p])[(S.ae i).length]?=some p:=by simp
    rw [this] at hj;have hj:aj p=some lj:=hj;rw [hl] at hj; cases hj;exact Nu.add_same
   ·have:(List.range (S.ae i).length++[p])[j]?=none:=List.getElem?_eq_none (by simp; omega)
    rw [this] at hj; cases hj
  ·rw [dM] at bE; cases bE;refine ⟨l,Nu.add_same,hB.le ⟨hle,by have:=tf i b dM; cases b <;> first | rfl | cases this⟩,?_⟩
   rcases hi.own p c l hc ho hl with h | h
   ·exact h.elim
   ·exact h
structure zC where
 ι:Type
 args:ι→List Value
 ae:ι→List ai
 pre:ι→Prop
 val:ι→Value
 post:ι→List ai
 new:ι→List ai
def xr (H:aA):List Nat→List ai→List ai→(aA→Prop)→Prop
 | [],[],[],k=>k H
 | s::σ,b::bs,p::ps,k=>match b.own with
  | true=>match p with
   | .cB _=>False
   | p=>jD H s (some p) fun H'=>xr H' σ bs ps k
  | false=>xr H σ bs ps k
 | _,_,_,_=>False
def Cc (H:aA):List ai→(aA→Prop)→Prop
 | [],k=>k H
 | b::bs,k=>match b with
  | .cB _=>False
  | b=>pf H (some b) fun H'=>Cc H' bs k
def w6:Nat→Nat→List Nat
 | _,0=>[]
 | a,n+1=>a::w6 (a+1) n
def Dn:List ai→Nat
 | []=>0
 | _::l=>Dn l+1
def Aw (S:zC):FT:=fun args H K=>∃ (i:S.ι) (σ:List Nat),mK σ 3 (S.args i)=some args∧S.pre i∧σ.Nodup∧zn H σ (S.ae i) (jE H fun n0=>xr H σ (S.ae i) (S.post i) fun H1=>Cc H1 (S.new i) fun H2 =>
 ∃ v,dn (σ++w6 n0 (Dn (S.new i))) 3 (S.val i)=some v∧qh v fun v=>K v H2)
def zS (S:zC) (i:S.ι) (v:Value) (H:aA):Prop :=
 ∃ ps:List Nat,ps.Nodup∧(∀ p∈ps,(S.ae i).length≤p)∧ps.length=(S.new i).length ∧
  (∀ (j:Nat) (b q:ai),(S.ae i)[j]?=some b→(S.post i)[j]?=some q→b.own=true→∃ c,H[j]?=some (some c)∧c.own=true∧aq q c) ∧
  (∀ (j p:Nat) (b:ai),ps[j]?=some p→(S.new i)[j]?=some b→∃ c,H[p]?=some (some c)∧c.own=true∧aq b c) ∧
  ∃ v',dn (List.range (S.ae i).length++ps) 3 (S.val i)=some v'∧gd v v'
theorem Lo:∀ {n a j:Nat},(w6 a n)[j]?=if j < n then some (a+j) else none
 | 0,a,j=>by simp [w6]
 | n+1,a,0=>by simp [w6]
 | n+1,a,j+1=>by
  have:=Lo (n:=n) (a:=a+1) (j:=j);simp only [w6,List.getElem?_cons_succ,this];by_cases h:j < n
  ·rw [if_pos h,if_pos (by omega)]; congr 1; omega
  ·rw [if_neg h,if_neg (by omega)]
theorem NM:∀ {l:List ai},Dn l=l.length
 | []=>rfl
 | _::l=>by simp [Dn,NM (l:=l)]
theorem Kz:∀ {bs:List ai} {H:aA} {k:aA→Prop},Cc H bs k→k (H++bs.map some)∧∀ b∈bs,b.rc=none
 | [],H,k,h=>by
  have h:k H:=h;exact ⟨by simpa using h,fun b hb=>by cases hb⟩
 | b::bs,H,k,h=>by
  have h:b.rc=none∧pf H (some b) fun H'=>Cc H' bs k:=by
   cases b with
   | aR o e r=>exact ⟨rfl,h⟩
   | flat o n e g=>exact ⟨rfl,h⟩
   | cB r=>exact h.elim
  have:=Kz (bs:=bs) (yo h.2);refine ⟨by simpa using this.1,fun c hc=>?_⟩
  rcases List.mem_cons.1 hc with rfl | hc
  ·exact h.1
  ·exact this.2 c hc
theorem E2:∀ {σ:List Nat} {bs ps:List ai} {H:aA} {k:aA→Prop},σ.Nodup→xr H σ bs ps k→∃ H1,k H1∧H1.length=H.length∧(∀ id,id ∉ σ→H1[id]?=H[id]?) ∧
  ∀ (j s:Nat) (b:ai),σ[j]?=some s→bs[j]?=some b→(b.own=true→∃ p,ps[j]?=some p∧H1[s]?=some (some p)∧p.rc=none)∧(b.own=false→H1[s]?=H[s]?)
 | [],[],[],H,k,_,h=>⟨H,h,rfl,fun _ _=>rfl,fun j s b hj=>by simp at hj⟩
 | s::σ,b::bs,p::ps,H,k,hn,h=>by
  obtain ⟨hs,hn⟩:=List.nodup_cons.1 hn;unfold xr at h
  split at h
  ·rename_i ho;have Ju:p.rc=none∧jD H s (some p) fun H'=>xr H' σ bs ps k:=by
    cases p with
    | aR o e r=>exact ⟨rfl,h⟩
    | flat o n e g=>exact ⟨rfl,h⟩
    | cB r=>exact h.elim
   obtain ⟨Ju,h⟩:=Ju;obtain ⟨ak,h⟩:=my h;obtain ⟨H1,h1,J,h3,h4⟩:=E2 hn h;refine ⟨H1,h1,by rw [J]; simp,fun id bu=>?_,fun j s' b' hj hb=>?_⟩
   ·rw [List.mem_cons,not_or] at bu;rw [h3 id bu.2,List.getElem?_set_ne (Ne.symm bu.1)]
   ·cases j with
    | zero =>
     simp at hj hb; subst hj; subst hb;refine ⟨fun _=>⟨p,rfl,?_,Ju⟩,(fun h=>by rw [ho] at h; cases h)⟩
     rw [h3 s hs,List.getElem?_set_self ak]
    | succ j =>
     obtain ⟨h5,h6⟩:=h4 j s' b' (by simpa using hj) (by simpa using hb)
     refine ⟨fun h=>by simpa using h5 h,fun h=>?_⟩
     rw [h6 h,List.getElem?_set_ne];intro e;subst e;exact hs (List.mem_of_getElem? (by simpa using hj))
  ·rename_i ho;obtain ⟨H1,h1,J,h3,h4⟩:=E2 hn h;refine ⟨H1,h1,J,fun id bu=>?_,fun j s' b' hj hb=>?_⟩
   ·rw [List.mem_cons,not_or] at bu;exact h3 id bu.2
   ·cases j with
    | zero =>
     simp at hj hb; subst hj; subst hb;exact ⟨(fun h=>by rw [ho] at h; cases h),fun _=>h3 s hs⟩
    | succ j=>simpa using h4 j s' b' (by simpa using hj) (by simpa using hb)
 | [],_::_,_,H,k,_,h=>by cases h
 | [],[],_::_,H,k,_,h=>by cases h
 | _::_,[],_,H,k,_,h=>by cases h
 | _::_,_::_,[],H,k,_,h=>by cases h
theorem Oy {S:zC} (hE:EnvOk P E) (hD:nR P D) {f:FuncId} {fn:Func} (hf:P.funcs[f]?=some fn) (ov:∀ args w,(callFunc f args).run P w=.ok (.enter f args) w)
  (h:∀ i,S.pre i→cC E D fn (S.args i) ((S.ae i).map some) (zS S i))
  (hI:iD P E:=by exact iD.none rfl) (hy:E.ys=[]:=by rfl) (hu:E.nu=(fun _=>none):=by rfl):gj P f (Aw S):=by
 refine ⟨ov,fun args H K hFT ν as w n O has hH gz kA=>?_⟩
 obtain ⟨i,σ,oi,hp,kc,ou⟩:=hFT;obtain ⟨hlen,hσ,ou⟩:=ES ou;obtain ⟨H1,ou,kF,ad3,PZ⟩:=E2 kc (mz ou);obtain ⟨⟨v2,O8,hK⟩,ad4⟩:=Kz ou;have hK:=vW hK;rw [NM] at O8;have od:=tY (wz (ν:=ν) 3) oi has
 -- the callee's blocks
 let Oc:Nat→Prop:=fun x=>∃ (j s:Nat) (b:ai) (l:Loc),σ[j]?=some s∧(S.ae i)[j]?=some b∧b.own=true∧ν s=some l∧x=l.aJ
 have sX:∀ (j:Nat) (b:ai),(S.ae i)[j]?=some b→∃ s,σ[j]?=some s∧∃ c l,H[s]?=some (some c)∧Cu b c∧ν s=some l∧bS ν l c w:=by
  intro j b hb;have ak:j < σ.length:=by rw [hlen]; exact (List.getElem?_eq_some_iff.1 hb).1
  obtain ⟨c,h1,J⟩:=hσ j _ b (List.getElem?_eq_getElem ak) hb;obtain ⟨l,h3,h4⟩:=hH.aJ _ _ h1;exact ⟨_,List.getElem?_eq_getElem ak,c,l,h1,J,h3,h4⟩
 have nD:∀ (j s:Nat),σ[j]?=some s→(ν.comp σ) j=ν s:=fun j s hj=>by simp [Nu.comp,hj]
 have Jv:bU (ν.comp σ) ((S.ae i).map some) w:=by
  refine ⟨fun j b hj=>?_,fun j q bj bq lj lq hj hq aN ho e1 e2=>?_⟩
  ·obtain ⟨s,h1,c,l,J,h3,h4,h5⟩:=sX j b (tK hj);exact ⟨l,by rw [nD j s h1,h4],h5.le h3⟩
  ·obtain ⟨s,h1,c,l,J,h3,h4,h5⟩:=sX j bj (tK hj);obtain ⟨s',fx,c',l',j9,tv,rk,Ax⟩:=sX q bq (tK hq);rw [nD j s h1,h4] at e1; obtain rfl:=Option.some.inj e1;rw [nD q s' fx,rk] at e2; obtain rfl:=Option.some.inj e2;refine hH.sep s s' c c' _ _ J j9 (fun e=>aN ?_) (ai.dm (h3.own ho).1).1 h4 rk
   subst e;exact (List.getElem?_inj (List.getElem?_eq_some_iff.1 h1).1 kc).1 (h1.trans fx.symm)
 have ad5:∀ id,((S.ae i).map some).length≤id→(ν.comp σ) id=none:=by
  intro id bu;rw [List.length_map] at bu;simp [Nu.comp,List.getElem?_eq_none (show σ.length≤id by omega)]
 have acv:∀ id b l,((S.ae i).map some)[id]?=some (some b)→b.own=true→(ν.comp σ) id=some l→Oc l.aJ:=by
  intro id b l hb ho hl;obtain ⟨s,h1,c,l',J,h3,h4,h5⟩:=sX id b (tK hb);rw [nD id s h1,h4] at hl; obtain rfl:=Option.some.inj hl;exact ⟨id,s,b,_,h1,tK hb,ho,h4,rfl⟩
 have rj:∀ x,Oc x→O x:=by
  rintro x ⟨j,s,b,l,h1,J,h3,h4,rfl⟩
  obtain ⟨s',fx,c,l',j9,tv,rk,_⟩:=sX j b J;rw [h1] at fx; cases fx;exact kA s c l j9 (ai.dm (tv.own h3).1).1 h4
 refine yE (O:=Oc) (ν:=ν.comp σ) (hE.x hI hy) hD hf (h i hp) od Jv ad5 acv (Ca hu) ?_;intro eF v v' t H' a w' hi hk hv;obtain ⟨ps,hpn,ad6,ke,acw,dM,v3,acx,Av⟩:=hk;have sW:(ν.comp σ).le eF:=hi.mono
 let aj:Nu:=fun id=>if id < H.length then ν id else (ps[id - H.length]?).bind eF
 have uD:∀ id,id < H.length→aj id=ν id:=fun id h=>by simp only [aj]; rw [if_pos h]
 have sB:∀ j p,ps[j]?=some p→aj (H.length+j)=eF p:=fun j p h=>by
  simp only [aj]; rw [if_neg (by omega),Nat.add_sub_cancel_left,h]; rfl
 have HK:ν.le aj:=by
  intro id l bu;have:id < H.length:=by
   rcases Nat.lt_or_ge id H.length with h | h
   ·exact h
   ·rw [gz id h] at bu; cases bu
  rw [uD id this]; exact bu
 -- own blocks of the arguments, behind the call
 have O9:∀ (j s:Nat) (b:ai) (l:Loc),σ[j]?=some s→(S.ae i)[j]?=some b→b.own=true→ν s=some l→∃ q c,(S.post i)[j]?=some q∧H1[s]?=some (some q)∧H'[j]?=some (some c)∧c.own=true∧Cu q c∧eF j=some l:=by
  intro j s b l h1 J h3 h4;obtain ⟨q,h5,h6,h60⟩:=(PZ j s b h1 J).1 h3;obtain ⟨c,h7,h8,h9⟩:=acw j b q J h5 h3;exact ⟨q,c,h5,h6,h7,h8,⟨h9,h60⟩,sW j l (by rw [nD j s h1]; exact h4)⟩
 -- a block that the callee does not own has not turned
 have HI:∀ (id:Nat) (b:ai) (l:Loc),H[id]?=some (some b)→ν id=some l→(∀ (j:Nat) (c:ai),σ[j]?=some id→(S.ae i)[j]?=some c→c.own=false)→¬ Oc l.aJ∧w'.heap[l.aJ]?=w.heap[l.aJ]?:=by
  intro id b l hb hl rm;obtain ⟨l0,e1,hB⟩:=hH.aJ id b hb;rw [hl] at e1; cases e1;have QV:¬ Oc l.aJ:=by
   rintro ⟨j,s,bj,lj,h1,J,h3,h4,h5⟩
   obtain ⟨s',fx,c,l',j9,tv,rk,_⟩:=sX j bj J;rw [h1] at fx; cases fx;have aN:s≠id:=by
    intro e;subst e;have:=rm j bj h1 J;rw [h3] at this; cases this
   exact hH.sep s id c b lj l j9 hb aN (ai.dm (tv.own h3).1).1 h4 hl h5.symm
  exact ⟨QV,hi.kp.aJ _ hB.live QV⟩
 -- the callee's new blocks
 have acy:∀ (j p:Nat) (b:ai),ps[j]?=some p→(S.new i)[j]?=some b→∃ c l,H'[p]?=some (some c)∧c.own=true∧aq b c∧eF p=some l∧bS eF l c w'∧w.heap.size≤l.aJ:=by
  intro j p b h1 J;obtain ⟨c,h3,h4,h5⟩:=dM j p b h1 J;obtain ⟨l,h6,h7⟩:=hi.hp.aJ p c h3;refine ⟨c,l,h3,h4,h5,h6,h7,?_⟩;rcases hi.own p c l h3 h4 h6 with ⟨j',s,b',l',k1,k2,k3,k4,k5⟩ | h
  ·obtain ⟨q,c',_,_,k6,k7,_,k8⟩:=O9 j' s b' l' k1 k2 k3 k4;have ak:j' < (S.ae i).length:=(List.getElem?_eq_some_iff.1 k2).1;have:=ad6 p (List.mem_of_getElem? h1);exact absurd k5 (hi.hp.sep p j' c c' l l' h3 k6 (by omega) h4 h6 k8)
  ·exact h
 -- which blocks there are behind the call
 have xo:∀ (id:Nat) (b:ai),(H1++(S.new i).map some)[id]?=some (some b)→
   (id < H.length∧∃ b0 l,H[id]?=some (some b0)∧ν id=some l∧(b.own=true→b0.own=true)∧bS aj l b w'∧((∃ (j:Nat) (bj:ai),σ[j]?=some id∧(S.ae i)[j]?=some bj∧bj.own=true)∨(¬ Oc l.aJ∧l.aJ < w.heap.size))) ∨
   (∃ (j p:Nat) (c:ai) (l:Loc),id=H.length+j∧ps[j]?=some p∧(S.new i)[j]?=some b∧H'[p]?=some (some c)∧c.own=true∧eF p=some l∧bS aj l b w'∧w.heap.size≤l.aJ):=by
  intro id b hb;rw [List.getElem?_append] at hb
  split at hb
  ·rename_i ak;rw [kF] at ak;refine .inl ⟨ak,?_⟩;by_cases gY:∃ (j:Nat) (bj:ai),σ[j]?=some id∧(S.ae i)[j]?=some bj∧bj.own=true
   ·obtain ⟨j,bj,h1,J,h3⟩:=gY;obtain ⟨s',fx,c,l,h4,h5,h6,h7⟩:=sX j bj J;rw [h1] at fx; cases fx;obtain ⟨q,c',h8,h9,Jw,h11,h12,h13⟩:=O9 j id bj l h1 J h3 h6;rw [h9] at hb; cases hb;obtain ⟨l',QW,h15⟩:=hi.hp.aJ j c' Jw;rw [h13] at QW; cases QW;exact ⟨c,l,h4,h6,fun _=>(ai.dm (h5.own h3).1).1,h15.le h12,.inl ⟨j,bj,h1,J,h3⟩⟩
   ·have rm:∀ (j:Nat) (c:ai),σ[j]?=some id→(S.ae i)[j]?=some c→c.own=false:=by
     intro j c h1 J;cases h:c.own with
     | false=>rfl
     | true=>exact absurd ⟨j,c,h1,J,h⟩ gY
    have Jx:H[id]?=some (some b):=by
     by_cases pJ:id∈σ
     ·obtain ⟨j,hj⟩:=List.getElem?_of_mem pJ;have IT:j < (S.ae i).length:=by rw [← hlen]; exact (List.getElem?_eq_some_iff.1 hj).1
      have:=(PZ j id _ hj (List.getElem?_eq_getElem IT)).2 (rm j _ hj (List.getElem?_eq_getElem IT));rw [← this]; exact hb
     ·rw [← ad3 id pJ]; exact hb
    obtain ⟨l,h1,J⟩:=hH.aJ id b Jx;obtain ⟨h3,h4⟩:=HI id b l Jx h1 rm;exact ⟨b,l,Jx,h1,fun h=>h,(J.same h4 hi.kp.size).mono HK,.inr ⟨h3,J.live⟩⟩
  ·rename_i eY;rw [kF] at hb eY;have hb:=tK hb;have ak:id - H.length < ps.length:=by rw [ke]; exact (List.getElem?_eq_some_iff.1 hb).1
   obtain ⟨c,l,h1,J,h3,h4,h5,h6⟩:=acy _ _ b (List.getElem?_eq_getElem ak) hb;exact .inr ⟨id - H.length,_,c,l,by omega,List.getElem?_eq_getElem ak,hb,h1,J,h4,h5.le ⟨h3,ad4 b (List.mem_of_getElem? hb)⟩,h6⟩
 have aeS:∀ (j p:Nat),ps[j]?=some p→aj (H.length+j)=eF p:=sB;refine ⟨v2,v',aj,H1++(S.new i).map some,rfl,hK,?_,HK,⟨fun id b hb=>?_,fun p q bp bq lp lq IY I6 aN ho e1 e2=>?_⟩,fun id bu=>?_,⟨hi.kp.os,hi.kp.tape,hi.kp.output,hi.kp.size,fun b h1 J=>hi.kp.aJ b h1 (fun h=>J (rj b h))⟩,fun id b l hb ho hl=>?_⟩
 ·have h1:=wz 3 _ _ _ acx (au.Iv Av hv);refine FN 3 _ _ _ O8 (h1.mono (fun j lj hj=>?_))
  unfold Nu.comp at hj ⊢;by_cases ak:j < (S.ae i).length
  ·rw [List.getElem?_append_left (by simpa using ak),List.getElem?_range ak] at hj
   have hj:eF j=some lj:=hj;obtain ⟨s,J,c,l,h3,h4,h5,_⟩:=sX j _ (List.getElem?_eq_getElem ak);have:=sW j l (by rw [nD j s J]; exact h5)
   rw [hj] at this; cases this;rw [List.getElem?_append_left (List.getElem?_eq_some_iff.1 J).1,J];exact HK s lj h5
  ·rw [List.getElem?_append_right (by simp; omega)] at hj
   rw [List.length_range] at hj;rw [List.getElem?_append_right (by omega),Lo,hlen]
   cases th:ps[j - (S.ae i).length]? with
   | none=>rw [th] at hj; cases hj
   | some p =>
    rw [th] at hj;have hj:eF p=some lj:=hj;have:=(List.getElem?_eq_some_iff.1 th).1;rw [if_pos (by omega)]
    show aj (H.length+(j - (S.ae i).length))=_
    rw [sB _ _ th]; exact hj
 ·rcases xo id b hb with ⟨ak,b0,l,h1,J,_,h3,_⟩ | ⟨j,p,c,l,rfl,h1,J,h3,h4,h5,h6,h7⟩
  ·exact ⟨l,by rw [uD id ak]; exact J,h3⟩
  ·exact ⟨l,by rw [sB j p h1]; exact h5,h6⟩
 ·rcases xo p bp IY with ⟨ak,b0,l,h1,J,h3,h4,h5⟩ | ⟨j,pp,c,l,rfl,h1,J,h3,h4,h5,h6,h7⟩ <;>
   rcases xo q bq I6 with ⟨qS,QX,l',fx,j9,tv,rk,Ax⟩ | ⟨j',pp',c',l',rfl,fx,j9,tv,rk,Ax,h6',h7'⟩
  ·rw [uD p ak,J] at e1; cases e1;rw [uD q qS,j9] at e2; cases e2;exact hH.sep p q b0 QX _ _ h1 fx aN (h3 ho) J j9
  ·rw [uD p ak,J] at e1; cases e1;rw [sB _ _ fx,Ax] at e2; cases e2;have:=(hH.aJ p b0 h1);obtain ⟨l0,e3,e4⟩:=this;rw [J] at e3; cases e3;have:=e4.live;omega
  ·rw [sB _ _ h1,h5] at e1; cases e1;rw [uD q qS,j9] at e2; cases e2;obtain ⟨l0,e3,e4⟩:=hH.aJ q QX fx;rw [j9] at e3; cases e3;have:=e4.live;omega
  ·rw [sB _ _ h1,h5] at e1; cases e1;rw [sB _ _ fx,Ax] at e2; cases e2;refine hi.hp.sep pp pp' c c' _ _ h3 tv (fun e=>aN ?_) h4 h5 Ax
   subst e;rw [(List.getElem?_inj (List.getElem?_eq_some_iff.1 h1).1 hpn).1 (h1.trans fx.symm)]
 ·rw [List.length_append,List.length_map,kF] at bu;simp only [aj];rw [if_neg (by omega),List.getElem?_eq_none (by omega)]
  rfl
 ·rcases xo id b hb with ⟨ak,b0,l',h1,J,h3,_⟩ | ⟨j,p,c,l',rfl,h1,J,h3,h4,h5,h6,h7⟩
  ·rw [uD id ak,J] at hl; cases hl;exact .inl (kA id b0 _ h1 (h3 ho) J)
  ·rw [sB j p h1,h5] at hl; cases hl;exact .inr h7
end
open Go Go.RowKit
def Cd (P:Program) (g:TypeId→Option (Bool × List Value)):Nat→List Field→Option (List Value)
 | _,[]=>some []
 | o, f :: l => match Nat.beq f.offset o && (f.name != "_"), g f.type, P.info? f.type, P.underlying f.type with
  | true,some (b,z),some i,some d=>match Nat.beq i.size z.length && (uz d == b) && Nat.ble 1 z.length with
   | true=>match Cd P g (o+z.length) l with
    | some zs=>some (z++zs)
    | none=>none
   | false=>none
  | _,_,_,_=>none
def xt (P:Program):Nat→TypeId→Option (Bool × List Value)
 | 0,_=>none
 | d+1,t=>match P.underlying t with
  | some .bool=>some (false,[.bool false])
  | some (.int q)=>some (false,[.int q 0])
  | some .string=>some (false,[.string ⟨#[]⟩])
  | some (.struct fs)=>match P.stoodInHeld t with
   | true=>none
   | false=>match Cd P (xt P d) 0 fs.toList with
    | some z=>some (true,z)
    | none=>none
  | _=>none
theorem rL:∀ {l m:List Value},fp l m=true→l.length=m.length
 | [],[],_=>rfl
 | .bool _::l,.bool _::m,h=>by simp [rL (l:=l) (m:=m) h]
 | .int q _::l,.int q' _::m,h=>by
  simp only [fp,Bool.and_eq_true] at h;simp [rL (l:=l) (m:=m) h.2]
 | .string _::l,.string _::m,h=>by simp [rL (l:=l) (m:=m) h]
def Jy (x v:Value):Prop:=(∃ a b,x=.bool a∧v=.bool b)∨(∃ q a b,x=.int q a∧v=.int q b)∨∃ a b,x=.string a∧v=.string b
theorem Cz {xs z:List Value} {v:Value} (h:fp xs (v::z)=true):∃ x l,xs=x::l∧Jy x v∧fp l z=true:=by
 generalize e:v::z=w at h;unfold fp at h
 split at h
 ·cases e
 ·cases e; exact ⟨_,_,rfl,.inl ⟨_,_,rfl,rfl⟩,h⟩
 ·cases e;simp only [Bool.and_eq_true,decide_eq_true_eq] at h;obtain ⟨rfl,h⟩:=h;exact ⟨_,_,rfl,.inr (.inl ⟨_,_,_,rfl,rfl⟩),h⟩
 ·cases e; exact ⟨_,_,rfl,.inr (.inr ⟨_,_,rfl,rfl⟩),h⟩
 ·cases h
theorem G5 {xs:List Value} (h:fp xs []=true):xs=[]:=List.length_eq_zero_iff.1 (rL h)
theorem Xb {x v:Value} {l z:List Value} (h:Jy x v) (J:fp l z=true):fp (x::l) (v::z)=true:=by
 rcases h with ⟨a,b,rfl,rfl⟩ | ⟨q,a,b,rfl,rfl⟩ | ⟨a,b,rfl,rfl⟩
 ·exact J
 ·simp only [fp,decide_true,Bool.true_and]; exact J
 ·exact J
theorem Ep:∀ {z xs zs:List Value},fp xs (z++zs)=true→∃ x1 x2,xs=x1++x2∧fp x1 z=true∧fp x2 zs=true
 | [],xs,zs,h=>⟨[],xs,rfl,rfl,h⟩
 | v::z,xs,zs,h=>by
  obtain ⟨x,l,rfl,h1,J⟩:=Cz (z:=z++zs) h;obtain ⟨x1,x2,rfl,h3,h4⟩:=Ep J;exact ⟨x::x1,x2,rfl,Xb h1 h3,h4⟩
theorem Kj:∀ {z x1 y1 x2 y2:List Value},fp x1 z=true→fp y1 z=true→fi (x1++x2) (y1++y2)=(fi x1 y1 && fi x2 y2)
 | [],x1,y1,x2,y2,h1,J=>by
  rw [G5 h1,G5 J];simp [fi]
 | v::z,x1,y1,x2,y2,h1,J=>by
  obtain ⟨x,l,rfl,a1,a2⟩:=Cz h1;obtain ⟨y,m,rfl,b1,b2⟩:=Cz J;have ih:=Kj (x2:=x2) (y2:=y2) a2 b2;rcases a1 with ⟨p,_,rfl,rfl⟩ | ⟨q,p,_,rfl,rfl⟩ | ⟨p,_,rfl,rfl⟩
  all_goals
   rcases b1 with ⟨r,_,rfl,e⟩ | ⟨q',r,_,rfl,e⟩ | ⟨r,_,rfl,e⟩
  all_goals first | (cases e; done) | skip
  all_goals
   simp only [List.cons_append,fi,ih,Bool.and_assoc]
theorem w8 {xs:List Value} {v:Value} (h:fp xs [v]=true):∃ x,xs=[x]∧Jy x v:=by
 obtain ⟨x,l,rfl,h1,J⟩:=Cz h;rw [G5 J];exact ⟨x,rfl,h1⟩
def toV (b:Bool) (xs:List Value):Value:=if b then .agg ⟨xs⟩ else xs.getD 0 undef
theorem KA {P:Program} {d:Nat} (ih:∀ t b z,xt P d t=some (b,z)→∀ n xs ys w,fp xs z=true→fp ys z=true→(Op.equalIn (n+d) t (toV b xs) (toV b ys)).run P w=.ok (fi xs ys) w) (n:Nat) (w:World) (XS YS:List Value) :
  ∀ (l:List Field) (o:Nat) (z:List Value),Cd P (xt P d) o l=some z→∀ xs ys,fp xs z=true→fp ys z=true→(∀ j v,xs[j]?=some v→XS[o+j]?=some v)→(∀ j v,ys[j]?=some v→YS[o+j]?=some v) →
   (Op.eqFields (n+d) ⟨XS⟩ ⟨YS⟩ l).run P w=.ok (fi xs ys) w
 | [],o,z,h,xs,ys,h1,J,_,_=>by
  cases h;have e1:=rL h1;have e2:=rL J;have e1:xs=[]:=List.length_eq_zero_iff.1 e1;have e2:ys=[]:=List.length_eq_zero_iff.1 e2;subst e1; subst e2
  rfl
 | f::l,o,z,h,xs,ys,h1,J,hx,hy=>by
  unfold Cd at h
  split at h
  ·rename_i b z1 i dd hb hg hi hu
   split at h
   ·rename_i hc
    split at h
    ·rename_i zs hz;cases h;simp only [Bool.and_eq_true] at hb hc;obtain ⟨⟨c1,c2⟩,c3⟩:=hc;obtain ⟨x1,x2,rfl,xQ,mU⟩:=Ep h1;obtain ⟨y1,y2,rfl,pI,mV⟩:=Ep J;have lx:=rL xQ;have ly:=rL pI;have aY:=Nat.eq_of_beq_eq_true c1;have QY:yR P f (o,z1.length,b):=⟨Nat.eq_of_beq_eq_true hb.1,Nat.le_of_ble_eq_true c3,⟨i,hi,aY⟩,dd,hu,by simpa using c2⟩
     have p1:=FL QY (cs:=XS) (vs:=x1) lx (fun j v hv=>hx j v (by rw [List.getElem?_append_left (by rw [List.getElem?_eq_some_iff] at hv; exact hv.1)]; exact hv)) w
     have p2:=FL QY (cs:=YS) (vs:=y1) ly (fun j v hv=>hy j v (by rw [List.getElem?_append_left (by rw [List.getElem?_eq_some_iff] at hv; exact hv.1)]; exact hv)) w
     have p3:=ih f.type b z1 hg n x1 y1 w xQ pI;have p4:=KA ih n w XS YS l (o+z1.length) zs hz x2 y2 mU mV
      (fun j v hv=>by
       rw [Nat.add_assoc];refine hx _ v ?_;rw [List.getElem?_append_right (by omega),← lx,Nat.add_sub_cancel_left]
       exact hv)
      (fun j v hv=>by
       rw [Nat.add_assoc];refine hy _ v ?_;rw [List.getElem?_append_right (by omega),← ly,Nat.add_sub_cancel_left]
       exact hv)
     have aN : f.name ≠ "_" := by simpa using hb.2
     unfold Op.eqFields;rw [if_pos aN];unfold toV at p3;simp only [Sem.run_bind,p1,p2,Result.andThen_ok];rw [p3];simp only [Result.andThen_ok];rw [Kj xQ pI];cases fi x1 y1
     ·rfl
     ·simpa using p4
    ·cases h
   ·cases h
  ·cases h
theorem Lp {P:Program}:∀ (d:Nat) (t:TypeId) (b:Bool) (z:List Value),xt P d t=some (b,z)→∀ (n:Nat) (xs ys:List Value) (w:World),fp xs z=true→fp ys z=true →
  (Op.equalIn (n+d) t (toV b xs) (toV b ys)).run P w=.ok (fi xs ys) w
 | 0,t,b,z,h=>by cases h
 | d+1,t,b,z,h=>by
  intro n xs ys w h1 J;unfold xt at h
  split at h
  ·rename_i hu;cases h;obtain ⟨x,rfl,a1⟩:=w8 h1;obtain ⟨y,rfl,a2⟩:=w8 J;rcases a1 with ⟨x,_,rfl,e⟩ | ⟨_,x,_,rfl,e⟩ | ⟨x,_,rfl,e⟩
   all_goals first | (cases e; done) | skip
   rcases a2 with ⟨y,_,rfl,e⟩ | ⟨_,y,_,rfl,e⟩ | ⟨y,_,rfl,e⟩
   all_goals first | (cases e; done) | skip
   ·skip
    rw [show toV false [Value.bool x]=.bool x from rfl,show toV false [Value.bool y]=.bool y from rfl]
    rw [show n+(d+1)=(n+d)+1 from rfl,run_equalIn_bool' w (n+d) t x y hu]
    simp [fi]
  ·rename_i q hu;cases h;obtain ⟨x,rfl,a1⟩:=w8 h1;obtain ⟨y,rfl,a2⟩:=w8 J;rcases a1 with ⟨x,_,rfl,e⟩ | ⟨q1,x,_,rfl,e⟩ | ⟨x,_,rfl,e⟩
   all_goals first | (cases e; done) | skip
   cases e;rcases a2 with ⟨y,_,rfl,e⟩ | ⟨q2,y,_,rfl,e⟩ | ⟨y,_,rfl,e⟩
   all_goals first | (cases e; done) | skip
   cases e
   ·skip
    rw [show toV false [Value.int q x]=.int q x from rfl,show toV false [Value.int q y]=.int q y from rfl]
    rw [show n+(d+1)=(n+d)+1 from rfl,run_equalIn_int w (n+d) t q q x y hu]
    simp [fi]
  ·rename_i hu;cases h;obtain ⟨x,rfl,a1⟩:=w8 h1;obtain ⟨y,rfl,a2⟩:=w8 J;rcases a1 with ⟨x,_,rfl,e⟩ | ⟨_,x,_,rfl,e⟩ | ⟨x,_,rfl,e⟩
   all_goals first | (cases e; done) | skip
   rcases a2 with ⟨y,_,rfl,e⟩ | ⟨_,y,_,rfl,e⟩ | ⟨y,_,rfl,e⟩
   all_goals first | (cases e; done) | skip
   ·skip
    rw [show toV false [Value.string x]=.string x from rfl,show toV false [Value.string y]=.string y from rfl]
    rw [show n+(d+1)=(n+d)+1 from rfl,run_equalIn_string w (n+d) t x y hu]
    simp [fi]
  ·rename_i fs hu
   split at h
   ·cases h
   ·rename_i an
    split at h
    ·rename_i z0 hz;cases h;have vK:P.fieldsOf t=fs:=by unfold Program.fieldsOf; rw [hu]
     show (Op.equalIn (n+(d+1)) t (.agg ⟨xs⟩) (.agg ⟨ys⟩)).run P w=_
     rw [show n+(d+1)=(n+d)+1 from rfl,run_equalIn_struct w (n+d) t ⟨xs⟩ ⟨ys⟩ (by rw [vK]; exact hu) an,vK]
     exact KA (Lp d) n w xs ys fs.toList 0 _ hz xs ys h1 J (fun j v hv=>by rw [Nat.zero_add]; exact hv) (fun j v hv=>by rw [Nat.zero_add]; exact hv)
    ·cases h
  ·cases h
theorem ad7 {P:Program} {t:TypeId} {z:List Value} (h:xt P 5 t=some (true,z)) (hg:P.eqGuardType P.depth t=false):xH P t z:=by
 intro xs ys w h1 J;refine ⟨?_,fun x y op=>run_eqGuard_agg w op t x y ⟨xs⟩ ⟨ys⟩ hg⟩
 exact Lp 5 t true z h 9995 xs ys w h1 J
open Go Go.RowKit
def uR:Code→Option (Array Nat × Code × Code)
 | .rangeFunc _ ps a b=>some (ps,a,b)
 | .seq a b=>match uR a with
  | some x=>some x
  | none=>uR b
 | .block _ c=>uR c
 | .loop c=>uR c
 | .cond _ a b=>match uR a with
  | some x=>some x
  | none=>uR b
 | _=>none
def sY (f:Func) (fn:FuncId) (tm:Array Value) (df:Nat):Loop :=
 match f.body with
 | some c=>match uR c with
  | some (ps,a,b)=>⟨.ready,none,fn,tm,ps,a,b,df⟩
  | none=>⟨.ready,none,fn,tm,#[],.skip,.skip,df⟩
 | none=>⟨.ready,none,fn,tm,#[],.skip,.skip,df⟩
def dw (id:Nat):Nat→Value
 | 0=>.slice none 0 0
 | q+1=>.slice (some ⟨id,0,none⟩) (q+1) ao
def zT (e:Nat) (F:Nat→List Value):Nat→aA
 | 0=>[]
 | q+1=>[some (.flat true (q+1) e F)]
end Go.Ae
