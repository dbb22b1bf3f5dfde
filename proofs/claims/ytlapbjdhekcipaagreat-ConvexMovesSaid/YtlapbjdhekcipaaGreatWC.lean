import Derived.Laws.StructEq
import Derived.Test.YtlapbjdhekcipaaGreatWB
set_option linter.unusedVariables false
set_option linter.unusedSimpArgs false
namespace Go.Ae
open Go Go.RowKit
def nh (es:List (Option Nat)) (D:Nat→Bool) (i:Nat):Bool:=(List.range es.length).any fun p=>D p && (es.getD p none == some i)
theorem tZ {es:List (Option Nat)} {D:Nat→Bool} {i:Nat}:nh es D i=true↔∃ p,D p=true∧es[p]?=some (some i):=by
 unfold nh;rw [List.any_eq_true];constructor
 ·rintro ⟨p,hp,h⟩
  rw [Bool.and_eq_true,beq_iff_eq,List.getD_eq_getElem?_getD,List.getElem?_eq_getElem (List.mem_range.1 hp)] at h;exact ⟨p,h.1,by rw [List.getElem?_eq_getElem (List.mem_range.1 hp)]; exact congrArg some h.2⟩
 ·rintro ⟨p,h1,J⟩
  have al:=(List.getElem?_eq_some_iff.1 J).1;refine ⟨p,List.mem_range.2 al,?_⟩;rw [h1,List.getD_eq_getElem?_getD,J];simp
def jg (es:List (Option Nat)) (rs:List c6) (D:Nat→Bool) (m:Nat):List (Option ai):=(List.range m).map fun i=>if D i && !nh es D i then (rs[i]?).bind (·.nb) else none
theorem wA {es:List (Option Nat)} {rs:List c6} {D:Nat→Bool} {m i:Nat} {b:ai}:(jg es rs D m)[i]?=some (some b)↔i < m∧D i=true∧nh es D i=false∧(rs[i]?).bind (·.nb)=some b:=by
 unfold jg;rw [List.getElem?_map];by_cases h:i < m
 ·simp only [List.getElem?_range h,Option.map_some,Option.some.injEq];cases D i <;> cases nh es D i <;> simp [h]
 ·rw [List.getElem?_eq_none (by simp; omega)]
  simp [h]
theorem A4 (es:List (Option Nat)) (rs:List c6) (D:Nat→Bool) (m:Nat):(jg es rs D m).length=m:=by simp [jg]
def jh (es:List (Option Nat)) (rs:List c6):List (Option ai):=jg es rs (fun i=>decide (i < rs.length)) rs.length
def HH (ms:List (List Nat)) (j i:Nat):Bool :=
 decide (i < j) && (ms.getD j []).contains i && (List.range ms.length).all fun q=>q == j || !((ms.getD q []).contains i) || (ms.getD j []).contains q
theorem Te {ms:List (List Nat)} {j i:Nat} (h:HH ms j i=true):i < j∧i∈ms.getD j []∧∀ q,q≠j→i∈ms.getD q []→q∈ms.getD j []:=by
 unfold HH at h;simp only [Bool.and_eq_true,decide_eq_true_eq,List.contains_iff_mem,List.all_eq_true,List.mem_range,Bool.or_eq_true,beq_iff_eq,Bool.not_eq_true'] at h;refine ⟨h.1.1,h.1.2,fun q hq hi=>?_⟩
 have al:q < ms.length:=by
  rcases Nat.lt_or_ge q ms.length with h' | h'
  ·exact h'
  ·rw [List.getD_eq_getElem?_getD,List.getElem?_eq_none h'] at hi; cases hi
 rcases h.2 q al with (h' | h') | h'
 ·exact absurd h' hq
 ·rw [List.contains_iff_mem.2 hi] at h'; cases h'
 ·exact h'
def ni (E:Env) (ops:List Oper) (vJ:List (List Nat)) (H:ay) (n0:Nat):List Oper→List (List Nat)→Nat→List Value→List (Option ai)→(List Value→List (Option ai)→Prop)→Prop
 | [],_,_,t,S,k=>k t S
 | o::l,mask::aU,j,t,S,k =>
  match o.guard with
  | none=>match isApp o.op with
   | some (ty,x,y)=>lI S 0 mask fun Sm=>nE H Sm fun G=>P8 E t G n0 (n0+j) ty x y fun v gA nb=>match gA with
    | some i=>HH vJ j i=true∧dr t o.dst v fun t'=>jy S i none fun S1=>jx S1 nb fun S'=>ni E ops vJ H n0 l aU (j+1) t' S' k
    | none=>dr t o.dst v fun t'=>jx S nb fun S'=>ni E ops vJ H n0 l aU (j+1) t' S' k
   | none=>lI S 0 mask fun Sm=>nE H Sm fun G=>ld E o.op t G (n0+j) fun v nb=>dr t o.dst v fun t'=>jx S nb fun S'=>ni E ops vJ H n0 l aU (j+1) t' S' k
  | some (g,want)=>match (ops[g]?).bind (·.dst) with
   | some d=>qN t d fun v=>match v with
    | .bool b=>br (b == want)
      (lI S 0 mask fun Sm=>nE H Sm fun G=>ld E o.op t G (n0+j) fun v nb=>dr t o.dst v fun t'=>jx S nb fun S'=>ni E ops vJ H n0 l aU (j+1) t' S' k)
      (dr t o.dst undef fun t'=>jx S none fun S'=>ni E ops vJ H n0 l aU (j+1) t' S' k)
    | .tuple _=>dr t o.dst undef fun t'=>jx S none fun S'=>ni E ops vJ H n0 l aU (j+1) t' S' k
    | _=>False
   | none=>False
 | _::_,[],_,_,_,_=>False
def Pk (E:Env) (ops:List Oper) (t:List Value) (H:ay) (k:SK):Prop :=
 ∃ (m:Nat) (aU:List (List Nat)),CB ops m aU=true∧jz H fun n0=>uV ops m fun hd tl=>ni E ops aU H n0 hd aU 0 t [] fun t' S=>nE H S fun G=>nq E ops tl t' G k
structure o9 (P:Program) (ops:List Oper) (t0:List Value) (H:ay) (aU:List (List Nat)) (rs:List c6) (es:List (Option Nat)) (j:Nat):Prop where
 ok:∃ o r gA,ops[j]?=some o∧rs[j]?=some r∧es[j]?=some gA∧(∀ d,o.dst=some d→d < t0.length) ∧
  ((∃ G:ay,(∀ id b,G[id]?=some (some b)→(id < H.length∧H[id]?=some (some b))∨(∃ i,id=H.length+i∧i < j∧i∈aU.getD j []∧(rs[i]?).bind (·.nb)=some b)) ∧
    (∀ i,gA=some i→i < j∧i∈aU.getD j []∧(∀ q,q≠j→i∈aU.getD q []→q∈aU.getD j [])∧∃ b,G[H.length+i]?=some (some b)∧b.own=true) ∧
    (∀ (ν:Nu) (a:Act) (w:World) (q:Option Nat) (n:Nat),(∀ x∈o.op.operands,fk ν (bd ops rs (fun i=>decide (i < j)) t0 j) a x)→bS ν G w→ν (H.length+j)=none →
     ∀ next Q,(∀ v' w' aj,EPost ν aj (H.length+j) (gA.bind fun i=>ν (H.length+i)) w w' r.v v' r.nb→next (a.put o.dst v') w')→o.wpIn (WF q) n P a w next Q) ∧
    (o.guard=none∨∃ g want d b,o.guard=some (g,want)∧bT ops g=some d∧(bd ops rs (fun i=>decide (i < j)) t0 j)[d]?=some (.bool b)∧(b == want)=true)) ∨
    (gA=none∧r.v=undef∧r.nb=none∧∃ g want d v,o.guard=some (g,want)∧bT ops g=some d∧(bd ops rs (fun i=>decide (i < j)) t0 j)[d]?=some v∧((∃ b,v=.bool b∧(b == want)=false)∨∃ vs,v=.tuple vs)))
theorem o9.more {P:Program} {ops:List Oper} {t0:List Value} {H:ay} {aU:List (List Nat)} {rs:List c6} {es:List (Option Nat)} {j:Nat} (h:o9 P ops t0 H aU rs es j) (hj:j < rs.length) (hj2:j < es.length) (r:c6) (e:Option Nat):o9 P ops t0 H aU (rs++[r]) (es++[e]) j:=by
 have he:∀ i,i≤j→(rs++[r])[i]?=rs[i]?:=fun i hi=>by rw [List.getElem?_append_left (by omega)]
 have hv:∀ D,bd ops (rs++[r]) D t0 j=bd ops rs D t0 j:=fun D=>tR (fun i hi=>he i (by omega))
 obtain ⟨o,q,gA,h1,J,j7,h3,h4⟩:=h.ok;refine ⟨⟨o,q,gA,h1,by rw [he j (Nat.le_refl _)]; exact J,by rw [List.getElem?_append_left hj2]; exact j7,h3,?_⟩⟩
 rw [hv];rcases h4 with ⟨G,g1,g2,g3,g4⟩ | h4
 ·exact .inl ⟨G,fun id b hb=>(g1 id b hb).imp (fun x=>x) (fun ⟨i,k1,k2,k3,k4⟩=>⟨i,k1,k2,k3,by rw [he i (by omega)]; exact k4⟩),g2,g3,g4⟩
 ·exact .inr h4
def qI (S:List (Option ai)):Option Nat→List (Option ai)
 | some i=>S.set i none
 | none=>S
theorem UA {es:List (Option Nat)} {rs:List c6} {i:Nat} {b:ai} (h:(jh es rs)[i]?=some (some b)):(rs[i]?).bind (·.nb)=some b:=(wA.1 h).2.2.2
theorem Tf {es:List (Option Nat)} {rs:List c6} (hl:es.length=rs.length) (al:∀ (p i:Nat),es[p]?=some (some i)→i < p) (r:c6) (e:Option Nat) (he:∀ i,e=some i→i < rs.length) :
  jh (es++[e]) (rs++[r])=qI (jh es rs) e++[r.nb]:=by
 have hD:∀ i,i < rs.length+1→decide (i < (rs++[r]).length)=true:=fun i hi=>by simp; omega
 have Q0:∀ i,nh (es++[e]) (fun i=>decide (i < (rs++[r]).length)) i=(nh es (fun i=>decide (i < rs.length)) i || e == some i):=fun i=>by
  rw [Bool.eq_iff_iff,Bool.or_eq_true,tZ,tZ,beq_iff_eq];constructor
  ·rintro ⟨p,_,J⟩
   rw [List.getElem?_append] at J
   split at J
   ·rename_i hp;exact .inl ⟨p,by simp; omega,J⟩
   ·right
    have:p - es.length=0:=by
     rcases Nat.eq_zero_or_pos (p - es.length) with h | h
     ·exact h
     ·rw [List.getElem?_eq_none (by simp; omega)] at J; cases J
    rw [this] at J
    simpa using J
  ·rintro (⟨p,h1,J⟩ | J)
   ·have:=(List.getElem?_eq_some_iff.1 J).1;exact ⟨p,by simp at h1 ⊢; omega,by rw [List.getElem?_append_left this]; exact J⟩
   ·exact ⟨es.length,by simp; omega,by rw [List.getElem?_append_right (Nat.le_refl _)]; simp [J]⟩
 apply List.ext_getElem?;intro x;have hlen:(qI (jh es rs) e).length=rs.length:=by
  cases e <;> simp [qI,jh,A4]
 unfold jh jg;rw [List.getElem?_map];by_cases hx:x < rs.length
 ·rw [List.getElem?_range (by simp; omega),List.getElem?_append_left (by cases e <;> simp [qI] <;> omega)]
  simp only [Option.map_some];simp only [Q0 x,hD x (by omega)]
  rw [List.getElem?_append_left hx];unfold qI;cases e with
  | none =>
   dsimp only
   rw [List.getElem?_map,List.getElem?_range hx];simp [hx]
  | some i =>
   dsimp only
   by_cases Jr:i=x
   ·subst Jr;rw [List.getElem?_set_self (by simpa using hx)]
    simp
   ·rw [List.getElem?_set_ne Jr,List.getElem?_map,List.getElem?_range hx];have:(some i == some x)=false:=by simp [Jr]
    rw [this];simp [hx]
 ·by_cases lZ:x=rs.length
  ·subst lZ;rw [List.getElem?_range (by simp),List.getElem?_append_right (by cases e <;> simp [qI])]
   have aJ:nh es (fun i=>decide (i < rs.length)) rs.length=false:=by
    cases h:nh es (fun i=>decide (i < rs.length)) rs.length with
    | false=>rfl
    | true =>
     obtain ⟨p,h1,J⟩:=tZ.1 h;have:=al p _ J;have:=of_decide_eq_true h1;omega
   have Ir:(e == some rs.length)=false:=by
    cases e with
    | none=>rfl
    | some i=>have:=he i rfl; simp; omega
   simp only [Option.map_some];simp only [Q0,hD _ (Nat.lt_succ_self _),aJ,Ir];cases e <;> simp [qI]
  ·rw [List.getElem?_eq_none (by simp; omega),List.getElem?_eq_none (by cases e <;> simp [qI] <;> omega)]; rfl
theorem Lp {P:Program} {E:Env} (hE:EnvOk P E) {ops:List Oper} {t0:List Value} {H:ay} {aU:List (List Nat)} {k:List Value→List (Option ai)→Prop} :
  ∀ {l:List Oper} {ms:List (List Nat)} {j:Nat} {rs:List c6} {es:List (Option Nat)},rs.length=j→es.length=j→(∀ (p i:Nat),es[p]?=some (some i)→i < p)→(∀ (i:Nat) o,l[i]?=some o→ops[j+i]?=some o)→(∀ i,i < l.length→ms.getD i []=aU.getD (j+i) []) →
  (∀ i,i < j→o9 P ops t0 H aU rs es i)→ni E ops aU H H.length l ms j (bd ops rs (fun i=>decide (i < j)) t0 j) (jh es rs) k →
  ∃ (cg:List c6) (j8:List (Option Nat)),cg.length=j+l.length∧j8.length=j+l.length∧(∀ i,i < j+l.length→o9 P ops t0 H aU cg j8 i)∧k (bd ops cg (fun i=>decide (i < j+l.length)) t0 (j+l.length)) (jh j8 cg)
 | [],ms,j,rs,es,hl,gy,_,_,_,bf,h=>⟨rs,es,hl,gy,bf,h⟩
 | o::l,[],j,rs,es,hl,gy,_,_,_,bf,h=>h.elim
 | o::l,mask::ms,j,rs,es,hl,gy,al,ho,hm,bf,h=>by
  have ov:ops[j]?=some o:=by have:=ho 0 o rfl; simpa using this
  have CX:mask=aU.getD j []:=by have:=hm 0 (by simp); simpa using this
  -- the next step, whatever this one's result
  have next:∀ (r:c6) (e:Option Nat) t',(t'=match o.dst with | some d=>(bd ops rs (fun i=>decide (i < j)) t0 j).set d r.v | none=>bd ops rs (fun i=>decide (i < j)) t0 j)→(∀ i,e=some i→i < j) →
    (o9 P ops t0 H aU (rs++[r]) (es++[e]) j)→ni E ops aU H H.length l ms (j+1) t' (qI (jh es rs) e++[r.nb]) k →
    ∃ (cg:List c6) (j8:List (Option Nat)),cg.length=j+(o::l).length∧j8.length=j+(o::l).length∧(∀ i,i < j+(o::l).length→o9 P ops t0 H aU cg j8 i)∧k (bd ops cg (fun i=>decide (i < j+(o::l).length)) t0 (j+(o::l).length)) (jh j8 cg):=by
   intro r e t' jE fH hj h';have hv:bd ops (rs++[r]) (fun i=>decide (i < j+1)) t0 (j+1)=t':=by
    have hr:(rs++[r])[j]?=some r:=by rw [← hl]; simp
    have hd:bT ops j=o.dst:=by simp [bT,ov]
    have zC:bd ops (rs++[r]) (fun i=>decide (i < j+1)) t0 j=bd ops rs (fun i=>decide (i < j)) t0 j:=by
     rw [tR (cg:=rs) (fun i hi=>by rw [List.getElem?_append_left (by omega)])]
     exact yj (fun i hi=>by simp; omega)
    have Io:decide (j < j+1)=true:=by simp
    rw [jE,E7,hr,hd,zC,Io];cases o.dst <;> rfl
   rw [← hv,← Tf (gy.trans hl.symm) al r e (fun i hi=>by rw [hl]; exact fH i hi)] at h'
   obtain ⟨cg,j8,k1,Q1,k2,k3⟩:=Lp hE (l:=l) (ms:=ms) (j:=j+1) (rs:=rs++[r]) (es:=es++[e]) (by simp [hl]) (by simp [gy]) (fun p i hp=>by
     rw [List.getElem?_append] at hp
     split at hp
     ·exact al p i hp
     ·rename_i eH;have:p - es.length=0:=by
       rcases Nat.eq_zero_or_pos (p - es.length) with h | h
       ·exact h
       ·rw [List.getElem?_eq_none (by simp; omega)] at hp; cases hp
      rw [this] at hp;have:=fH i (by simpa using hp)
      omega) (fun i p hp=>by have:=ho (i+1) p (by simpa using hp); rwa [show j+1+i=j+(i+1) by omega])
    (fun i hi=>by have:=hm (i+1) (by simp; omega); rw [show j+1+i=j+(i+1) by omega]; simpa using this)
    (fun i hi=>by
     by_cases e':i=j
     ·subst e'; exact hj
     ·exact (bf i (by omega)).more (by omega) (by omega) r e) h'
   have e2:j+1+l.length=j+(o::l).length:=by simp; omega
   rw [e2] at k1 Q1 k2 k3;exact ⟨cg,j8,k1,Q1,k2,k3⟩
  have ow:∀ r:c6,bd ops (rs++[r]) (fun i=>decide (i < j)) t0 j=bd ops rs (fun i=>decide (i < j)) t0 j:=fun r=>tR (fun i hi=>by rw [List.getElem?_append_left (by omega)])
  have tq:∀ r:c6,(rs++[r])[j]?=some r:=fun r=>by rw [← hl]; simp
  have DY:∀ e:Option Nat,(es++[e])[j]?=some e:=fun e=>by rw [← gy]; simp
  -- what is seen of the blocks
  have seen:∀ {Sm:List (Option ai)} (r:c6),(∀ jj b,Sm[jj]?=some (some b)→(jh es rs)[jj]?=some (some b)∧(0+jj)∈mask)→∀ id b,(H++Sm)[id]?=some (some b) →
    (id < H.length∧H[id]?=some (some b))∨(∃ i,id=H.length+i∧i < j∧i∈aU.getD j []∧((rs++[r])[i]?).bind (·.nb)=some b):=by
   intro Sm r h3 id b hb;rw [List.getElem?_append] at hb
   split at hb
   ·exact .inl ⟨by assumption,hb⟩
   ·rename_i eH;obtain ⟨q1,q2⟩:=h3 _ b hb;have ad2:id - H.length < rs.length:=by
     have:=(List.getElem?_eq_some_iff.1 q1).1
     rwa [jh,A4] at this
    refine .inr ⟨id - H.length,by omega,by omega,by rw [← CX]; simpa using q2,?_⟩
    rw [List.getElem?_append_left ad2];exact UA q1
  have Dn:∀ {v:Value} {kk:List Value→Prop},dr (bd ops rs (fun i=>decide (i < j)) t0 j) o.dst v kk→∃ t',(t'=match o.dst with | some d=>(bd ops rs (fun i=>decide (i < j)) t0 j).set d v | none=>bd ops rs (fun i=>decide (i < j)) t0 j)∧(∀ d,o.dst=some d→d < t0.length)∧kk t':=by
   intro v kk hk;cases hd:o.dst with
   | none=>rw [hd] at hk; exact ⟨_,rfl,(fun d hd=>by cases hd),hk⟩
   | some d =>
    rw [hd] at hk;obtain ⟨k1,k2⟩:=oN hk;rw [rM] at k1;exact ⟨_,rfl,(fun d' cU=>by cases cU; exact k1),k2⟩
  have run:(o.guard=none∨∃ g want d b,o.guard=some (g,want)∧bT ops g=some d∧(bd ops rs (fun i=>decide (i < j)) t0 j)[d]?=some (.bool b)∧(b == want)=true) →
    (lI (jh es rs) 0 mask fun Sm=>nE H Sm fun G=>ld E o.op (bd ops rs (fun i=>decide (i < j)) t0 j) G (H.length+j) fun v nb=>dr (bd ops rs (fun i=>decide (i < j)) t0 j) o.dst v fun t'=>jx (jh es rs) nb fun S'=>ni E ops aU H H.length l ms (j+1) t' S' k) →
    ∃ (cg:List c6) (j8:List (Option Nat)),cg.length=j+(o::l).length∧j8.length=j+(o::l).length∧(∀ i,i < j+(o::l).length→o9 P ops t0 H aU cg j8 i)∧k (bd ops cg (fun i=>decide (i < j+(o::l).length)) t0 (j+(o::l).length)) (jh j8 cg):=by
   intro hg h;obtain ⟨Sm,h1,J,h3⟩:=wi h;have h1:=ue h1;obtain ⟨v,nb,hk,hq⟩:=Bt (P:=P) hE h1;obtain ⟨t',e1,e2,e3⟩:=Dn hk;refine next ⟨v,nb,true⟩ none t' e1 (fun i hi=>by cases hi) ⟨⟨o,⟨v,nb,true⟩,none,ov,tq _,DY _,e2,.inl ⟨H++Sm,seen _ h3,(fun i hi=>by cases hi),?_,?_⟩⟩⟩ (tV e3)
   ·rw [ow];exact fun ν a w q n ha hH hn next Q hN=>hq o ν a w q n rfl ha hH hn next Q (fun v' w' aj hp=>hN v' w' aj (hp.e _))
   ·rw [ow]; exact hg
  have skip:(∃ g want d v,o.guard=some (g,want)∧bT ops g=some d∧(bd ops rs (fun i=>decide (i < j)) t0 j)[d]?=some v∧((∃ b,v=.bool b∧(b == want)=false)∨∃ vs,v=.tuple vs)) →
    (dr (bd ops rs (fun i=>decide (i < j)) t0 j) o.dst undef fun t'=>jx (jh es rs) none fun S'=>ni E ops aU H H.length l ms (j+1) t' S' k) →
    ∃ (cg:List c6) (j8:List (Option Nat)),cg.length=j+(o::l).length∧j8.length=j+(o::l).length∧(∀ i,i < j+(o::l).length→o9 P ops t0 H aU cg j8 i)∧k (bd ops cg (fun i=>decide (i < j+(o::l).length)) t0 (j+(o::l).length)) (jh j8 cg):=by
   intro hg hk;obtain ⟨t',e1,e2,e3⟩:=Dn hk;exact next ⟨undef,none,false⟩ none t' e1 (fun i hi=>by cases hi) ⟨⟨o,⟨undef,none,false⟩,none,ov,tq _,DY _,e2,.inr ⟨rfl,rfl,rfl,by rw [ow]; exact hg⟩⟩⟩ (tV e3)
  unfold ni at h
  split at h
  ·rename_i hg
   split at h
   ·rename_i ty x y ad3;obtain ⟨Sm,h1,J,h3⟩:=wi h;have h1:=ue h1;obtain ⟨v,gA,nb,hk,ky,hq⟩:=Uz (P:=P) hE h1;obtain ⟨c,rn,Js,Q5,hc4⟩:=Td ad3
    -- what the step gives
    have step:∀ (ν:Nu) (a:Act) (w:World) (q:Option Nat) (n:Nat),(∀ x∈o.op.operands,fk ν (bd ops rs (fun i=>decide (i < j)) t0 j) a x)→bS ν (H++Sm) w→ν (H.length+j)=none →
      ∀ next Q,(∀ v' w' aj,EPost ν aj (H.length+j) (gA.bind fun i=>ν (H.length+i)) w w' v v' nb→next (a.put o.dst v') w')→o.wpIn (WF q) n P a w next Q:=by
     intro ν a w q n ha hH hn next Q hN;have gV:∀ z,z∈[x,y]→z∈o.op.operands:=fun z hz=>by
      rw [rn];simp only [List.mem_cons,List.mem_nil_iff,or_false] at hz;rcases hz with rfl | rfl <;> simp [Op.operands,Call.operands,Q5]
     obtain ⟨v',w',aj,bE,hp⟩:=hq ν a w o.type (ha x (gV x (by simp))) (ha y (gV y (by simp))) hH hn
     exact jK (by simp [rn]) (by simp [execOp,rn,resolve,Js,Q5,hc4,invoke,builtin,bE]) next Q (hN _ _ _ hp)
    cases gA with
    | none =>
     obtain ⟨t',e1,e2,e3⟩:=Dn hk;exact next ⟨v,nb,true⟩ none t' e1 (fun i hi=>by cases hi) ⟨⟨o,⟨v,nb,true⟩,none,ov,tq _,DY _,e2,.inl ⟨H++Sm,seen _ h3,(fun i hi=>by cases hi),by rw [ow]; exact step,.inl hg⟩⟩⟩ (tV e3)
    | some i =>
     obtain ⟨ad4,hk⟩:=hk;obtain ⟨x5,At,hiq⟩:=Te ad4;obtain ⟨t',e1,e2,e3⟩:=Dn hk;obtain ⟨_,e3⟩:=ml e3;exact next ⟨v,nb,true⟩ (some i) t' e1 (fun i' hi=>by cases hi; exact x5) ⟨⟨o,⟨v,nb,true⟩,some i,ov,tq _,DY _,e2,.inl ⟨H++Sm,seen _ h3,(fun i' hi=>by cases hi; exact ⟨x5,At,hiq,ky i rfl⟩),by rw [ow]; exact step,.inl hg⟩⟩⟩ (tV e3)
   ·exact run (.inl hg) h
  ·rename_i g want hg
   split at h
   ·rename_i d hd;obtain ⟨v,hv,h⟩:=oM h
    split at h
    ·rename_i b;cases hb:(b == want) with
     | true=>exact run (.inr ⟨g,want,d,b,hg,hd,hv,hb⟩) (B7 h hb)
     | false=>exact skip ⟨g,want,d,_,hg,hd,hv,.inl ⟨b,rfl,hb⟩⟩ (BJ h hb)
    ·exact skip ⟨g,want,d,_,hg,hd,hv,.inr ⟨_,rfl⟩⟩ h
    ·exact h.elim
   ·exact h.elim
section
variable {P:Program} {E:Env} {r:Option Nat} {n:Nat} {F:Fr} {ops:Array Oper} {Q:Exit→Act→World→Prop} {m:Nat} {aU:List (List Nat)} {k:SK}
theorem Tg (hc:Order ops.toList aU) (uP:m≤ops.size)
  (y5:∀ j o i p d,j < m→i < m→i≠j→ops.toList[j]?=some o→ops.toList[i]?=some p→p.dst=some d→o.dst≠some d∧(d ∉ jq ops.toList o∨i∈aU.getD j []∨j∈aU.getD i []))
  (CY:∀ j,j < ops.size→m≤j→∀ i,i < m→i∈aU.getD j [])
  {t0:List Value} {H:ay} {rs:List c6} {es:List (Option Nat)} (hel:es.length=m) (hh:∀ i,i < m→o9 P ops.toList t0 H aU rs es i)
  (pk:∀ (fuel:Nat) (aE:Array Bool) (ν:Nu) (a:Act) (w:World),aE.size=ops.size→oY ops.toList (DB aE)→(∀ i,DB aE i=true→i < m)→(∀ i,i < m→DB aE i=true) →
   bz F ν (bd ops.toList rs (DB aE) t0 m) (H++jg es rs (DB aE) m) a w→gF (DB aE) ops.size≤fuel→wpAnyIn (WF r) n P .any ops Q fuel aE a w) :
  ∀ (fuel:Nat) (aE:Array Bool) (ν:Nu) (a:Act) (w:World),aE.size=ops.size→oY ops.toList (DB aE)→(∀ i,DB aE i=true→i < m) →
  bz F ν (bd ops.toList rs (DB aE) t0 m) (H++jg es rs (DB aE) m) a w→(∀ i,i < m→DB aE i=false→ν (H.length+i)=none)→gF (DB aE) ops.size≤fuel →
  wpAnyIn (WF r) n P .any ops Q fuel aE a w:=by
 have lQ:∀ i d,i < m→bT ops.toList i=some d→d < t0.length:=by
  intro i d hi hd;obtain ⟨o,q,_,h1,J,_,h3,_⟩:=(hh i hi).ok;unfold bT at hd;rw [h1] at hd;exact h3 d hd
 have pH:xw ops.toList m:=by
  intro i j d hi hj h1 J;rcases Nat.decEq i j with aJ | he
  ·obtain ⟨o,q,_,k1,_⟩:=(hh i hi).ok;obtain ⟨p,q',_,k2,_⟩:=(hh j hj).ok;unfold bT at h1 J;rw [k1] at h1; rw [k2] at J;exact absurd h1 (y5 i o j p d hi hj (Ne.symm aJ) k1 k2 J).1
  ·exact he
 intro fuel
 induction fuel with
 | zero =>
  intro aE ν a w hs eY al hi gz hu;have cZ:∀ i,i < ops.size→DB aE i=true:=fun i aR=>by
   cases hd:DB aE i with
   | true=>rfl
   | false=>have:=E8 aR hd; omega
  exact pk 0 aE ν a w hs eY al (fun i aR=>cZ i (by omega)) hi hu
 | succ fuel ih =>
  intro aE ν a w hs eY al hi gz hu;by_cases o8:∀ i,i < m→DB aE i=true
  ·exact pk (fuel+1) aE ν a w hs eY al o8 hi hu
  ·-- something of the head has not gone: the least such one may go
   have hex:∃ i,i < m∧DB aE i=false:=by
    refine Classical.byContradiction fun aJ=>o8 fun i aR=>?_
    cases hd:DB aE i with
    | true=>rfl
    | false=>exact absurd ⟨i,aR,hd⟩ aJ
   obtain ⟨i1,DT,gp⟩:=hex;obtain ⟨i0,P4,fJ,jm⟩:=EF gp;have gk:i0 < m:=by omega
   have hr:=Bc hc hs (by omega:i0 < ops.size) fJ jm
   refine ⟨(fun hn=>by rw [hn] at hr; cases hr),fun j hj=>?_⟩
   rw [mem_ready] at hj;obtain ⟨h1,o,ho,he⟩:=hj;have nF:j < ops.size:=(Array.getElem?_eq_some_iff.1 ho).1;rw [uu (by omega)] at h1
   have gm:ops.toList[j]?=some o:=by simpa using ho
   have l8:=tS hc eY j o gm (fun e' gn bB=>he e' gn bB)
   have mQ:j < m:=by
    rcases Nat.lt_or_ge j m with h | h
    ·exact h
    ·have:=l8 i1 (CY j nF h i1 DT);rw [gp] at this; cases this
   obtain ⟨o',q,gA,g1,g2,g2e,g3,g4⟩:=(hh j mQ).ok;rw [gm] at g1; cases g1;have Jm:bT ops.toList j=o.dst:=by simp [bT,gm]
   -- what it reads stands as the text's order has it
   have HE:∀ d,d∈jq ops.toList o→(bd ops.toList rs (DB aE) t0 m)[d]?=(bd ops.toList rs (fun i=>decide (i < j)) t0 j)[d]?:=by
    intro d hd;rw [← wz (j:=j) (m:=m) (by omega) (fun i h1 J=>by simp; omega)]
    refine yw pH lQ (fun i aR gl=>?_)
    by_cases e:i=j
    ·subst e; rw [h1]; simp
    ·obtain ⟨p,q',_,k1,_⟩:=(hh i aR).ok;have Jn:p.dst=some d:=by unfold bT at gl; rw [k1] at gl; exact gl
     rcases (y5 j o i p d mQ aR e gm k1 Jn).2 with h | h | h
     ·exact absurd hd h
     ·rw [l8 i h];have:=(hc.mask j o gm i h).1;simp [this]
     ·have hji:=(hc.mask i p k1 j h).1;have:DB aE i=false:=by
       cases cU:DB aE i with
       | false=>rfl
       | true =>
        have:=tS hc eY i p k1 (eY i p cU k1) j h;rw [h1] at this; cases this
      rw [this]; simp; omega
   have db:∀ i,DB (aE.setIfInBounds j true) i=(DB aE i || i == j):=fun i=>CC (by omega) i
   have xN:oY ops.toList (DB (aE.setIfInBounds j true)):=by
    intro i p aR hp e' gn bB;rw [db] at aR ⊢;by_cases e:i=j
    ·subst e;rw [gm] at hp; cases hp;have:DB aE e'.on=true:=he e' gn bB;rw [this]; rfl
    ·have e2:(i == j)=false:=by simp [e]
     rw [e2,Bool.or_false] at aR;rw [eY i p aR hp e' gn bB]; rfl
   have qR:∀ i,DB (aE.setIfInBounds j true) i=true→i < m:=fun i aR=>by
    rw [db] at aR;by_cases e:i=j
    ·subst e; exact mQ
    ·have e2:(i == j)=false:=by simp [e]
     rw [e2,Bool.or_false] at aR;exact al i aR
   have s9:gF (DB (aE.setIfInBounds j true)) ops.size≤fuel:=by
    have:=Bo db h1 ops.size;rw [if_pos nF] at this; omega
   have uU:=Lo (D:=DB aE) (D':=DB (aE.setIfInBounds j true)) pH lQ mQ h1 db g2;rw [Jm] at uU;have hat:∀ p i,es[p]?=some (some i)→p < m∧i < p∧i∈aU.getD p []∧∀ q,q≠p→i∈aU.getD q []→q∈aU.getD p []:=by
    intro p i hp;have vK:p < m:=by have:=(List.getElem?_eq_some_iff.1 hp).1; omega
    obtain ⟨_,_,e',_,_,k3,_,k4⟩:=(hh p vK).ok;rw [hp] at k3; cases k3;rcases k4 with ⟨_,_,k5,_⟩ | ⟨k5,_⟩
    ·obtain ⟨y1,y2,y3,_⟩:=k5 i rfl;exact ⟨vK,y1,y2,y3⟩
    ·cases k5
   -- what this one sees has not been eaten
   have fresh:∀ i,i∈aU.getD j []→nh es (DB aE) i=false:=by
    intro i aR;cases gn:nh es (DB aE) i with
    | false=>rfl
    | true =>
     obtain ⟨p,nG,rr⟩:=tZ.1 gn;obtain ⟨vK,_,_,y3⟩:=hat p i rr;have Q6:j≠p:=fun e=>by rw [← e,h1] at nG; cases nG
     have hjp:=y3 j Q6 aR;obtain ⟨op,_,_,k1,_⟩:=(hh p vK).ok;have:=tS hc eY p op k1 (eY p op nG k1) j hjp;rw [h1] at this; cases this
   have fG:∀ (id:Nat) (c:ai),(H++jg es rs (DB (aE.setIfInBounds j true)) m)[id]?=some (some c) →
     ((H++jg es rs (DB aE) m)[id]?=some (some c)∧∀ i,gA=some i→id≠H.length+i)∨(id=H.length+j∧q.nb=some c):=by
    intro id c;by_cases bo:id < H.length
    ·rw [List.getElem?_append_left bo,List.getElem?_append_left bo];exact fun h=>.inl ⟨h,fun i _=>by omega⟩
    ·rw [List.getElem?_append_right (by omega),List.getElem?_append_right (by omega),wA,wA]
     rintro ⟨k1,k2,k3,k4⟩
     rw [db] at k2;by_cases e:id - H.length=j
     ·refine .inr ⟨by omega,?_⟩
      rw [e,g2] at k4; exact k4
     ·have e2:(id - H.length == j)=false:=by simp [e]
      rw [e2,Bool.or_false] at k2;refine .inl ⟨⟨k1,k2,?_,k4⟩,fun i aR aeS=>?_⟩
      ·cases gn:nh es (DB aE) (id - H.length) with
       | false=>rfl
       | true =>
        obtain ⟨p,nG,rr⟩:=tZ.1 gn;rw [tZ.2 ⟨p,by rw [db,nG]; rfl,rr⟩] at k3; cases k3
      ·have hx:id - H.length=i:=by omega
       rw [hx,tZ.2 ⟨j,by rw [db]; simp,by rw [g2e,aR]⟩] at k3; cases k3
   have nf:ν (H.length+j)=none:=gz j mQ h1;have HF:(H++jg es rs (DB aE) m).length=H.length+m:=by rw [List.length_append,A4]
   have G6:(H++jg es rs (DB (aE.setIfInBounds j true)) m).length=H.length+m:=by rw [List.length_append,A4]
   have hG:∀ {G:ay},(∀ (id:Nat) (b:ai),G[id]?=some (some b)→(id < H.length∧H[id]?=some (some b))∨(∃ i,id=H.length+i∧i < j∧i∈aU.getD j []∧(rs[i]?).bind (·.nb)=some b)) →
     ∀ (id:Nat) (b:ai),G[id]?=some (some b)→(H++jg es rs (DB aE) m)[id]?=some (some b):=by
    intro G q1 id b hb;rcases q1 id b hb with ⟨h3,h4⟩ | ⟨i,h3,h4,h5,h6⟩
    ·rw [List.getElem?_append_left h3]; exact h4
    ·subst h3;rw [List.getElem?_append_right (by omega)]
     rw [show H.length+i - H.length=i by omega,wA]
     exact ⟨by omega,l8 i h5,fresh i h5,h6⟩
   have ad5:∀ i,gA=some i→∃ bi,(H++jg es rs (DB aE) m)[H.length+i]?=some (some bi)∧bi.own=true:=by
    intro i aR;rcases g4 with ⟨G,q1,q2,_⟩ | ⟨q1,_⟩
    ·obtain ⟨_,_,_,bi,y1,y2⟩:=q2 i aR;exact ⟨bi,hG q1 _ _ y1,y2⟩
    ·rw [aR] at q1; cases q1
   -- the state behind it
   have after:∀ v' w' aj,EPost ν aj (H.length+j) (gA.bind fun i=>ν (H.length+i)) w w' q.v v' q.nb→wpAnyIn (WF r) n P .any ops Q fuel (aE.setIfInBounds j true) (a.put o.dst v') w':=by
    intro v' w' aj hp;have hold:∀ lo,(gA.bind fun i=>ν (H.length+i))=some lo→∃ i bi,gA=some i∧ν (H.length+i)=some lo∧(H++jg es rs (DB aE) m)[H.length+i]?=some (some bi)∧bi.own=true:=by
     intro lo ij;cases gn:gA with
     | none=>rw [gn] at ij; cases ij
     | some i =>
      rw [gn] at ij;obtain ⟨bi,y1,y2⟩:=ad5 i gn;exact ⟨i,bi,rfl,ij,y1,y2⟩
    have dA:∀ (id:Nat) (c:ai),(H++jg es rs (DB aE) m)[id]?=some (some c)→id≠H.length+j:=fun id c h e=>by
     obtain ⟨l',cE,_⟩:=hi.hp.aI id c h;rw [e,nf] at cE; cases cE
    have uP:w.heap.size≤w'.heap.size:=by
     rcases hp.DX with hb | ⟨_,_,_,_,h,_⟩
     ·exact hb.size
     ·exact h
    have th:Kept F.O F.W w':=by
     rcases hp.DX with hb | ⟨lo,ij,_,J,h3,h4,h5,h6⟩
     ·exact hi.kp.below hb
     ·obtain ⟨i,bi,y1,y2,y3,y4⟩:=hold lo ij;refine ⟨h4.trans hi.kp.os,h5.trans hi.kp.tape,h6.trans hi.kp.output,Nat.le_trans hi.kp.size h3,fun x hx hO=>(J x fun e=>?_).trans (hi.kp.aI x hx hO)⟩
      subst e;rcases hi.own _ bi lo y3 y4 y2 with h | h
      ·exact hO h
      ·omega
    have H6:∀ (id:Nat) (c:ai) (l:Loc),(H++jg es rs (DB aE) m)[id]?=some (some c)→(∀ i,gA=some i→id≠H.length+i)→ν id=some l→bQ ν l c w→bQ ν l c w':=by
     intro id c l h aJ hl hB;rcases hp.DX with hb | ⟨lo,ij,_,J,h3,_⟩
     ·exact hB.below hb
     ·obtain ⟨i,bi,y1,y2,y3,y4⟩:=hold lo ij;exact hB.same (J _ (Ne.symm (hi.hp.sep _ id bi c lo l y3 h (Ne.symm (aJ i y1)) y4 y2 hl))) h3
    have NP:∀ (id:Nat) (c:ai) (l l2:Loc),(H++jg es rs (DB aE) m)[id]?=some (some c)→(∀ i,gA=some i→id≠H.length+i)→ν id=some l→(w.heap.size≤l2.aI∨∃ lo,(gA.bind fun i=>ν (H.length+i))=some lo∧l2.aI=lo.aI)→l2.aI≠l.aI:=by
     intro id c l l2 h aJ hl J;rcases J with J | ⟨lo,ij,J⟩
     ·obtain ⟨l',cE,hB⟩:=hi.hp.aI id c h;rw [hl] at cE; cases cE;have:=hB.live;omega
     ·obtain ⟨i,bi,y1,y2,y3,y4⟩:=hold lo ij;rw [J];exact hi.hp.sep _ id bi c lo l y3 h (Ne.symm (aJ i y1)) y4 y2 hl
    refine ih _ aj _ w' (by simp [hs]) xN qR ⟨?_,?_,⟨fun id c cF=>?_,fun x y bx bY lx ly hx hy aJ Jt e1 e2=>?_⟩,fun id bo=>?_,th,fun id c lc cF oo dI=>?_,Nu.le_trans hi.mono hp.le⟩ (fun i aR cU=>?_) s9
    ·rw [uU];cases hd:o.dst with
     | none=>exact hi.tm.mono hp.le
     | some d=>rw [rT]; exact (hi.tm.mono hp.le).set hp.val d
    ·rcases hp.DX with hb | ⟨lo,ij,⟨cur,t,jY⟩,J,h3,_⟩
     ·cases o.dst <;> exact hi.df.below hb
     ·cases o.dst <;> exact hi.df.eh jY J
    ·rcases fG id c cF with ⟨h,aJ⟩ | ⟨h3,h4⟩
     ·obtain ⟨l,hl,hB⟩:=hi.hp.aI id c h;exact ⟨l,hp.le _ _ hl,(H6 id c l h aJ hl hB).mono hp.le⟩
     ·obtain ⟨l,hl,hB,_⟩:=hp.ig c h4;exact ⟨l,by rw [h3]; exact hl,hB⟩
    ·rcases fG x bx hx with ⟨h,c7⟩ | ⟨h3,h4⟩
     ·rw [hp.only x (dA x bx h)] at e1;rcases fG y bY hy with ⟨g,Q7⟩ | ⟨g3,g4⟩
      ·rw [hp.only y (dA y bY g)] at e2;exact hi.hp.sep x y bx bY lx ly h g aJ Jt e1 e2
      ·obtain ⟨l,hl,_,hle⟩:=hp.ig bY g4;rw [g3,hl] at e2; cases e2;exact Ne.symm (NP x bx lx _ h c7 e1 hle)
     ·obtain ⟨l,hl,_,hle⟩:=hp.ig bx h4;rw [h3,hl] at e1; cases e1;rcases fG y bY hy with ⟨g,Q7⟩ | ⟨g3,g4⟩
      ·rw [hp.only y (dA y bY g)] at e2;exact NP y bY ly _ g Q7 e2 hle
      ·exact absurd (h3.trans g3.symm) aJ
    ·rw [G6] at bo;rw [hp.only id (by omega)]
     exact hi.fr id (by rw [HF]; exact bo)
    ·rcases fG id c cF with ⟨h,_⟩ | ⟨h3,h4⟩
     ·rw [hp.only id (dA id c h)] at dI;exact hi.own id c lc h oo dI
     ·obtain ⟨l,hl,_,hle⟩:=hp.ig c h4;rw [h3,hl] at dI; cases dI;rcases hle with hle | ⟨lo,ij,hle⟩
      ·exact .inr (Nat.le_trans hi.kp.size hle)
      ·obtain ⟨i,bi,y1,y2,y3,y4⟩:=hold lo ij;rw [hle];exact hi.own _ bi lo y3 y4 y2
    ·have aJ:i≠j:=fun e=>by subst e; rw [db] at cU; simp at cU
     rw [hp.only _ (by omega)]
     refine gz i aR ?_;rw [db] at cU;simp only [Bool.or_eq_false_iff] at cU;exact cU.1
   unfold wpOpIn;rw [ho]
   dsimp only
   have fI:∀ d,d∈jq ops.toList o→∀ v,(bd ops.toList rs (fun i=>decide (i < j)) t0 j)[d]?=some v→∃ v',a.tmps[d]?=some v'∧ar ν v v':=by
    intro d hd v hv;rw [← HE d hd] at hv;obtain ⟨v',k1,k2⟩:=hi.tm.get hv;exact ⟨v',by simpa using k1,k2⟩
   rcases g4 with ⟨G,q1,_,q2,q3⟩ | ⟨q0,q1,q2,g,want,d,v,q3,q4,q5,q6⟩
   ·have hw:Region.wanted o (yielded ops a.tmps)=true:=by
     rcases q3 with hg | ⟨g,want,d,b,hg,hd,hv,hb⟩
     ·simp [Region.wanted,hg]
     ·obtain ⟨v',k1,k2⟩:=fI d (A0 hg hd) _ hv;rw [k2.kg] at k1;have hy:=yt (ops:=ops) (tmps:=a.tmps) (j:=g) (d:=d) (by simpa [bT] using hd)
      rw [k1] at hy;simp only [Region.wanted,hg,hy];rw [← hb];cases b <;> cases want <;> rfl
    rw [if_pos hw];refine q2 ν a w r n (fun x hx t ht v hv=>fI t ?_ v hv) (hi.hp.sA fun id b hb=>?_) nf _ Q after
    ·unfold jq;exact List.mem_append_left _ (pT (by rw [ht] at hx; simpa using hx))
    ·exact hG q1 id b hb
   ·have hw:Region.wanted o (yielded ops a.tmps)=false:=by
     obtain ⟨v',k1,k2⟩:=fI d (A0 q3 q4) _ q5;have hy:=yt (ops:=ops) (tmps:=a.tmps) (j:=g) (d:=d) (by simpa [bT] using q4)
     rw [k1] at hy;rcases q6 with ⟨b,rfl,hb⟩ | ⟨vs,rfl⟩
     ·rw [k2.kg] at hy;simp only [Region.wanted,q3,hy];rw [← hb];cases b <;> cases want <;> rfl
     ·obtain ⟨ys,rfl,_⟩:=ar.nN (xs:=vs.toList) k2;simp only [Region.wanted,q3,hy]
      rfl
    rw [if_neg (by rw [hw]; simp)]
    refine ⟨fun _ _=>trivial,after undef w ν ⟨ν.le_refl,fun _ _=>rfl,by rw [q1]; exact .undef ν,.inl (Below.refl _ _),fun _=>rfl,(fun b hb=>by rw [q2] at hb; cases hb)⟩⟩
theorem VI (hm:P.follows .mixedOrders=true):nz P Pk:=by
 intro E hE r n F bO ops Q id ν tmps H a w k hi h hk;obtain ⟨m,aU,bf,h⟩:=h;have h:=mn h;obtain ⟨P5,h⟩:=yu h;have hc:=KT bf;obtain ⟨rs,es,iU,jl,km,gw⟩:=Lp (P:=P) hE.toEnvOk (ops:=ops.toList) (t0:=tmps) (H:=H) (aU:=aU) (l:=ops.toList.take m) (ms:=aU) (j:=0) (rs:=[]) (es:=[]) rfl rfl (fun p i hp=>by simp at hp)
  (fun i o ho=>by
   rw [List.getElem?_take] at ho
   split at ho
   ·simpa using ho
   ·cases ho)
  (fun i _=>by simp) (fun i hi=>by omega) h
 have gw:=ue gw;have hlen:0+(ops.toList.take m).length=m:=by rw [List.length_take]; omega
 rw [hlen] at iU jl km gw;refine wpIn_region_any hm ?_;have hD:DB (Array.replicate ops.size false)=fun _=>false:=by
  funext i
  unfold DB;by_cases h:i < ops.size <;> simp [h]
 refine Tg (F:=F) hc.toOrder (by have:=hc.le; simpa using this) hc.apart (fun j hj hm i hi=>hc.tail j (by simpa using hj) hm i (by omega)) jl km ?_ ops.size _ ν a _ (by simp) (fun j o hj=>by rw [hD] at hj; cases hj) (fun i aR=>by rw [hD] at aR; cases aR) ?_ (fun i _ _=>hi.fr _ (by omega)) ?_
 ·intro fuel aE ν a w hs eY al cZ hi hu;have hle:m≤ops.size:=by have:=hc.le; simpa using this
  have hD:∀ i,DB aE i=decide (i < m):=fun i=>by
   by_cases h:i < m
   ·rw [cZ i h]; simp [h]
   ·cases hd:DB aE i with
    | true=>exact absurd (al i hd) h
    | false=>simp [h]
  have e1:bd ops.toList rs (DB aE) tmps m=bd ops.toList rs (fun i=>decide (i < m)) tmps m:=yj (fun i _=>hD i)
  have e2:jg es rs (DB aE) m=jh es rs:=by
   unfold jh;rw [iU];rw [show DB aE=fun i=>decide (i < m) from funext hD]
  rw [e1,e2] at hi;exact Fy hE bO hc.toOrder hc.tail hk fuel aE m ν _ _ a w hs hD (Nat.le_refl _) hle hi gw (by
   have:=EE hD ops.size hle; omega)
 ·rw [hD];have e1:bd ops.toList rs (fun _=>false) tmps m=tmps:=wz (j:=0) (by omega) (fun _ _ _=>rfl)
  rw [e1];have kR:Below w.heap.size w { w with drawn:=w.drawn+1 }:=⟨rfl,rfl,rfl,Nat.le_refl _,fun _ _=>rfl⟩
  refine ⟨hi.tm,hi.df.below kR,(hi.hp.below kR).sA (fun id c cF=>?_),fun id bo=>hi.fr id (by rw [List.length_append] at bo; omega),hi.kp.below kR,fun id c lc cF oo dI=>?_,hi.mono⟩
  ·rw [List.getElem?_append] at cF
   split at cF
   ·exact cF
   ·have:=(wA.1 cF).2.1; cases this
  ·rw [List.getElem?_append] at cF
   split at cF
   ·exact hi.own id c lc cF oo dI
   ·have:=(wA.1 cF).2.1; cases this
 ·unfold gF;have:=List.length_filter_le (fun i=>!DB (Array.replicate ops.size false) i) (List.range ops.size)
  simpa using this
end
open Go Go.RowKit
inductive nY where
 | leaf
 | br (i:Nat) (sub rest:nY)
def nY.alts:nY→List Nat
 | .leaf=>[]
 | .br i _ rest=>i::rest.alts
def uI (ops:Array Oper):nY→Nat→Bool→Array Bool→Bool
 | .leaf,_,true,l=>(Region.ready .any ops l).isEmpty
 | .leaf,_,false,_=>true
 | .br _ _ _,0,_,_=>false
 | .br i sub rest,n+1,first,l=>(!first || (Region.ready .any ops l == (nY.br i sub rest).alts)) && uI ops sub n true (l.setIfInBounds i true) && uI ops rest (n+1) false l
def Is:List Oper→Nat→(Oper→Prop)→Prop
 | [],_,_=>False
 | o::_,0,k=>k o
 | _::l,i+1,k=>Is l i k
theorem Mi:∀ {l:List Oper} {i:Nat} {k:Oper→Prop},Is l i k→∃ o,l[i]?=some o∧k o
 | [],i,k,h=>h.elim
 | o::_,0,k,h=>⟨o,rfl,h⟩
 | _::l,i+1,k,h=>by
  obtain ⟨o,h1,J⟩:=Mi (l:=l) h;exact ⟨o,by simpa using h1,J⟩
def C0 (E:Env) (ops:List Oper):nY→Bool→List Value→ay→SK→Prop
 | .leaf,true,t,H,k=>k t H
 | .leaf,false,_,_,_=>True
 | .br i sub rest,_,t,H,k=>(Is ops i fun o=>xu E ops o t H fun t' H'=>C0 E ops sub true t' H' k)∧C0 E ops rest false t H k
def cR (E:Env) (ops:List Oper) (t:List Value) (H:ay) (k:SK):Prop :=
 Ph E ops t H k∨(∃ T:nY,uI ops.toArray T ops.length true (Array.replicate ops.length false)=true∧C0 E ops T true t H k)∨Pj E ops t H k∨Pk E ops t H k
section
variable {P:Program} {E:Env} {r:Option Nat} {n:Nat} {F:Fr}
theorem Th (hE:jX P E) (bO:lf F E) {ops:Array Oper} {Q:Exit→Act→World→Prop} {k:SK} (hk:∀ ν t' H' a' w',bz F ν t' H' a' w'→k t' H'→Q .normal a' w') :
  ∀ (T:nY) (fuel:Nat) (first:Bool) (aE:Array Bool) (ν:Nu) (t:List Value) (H:ay) (a:Act) (w:World),uI ops T fuel first aE=true→bz F ν t H a w→C0 E ops.toList T first t H k →
  (first=true→wpAnyIn (WF r) n P .any ops Q fuel aE a w)∧(first=false→∀ m,fuel=m+1→∀ i∈T.alts,wpOpIn (WF r) n P ops Q i (wpAnyIn (WF r) n P .any ops Q m (aE.setIfInBounds i true)) a w):=by
 intro T
 induction T with
 | leaf =>
  intro fuel first aE ν t H a w bf hi h;cases first with
  | true =>
   refine ⟨fun _=>?_,fun h=>by cases h⟩
   have hr:Region.ready .any ops aE=[]:=by
    have:(Region.ready .any ops aE).isEmpty=true:=by simpa [uI] using bf
    simpa using this
   have hq:Q .normal a w:=hk _ _ _ _ _ hi h;cases fuel with
   | zero=>exact ⟨hr,hq⟩
   | succ f=>exact ⟨fun _=>hq,fun i aR=>by rw [hr] at aR; cases aR⟩
  | false=>exact ⟨(fun h=>by cases h),fun _ m _ i aR=>by cases aR⟩
 | br j sub rest ihs ihr =>
  intro fuel first aE ν t H a w bf hi h;cases fuel with
  | zero=>simp [uI] at bf
  | succ f =>
   simp only [uI,Bool.and_eq_true,Bool.or_eq_true] at bf;obtain ⟨⟨h1,J⟩,h3⟩:=bf;obtain ⟨hs,zC⟩:=h;have cZ:∀ i∈(nY.br j sub rest).alts,wpOpIn (WF r) n P ops Q i (wpAnyIn (WF r) n P .any ops Q f (aE.setIfInBounds i true)) a w:=by
    intro i aR;simp only [nY.alts,List.mem_cons] at aR;rcases aR with rfl | aR
    ·obtain ⟨o,ho,hs⟩:=Mi hs;unfold wpOpIn;have Jt:ops[i]?=some o:=by simpa using ho
     rw [Jt];exact E6 hE bO hi hs (fun ν t' H' a' w' ik h'=>(ihs f true _ ν t' H' a' w' J ik h').1 rfl)
    ·exact (ihr (f+1) false aE ν t H a w h3 hi zC).2 rfl f rfl i aR
   refine ⟨fun hf=>?_,fun _ m hm=>?_⟩
   ·subst hf;have hr:Region.ready .any ops aE=(nY.br j sub rest).alts:=by
     rcases h1 with h1 | h1
     ·cases h1
     ·exact eq_of_beq h1
    refine ⟨(fun hn=>by rw [hr] at hn; cases hn),fun i aR=>cZ i (by rw [← hr]; exact aR)⟩
   ·have:f=m:=by omega
    subst this;exact cZ
theorem VJ (hm:P.follows .mixedOrders=true):nz P cR:=by
 intro E hE r n F bO ops Q id ν tmps H a w k hi h hk;rcases h with h | ⟨T,bf,h⟩ | h | h
 ·exact VE hm E hE r n F bO ops Q id ν tmps H a w k hi h hk
 ·refine wpIn_region_any hm ?_;have kR:Below w.heap.size w { w with drawn:=w.drawn+1 }:=⟨rfl,rfl,rfl,Nat.le_refl _,fun _ _=>rfl⟩
  have ik:bz F ν tmps H a { w with drawn:=w.drawn+1 }:=⟨hi.tm,hi.df.below kR,hi.hp.below kR,hi.fr,hi.kp.below kR,hi.own,hi.mono⟩
  have:=(Th (r:=r) (n:=n) hE bO (ops:=ops) hk T ops.toList.length true _ ν tmps H a _ (by simpa using bf) ik h).1 rfl
  simpa using this
 ·exact VH hm E hE r n F bO ops Q id ν tmps H a w k hi h hk
 ·exact VI hm E hE r n F bO ops Q id ν tmps H a w k hi h hk
end
open Go Go.RowKit
inductive fp:Value→Value→Prop
 | refl (v:Value):fp v v
 | cap (a:Addr) (n c:Nat) (h:a.spot=none):fp (.slice (some a) n c) (.slice (some a) n aO)
 | two {x y x' y':Value} (h:fp x x') (hs:fp y y'):fp (.tuple ⟨[x,y]⟩) (.tuple ⟨[x',y']⟩)
 | three {x y z x' y' z':Value} (h:fp x x') (hs:fp y y') (hz:fp z z'):fp (.tuple ⟨[x,y,z]⟩) (.tuple ⟨[x',y',z']⟩)
theorem ar.Q8 {ν:Nu} {xs ys:List Value} (h:bg ν xs ys):ar ν (.tuple ⟨xs⟩) (.tuple ⟨ys⟩):=.tuple _ _ h.1 h.2
theorem ar.Iu {ν:Nu} {v v':Value} (h:fp v v'):∀ {r},ar ν v r→ar ν v' r:=by
 induction h with
 | refl v=>exact fun h=>h
 | cap a n c hs =>
  intro r hr;obtain ⟨b,o,sp⟩:=a;have hs:sp=none:=hs;subst hs;cases hr with
  | slice _ _ _ _ c' l h hc hn hr=>exact .slice _ _ _ _ c' l h (.inr rfl) hn hr
  | void _ _ _ a hc=>exact .void _ _ _ a (.inr rfl)
 | two h hs i1 i2 =>
  intro r hr;obtain ⟨ys,rfl,hy⟩:=hr.nN;obtain ⟨a,ys,rfl,k1,hy⟩:=hy.js;obtain ⟨b,ys,rfl,k2,hy⟩:=hy.js;rw [hy.ja];exact .Q8 (.cons (i1 k1) (.cons (i2 k2) (.nil ν)))
 | three h hs hz i1 i2 i3 =>
  intro r hr;obtain ⟨ys,rfl,hy⟩:=hr.nN;obtain ⟨a,ys,rfl,k1,hy⟩:=hy.js;obtain ⟨b,ys,rfl,k2,hy⟩:=hy.js;obtain ⟨c,ys,rfl,k3,hy⟩:=hy.js;rw [hy.ja];exact .Q8 (.cons (i1 k1) (.cons (i2 k2) (.cons (i3 k3) (.nil ν))))
def hJ (S:aY) (i:S.ι) (v:Value) (H:ay):Prop :=
 match S.new i with
 | none=>∃ v',cT (List.range (S.ah i).length) 3 (S.val i)=some v'∧fp v v'
 | some b=>∃ p,gR H p fun c=>(c.own=true∧aD b c)∧∃ v',cT (List.range (S.ah i).length++[p]) 3 (S.val i)=some v'∧fp v v'
section
variable {P:Program} {E:Env} {D:Env→List Oper→List Value→ay→SK→Prop}
theorem tO {l:List ai} {id:Nat} {b:ai} (h:(l.map some)[id]?=some (some b)):l[id]?=some b:=by
 rw [List.getElem?_map] at h;cases e:l[id]? with
 | none=>rw [e] at h; cases h
 | some b'=>rw [e] at h; simp at h; rw [h]
theorem UB {m p j:Nat} (h:j < m):(List.range m++[p])[j]?=some j:=by
 rw [List.getElem?_append_left (by simpa using h),List.getElem?_range h]
theorem eJ {S:aY} (hE:EnvOk P E) (hD:nz P D) {f:FuncId} {fn:Func} (hf:P.funcs[f]?=some fn) (oj:∀ args w,(callFunc f args).run P w=.ok (.enter f args) w)
  (nC:∀ i b,b∈S.ah i→b.own=false) (s8:∀ i b,S.new i=some b→b.jc=true)
  (h:∀ i,S.pre i→cD E D fn (S.args i) ((S.ah i).map some) (hJ S i))
  (hI:iC P E:=by exact iC.none rfl) (hy:E.ys=[]:=by rfl) (hu:E.nu=(fun _=>none):=by rfl):dq P f S:=by
 refine ⟨oj,nC,s8,fun i hp ν as w n has hH gz=>?_⟩
 refine yG (O:=fun _=>False) (ν:=ν) (hE.x hI hy) hD hf (h i hp) has hH (fun id bo=>gz id (by simpa using bo)) (fun id b l hb ho=>?_) (Cb hu) ?_
 ·rw [nC i b (List.mem_of_getElem? (tO hb))] at ho; cases ho
 intro aj v v' t H' a w' hi hk hv;have hb:Below w.heap.size w w':=⟨hi.kp.os,hi.kp.tape,hi.kp.output,hi.kp.size,fun k hk=>hi.kp.aI k hk (fun h=>h)⟩
 unfold hJ at hk
 split at hk
 ·rename_i dA;obtain ⟨v2,n6,Av⟩:=hk;have h1:=wG 3 _ _ _ n6 (ar.Iu Av hv);refine ⟨v',ν,rfl,⟨ν.le_refl,fun _ _=>rfl,h1.mono (fun j lj hj=>?_),hb,fun _=>rfl,(fun b hb=>by rw [dA] at hb; cases hb)⟩⟩
  unfold Nu.comp at hj;by_cases al:j < (S.ah i).length
  ·rw [List.getElem?_range al] at hj;have hj:aj j=some lj:=hj;obtain ⟨l0,e1,_⟩:=hH.aI j ((S.ah i)[j]) (by simp [al])
   have:=hi.mono j l0 e1;rw [hj] at this; cases this;exact e1
  ·have:(List.range (S.ah i).length)[j]?=none:=List.getElem?_eq_none (by simp; omega)
   rw [this] at hj; cases hj
 ·rename_i b dA;obtain ⟨p,hk⟩:=hk;obtain ⟨c,hc,⟨ho,hle⟩,v2,n6,Av⟩:=gK hk;obtain ⟨l,hl,hB⟩:=hi.hp.aI p c hc;have vI:ν (S.ah i).length=none:=gz _ (Nat.le_refl _);refine ⟨v',ν.add (S.ah i).length l,rfl,⟨Nu.ki vI,fun id bo=>Nu.jb bo,?_,hb,(fun h=>by rw [dA] at h; cases h),(fun b' bB=>?_)⟩⟩
  ·have h1:=wG 3 _ _ _ n6 (ar.Iu Av hv);refine h1.mono (fun j lj hj=>?_)
   unfold Nu.comp at hj;rcases Nat.lt_trichotomy j (S.ah i).length with al | he | QE
   ·rw [UB al] at hj;have hj:aj j=some lj:=hj;obtain ⟨l0,e1,_⟩:=hH.aI j ((S.ah i)[j]) (by simp [al])
    have:=hi.mono j l0 e1;rw [hj] at this; cases this;rw [Nu.jb (by omega)]; exact e1
   ·subst he;have:(List.range (S.ah i).length++[p])[(S.ah i).length]?=some p:=by simp
    rw [this] at hj;have hj:aj p=some lj:=hj;rw [hl] at hj; cases hj;exact Nu.add_same
   ·have:(List.range (S.ah i).length++[p])[j]?=none:=List.getElem?_eq_none (by simp; omega)
    rw [this] at hj; cases hj
  ·rw [dA] at bB; cases bB;refine ⟨l,Nu.add_same,hB.le ⟨hle,by have:=s8 i b dA; cases b <;> first | rfl | cases this⟩,?_⟩
   rcases hi.own p c l hc ho hl with h | h
   ·exact h.elim
   ·exact h
structure zD where
 ι:Type
 args:ι→List Value
 ah:ι→List ai
 pre:ι→Prop
 val:ι→Value
 post:ι→List ai
 new:ι→List ai
def xx (H:ay):List Nat→List ai→List ai→(ay→Prop)→Prop
 | [],[],[],k=>k H
 | s::σ,b::bs,p::ps,k=>match b.own with
  | true=>match p with
   | .cj _=>False
   | p=>jy H s (some p) fun H'=>xx H' σ bs ps k
  | false=>xx H σ bs ps k
 | _,_,_,_=>False
def Cd (H:ay):List ai→(ay→Prop)→Prop
 | [],k=>k H
 | b::bs,k=>match b with
  | .cj _=>False
  | b=>o5 H (some b) fun H'=>Cd H' bs k
def xg:Nat→Nat→List Nat
 | _,0=>[]
 | a,n+1=>a::xg (a+1) n
def Dp:List ai→Nat
 | []=>0
 | _::l=>Dp l+1
def Aw (S:zD):FT:=fun args H K=>∃ (i:S.ι) (σ:List Nat),mG σ 3 (S.args i)=some args∧S.pre i∧σ.Nodup∧zm H σ (S.ah i) (jz H fun n0=>xx H σ (S.ah i) (S.post i) fun H1=>Cd H1 (S.new i) fun H2 =>
 ∃ v,cT (σ++xg n0 (Dp (S.new i))) 3 (S.val i)=some v∧qn v fun v=>K v H2)
def zU (S:zD) (i:S.ι) (v:Value) (H:ay):Prop :=
 ∃ ps:List Nat,ps.Nodup∧(∀ p∈ps,(S.ah i).length≤p)∧ps.length=(S.new i).length ∧
  (∀ (j:Nat) (b q:ai),(S.ah i)[j]?=some b→(S.post i)[j]?=some q→b.own=true→∃ c,H[j]?=some (some c)∧c.own=true∧aD q c) ∧
  (∀ (j p:Nat) (b:ai),ps[j]?=some p→(S.new i)[j]?=some b→∃ c,H[p]?=some (some c)∧c.own=true∧aD b c) ∧
  ∃ v',cT (List.range (S.ah i).length++ps) 3 (S.val i)=some v'∧fp v v'
theorem Lq:∀ {n a j:Nat},(xg a n)[j]?=if j < n then some (a+j) else none
 | 0,a,j=>by simp [xg]
 | n+1,a,0=>by simp [xg]
 | n+1,a,j+1=>by
  have:=Lq (n:=n) (a:=a+1) (j:=j);simp only [xg,List.getElem?_cons_succ,this];by_cases h:j < n
  ·rw [if_pos h,if_pos (by omega)]; congr 1; omega
  ·rw [if_neg h,if_neg (by omega)]
theorem NQ:∀ {l:List ai},Dp l=l.length
 | []=>rfl
 | _::l=>by simp [Dp,NQ (l:=l)]
theorem Kw:∀ {bs:List ai} {H:ay} {k:ay→Prop},Cd H bs k→k (H++bs.map some)∧∀ b∈bs,b.rc=none
 | [],H,k,h=>by
  have h:k H:=h;exact ⟨by simpa using h,fun b hb=>by cases hb⟩
 | b::bs,H,k,h=>by
  have h:b.rc=none∧o5 H (some b) fun H'=>Cd H' bs k:=by
   cases b with
   | aS o e r=>exact ⟨rfl,h⟩
   | flat o n e g=>exact ⟨rfl,h⟩
   | cj r=>exact h.elim
  have:=Kw (bs:=bs) (yp h.2);refine ⟨by simpa using this.1,fun c hc=>?_⟩
  rcases List.mem_cons.1 hc with rfl | hc
  ·exact h.1
  ·exact this.2 c hc
theorem E9:∀ {σ:List Nat} {bs ps:List ai} {H:ay} {k:ay→Prop},σ.Nodup→xx H σ bs ps k→∃ H1,k H1∧H1.length=H.length∧(∀ id,id ∉ σ→H1[id]?=H[id]?) ∧
  ∀ (j s:Nat) (b:ai),σ[j]?=some s→bs[j]?=some b→(b.own=true→∃ p,ps[j]?=some p∧H1[s]?=some (some p)∧p.rc=none)∧(b.own=false→H1[s]?=H[s]?)
 | [],[],[],H,k,_,h=>⟨H,h,rfl,fun _ _=>rfl,fun j s b hj=>by simp at hj⟩
 | s::σ,b::bs,p::ps,H,k,hn,h=>by
  obtain ⟨hs,hn⟩:=List.nodup_cons.1 hn;unfold xx at h
  split at h
  ·rename_i ho;have Ju:p.rc=none∧jy H s (some p) fun H'=>xx H' σ bs ps k:=by
    cases p with
    | aS o e r=>exact ⟨rfl,h⟩
    | flat o n e g=>exact ⟨rfl,h⟩
    | cj r=>exact h.elim
   obtain ⟨Ju,h⟩:=Ju;obtain ⟨al,h⟩:=ml h;obtain ⟨H1,h1,J,h3,h4⟩:=E9 hn h;refine ⟨H1,h1,by rw [J]; simp,fun id bo=>?_,fun j s' b' hj hb=>?_⟩
   ·rw [List.mem_cons,not_or] at bo;rw [h3 id bo.2,List.getElem?_set_ne (Ne.symm bo.1)]
   ·cases j with
    | zero =>
     simp at hj hb; subst hj; subst hb;refine ⟨fun _=>⟨p,rfl,?_,Ju⟩,(fun h=>by rw [ho] at h; cases h)⟩
     rw [h3 s hs,List.getElem?_set_self al]
    | succ j =>
     obtain ⟨h5,h6⟩:=h4 j s' b' (by simpa using hj) (by simpa using hb)
     refine ⟨fun h=>by simpa using h5 h,fun h=>?_⟩
     rw [h6 h,List.getElem?_set_ne];intro e;subst e;exact hs (List.mem_of_getElem? (by simpa using hj))
  ·rename_i ho;obtain ⟨H1,h1,J,h3,h4⟩:=E9 hn h;refine ⟨H1,h1,J,fun id bo=>?_,fun j s' b' hj hb=>?_⟩
   ·rw [List.mem_cons,not_or] at bo;exact h3 id bo.2
   ·cases j with
    | zero =>
     simp at hj hb; subst hj; subst hb;exact ⟨(fun h=>by rw [ho] at h; cases h),fun _=>h3 s hs⟩
    | succ j=>simpa using h4 j s' b' (by simpa using hj) (by simpa using hb)
 | [],_::_,_,H,k,_,h=>by cases h
 | [],[],_::_,H,k,_,h=>by cases h
 | _::_,[],_,H,k,_,h=>by cases h
 | _::_,_::_,[],H,k,_,h=>by cases h
theorem OE {S:zD} (hE:EnvOk P E) (hD:nz P D) {f:FuncId} {fn:Func} (hf:P.funcs[f]?=some fn) (oj:∀ args w,(callFunc f args).run P w=.ok (.enter f args) w)
  (h:∀ i,S.pre i→cD E D fn (S.args i) ((S.ah i).map some) (zU S i))
  (hI:iC P E:=by exact iC.none rfl) (hy:E.ys=[]:=by rfl) (hu:E.nu=(fun _=>none):=by rfl):gu P f (Aw S):=by
 refine ⟨oj,fun args H K hFT ν as w n O has hH gz ky=>?_⟩
 obtain ⟨i,σ,n6,hp,fh,oi⟩:=hFT;obtain ⟨hlen,hσ,oi⟩:=E2 oi;obtain ⟨H1,oi,kF,ad6,Qa⟩:=E9 fh (mn oi);obtain ⟨⟨v2,Pm,hK⟩,ad7⟩:=Kw oi;have hK:=v9 hK;rw [NQ] at Pm;have nX:=uc (wG (ν:=ν) 3) n6 has
 -- the callee's blocks
 let Oc:Nat→Prop:=fun x=>∃ (j s:Nat) (b:ai) (l:Loc),σ[j]?=some s∧(S.ah i)[j]?=some b∧b.own=true∧ν s=some l∧x=l.aI
 have sS:∀ (j:Nat) (b:ai),(S.ah i)[j]?=some b→∃ s,σ[j]?=some s∧∃ c l,H[s]?=some (some c)∧Cy b c∧ν s=some l∧bQ ν l c w:=by
  intro j b hb;have al:j < σ.length:=by rw [hlen]; exact (List.getElem?_eq_some_iff.1 hb).1
  obtain ⟨c,h1,J⟩:=hσ j _ b (List.getElem?_eq_getElem al) hb;obtain ⟨l,h3,h4⟩:=hH.aI _ _ h1;exact ⟨_,List.getElem?_eq_getElem al,c,l,h1,J,h3,h4⟩
 have ng:∀ (j s:Nat),σ[j]?=some s→(ν.comp σ) j=ν s:=fun j s hj=>by simp [Nu.comp,hj]
 have Jv:bS (ν.comp σ) ((S.ah i).map some) w:=by
  refine ⟨fun j b hj=>?_,fun j q bj bq lj lq hj hq aJ ho e1 e2=>?_⟩
  ·obtain ⟨s,h1,c,l,J,h3,h4,h5⟩:=sS j b (tO hj);exact ⟨l,by rw [ng j s h1,h4],h5.le h3⟩
  ·obtain ⟨s,h1,c,l,J,h3,h4,h5⟩:=sS j bj (tO hj);obtain ⟨s',fg,c',l',j7,tg,rf,Ax⟩:=sS q bq (tO hq);rw [ng j s h1,h4] at e1; obtain rfl:=Option.some.inj e1;rw [ng q s' fg,rf] at e2; obtain rfl:=Option.some.inj e2;refine hH.sep s s' c c' _ _ J j7 (fun e=>aJ ?_) (ai.cY (h3.own ho).1).1 h4 rf
   subst e;exact (List.getElem?_inj (List.getElem?_eq_some_iff.1 h1).1 fh).1 (h1.trans fg.symm)
 have ad8:∀ id,((S.ah i).map some).length≤id→(ν.comp σ) id=none:=by
  intro id bo;rw [List.length_map] at bo;simp [Nu.comp,List.getElem?_eq_none (show σ.length≤id by omega)]
 have acz:∀ id b l,((S.ah i).map some)[id]?=some (some b)→b.own=true→(ν.comp σ) id=some l→Oc l.aI:=by
  intro id b l hb ho hl;obtain ⟨s,h1,c,l',J,h3,h4,h5⟩:=sS id b (tO hb);rw [ng id s h1,h4] at hl; obtain rfl:=Option.some.inj hl;exact ⟨id,s,b,_,h1,tO hb,ho,h4,rfl⟩
 have re:∀ x,Oc x→O x:=by
  rintro x ⟨j,s,b,l,h1,J,h3,h4,rfl⟩
  obtain ⟨s',fg,c,l',j7,tg,rf,_⟩:=sS j b J;rw [h1] at fg; cases fg;exact ky s c l j7 (ai.cY (tg.own h3).1).1 h4
 refine yG (O:=Oc) (ν:=ν.comp σ) (hE.x hI hy) hD hf (h i hp) nX Jv ad8 acz (Cb hu) ?_;intro dR v v' t H' a w' hi hk hv;obtain ⟨ps,hpn,ad9,lh,acA,dA,v3,acB,Av⟩:=hk;have sR:(ν.comp σ).le dR:=hi.mono
 let aj:Nu:=fun id=>if id < H.length then ν id else (ps[id - H.length]?).bind dR
 have uJ:∀ id,id < H.length→aj id=ν id:=fun id h=>by simp only [aj]; rw [if_pos h]
 have r9:∀ j p,ps[j]?=some p→aj (H.length+j)=dR p:=fun j p h=>by
  simp only [aj]; rw [if_neg (by omega),Nat.add_sub_cancel_left,h]; rfl
 have HI:ν.le aj:=by
  intro id l bo;have:id < H.length:=by
   rcases Nat.lt_or_ge id H.length with h | h
   ·exact h
   ·rw [gz id h] at bo; cases bo
  rw [uJ id this]; exact bo
 -- own blocks of the arguments, behind the call
 have Pn:∀ (j s:Nat) (b:ai) (l:Loc),σ[j]?=some s→(S.ah i)[j]?=some b→b.own=true→ν s=some l→∃ q c,(S.post i)[j]?=some q∧H1[s]?=some (some q)∧H'[j]?=some (some c)∧c.own=true∧Cy q c∧dR j=some l:=by
  intro j s b l h1 J h3 h4;obtain ⟨q,h5,h6,h60⟩:=(Qa j s b h1 J).1 h3;obtain ⟨c,h7,h8,h9⟩:=acA j b q J h5 h3;exact ⟨q,c,h5,h6,h7,h8,⟨h9,h60⟩,sR j l (by rw [ng j s h1]; exact h4)⟩
 -- a block that the callee does not own has not turned
 have HG:∀ (id:Nat) (b:ai) (l:Loc),H[id]?=some (some b)→ν id=some l→(∀ (j:Nat) (c:ai),σ[j]?=some id→(S.ah i)[j]?=some c→c.own=false)→¬ Oc l.aI∧w'.heap[l.aI]?=w.heap[l.aI]?:=by
  intro id b l hb hl rj;obtain ⟨l0,e1,hB⟩:=hH.aI id b hb;rw [hl] at e1; cases e1;have Q9:¬ Oc l.aI:=by
   rintro ⟨j,s,bj,lj,h1,J,h3,h4,h5⟩
   obtain ⟨s',fg,c,l',j7,tg,rf,_⟩:=sS j bj J;rw [h1] at fg; cases fg;have aJ:s≠id:=by
    intro e;subst e;have:=rj j bj h1 J;rw [h3] at this; cases this
   exact hH.sep s id c b lj l j7 hb aJ (ai.cY (tg.own h3).1).1 h4 hl h5.symm
  exact ⟨Q9,hi.kp.aI _ hB.live Q9⟩
 -- the callee's new blocks
 have acC:∀ (j p:Nat) (b:ai),ps[j]?=some p→(S.new i)[j]?=some b→∃ c l,H'[p]?=some (some c)∧c.own=true∧aD b c∧dR p=some l∧bQ dR l c w'∧w.heap.size≤l.aI:=by
  intro j p b h1 J;obtain ⟨c,h3,h4,h5⟩:=dA j p b h1 J;obtain ⟨l,h6,h7⟩:=hi.hp.aI p c h3;refine ⟨c,l,h3,h4,h5,h6,h7,?_⟩;rcases hi.own p c l h3 h4 h6 with ⟨j',s,b',l',k1,k2,k3,k4,k5⟩ | h
  ·obtain ⟨q,c',_,_,k6,k7,_,k8⟩:=Pn j' s b' l' k1 k2 k3 k4;have al:j' < (S.ah i).length:=(List.getElem?_eq_some_iff.1 k2).1;have:=ad9 p (List.mem_of_getElem? h1);exact absurd k5 (hi.hp.sep p j' c c' l l' h3 k6 (by omega) h4 h6 k8)
  ·exact h
 -- which blocks there are behind the call
 have xt:∀ (id:Nat) (b:ai),(H1++(S.new i).map some)[id]?=some (some b)→
   (id < H.length∧∃ b0 l,H[id]?=some (some b0)∧ν id=some l∧(b.own=true→b0.own=true)∧bQ aj l b w'∧((∃ (j:Nat) (bj:ai),σ[j]?=some id∧(S.ah i)[j]?=some bj∧bj.own=true)∨(¬ Oc l.aI∧l.aI < w.heap.size))) ∨
   (∃ (j p:Nat) (c:ai) (l:Loc),id=H.length+j∧ps[j]?=some p∧(S.new i)[j]?=some b∧H'[p]?=some (some c)∧c.own=true∧dR p=some l∧bQ aj l b w'∧w.heap.size≤l.aI):=by
  intro id b hb;rw [List.getElem?_append] at hb
  split at hb
  ·rename_i al;rw [kF] at al;refine .inl ⟨al,?_⟩;by_cases gV:∃ (j:Nat) (bj:ai),σ[j]?=some id∧(S.ah i)[j]?=some bj∧bj.own=true
   ·obtain ⟨j,bj,h1,J,h3⟩:=gV;obtain ⟨s',fg,c,l,h4,h5,h6,h7⟩:=sS j bj J;rw [h1] at fg; cases fg;obtain ⟨q,c',h8,h9,Ay,Ra,h12,h13⟩:=Pn j id bj l h1 J h3 h6;rw [h9] at hb; cases hb;obtain ⟨l',Rb,h15⟩:=hi.hp.aI j c' Ay;rw [h13] at Rb; cases Rb;exact ⟨c,l,h4,h6,fun _=>(ai.cY (h5.own h3).1).1,h15.le h12,.inl ⟨j,bj,h1,J,h3⟩⟩
   ·have rj:∀ (j:Nat) (c:ai),σ[j]?=some id→(S.ah i)[j]?=some c→c.own=false:=by
     intro j c h1 J;cases h:c.own with
     | false=>rfl
     | true=>exact absurd ⟨j,c,h1,J,h⟩ gV
    have Jw:H[id]?=some (some b):=by
     by_cases pF:id∈σ
     ·obtain ⟨j,hj⟩:=List.getElem?_of_mem pF;have IQ:j < (S.ah i).length:=by rw [← hlen]; exact (List.getElem?_eq_some_iff.1 hj).1
      have:=(Qa j id _ hj (List.getElem?_eq_getElem IQ)).2 (rj j _ hj (List.getElem?_eq_getElem IQ));rw [← this]; exact hb
     ·rw [← ad6 id pF]; exact hb
    obtain ⟨l,h1,J⟩:=hH.aI id b Jw;obtain ⟨h3,h4⟩:=HG id b l Jw h1 rj;exact ⟨b,l,Jw,h1,fun h=>h,(J.same h4 hi.kp.size).mono HI,.inr ⟨h3,J.live⟩⟩
  ·rename_i eH;rw [kF] at hb eH;have hb:=tO hb;have al:id - H.length < ps.length:=by rw [lh]; exact (List.getElem?_eq_some_iff.1 hb).1
   obtain ⟨c,l,h1,J,h3,h4,h5,h6⟩:=acC _ _ b (List.getElem?_eq_getElem al) hb;exact .inr ⟨id - H.length,_,c,l,by omega,List.getElem?_eq_getElem al,hb,h1,J,h4,h5.le ⟨h3,ad7 b (List.mem_of_getElem? hb)⟩,h6⟩
 have aeM:∀ (j p:Nat),ps[j]?=some p→aj (H.length+j)=dR p:=r9;refine ⟨v2,v',aj,H1++(S.new i).map some,rfl,hK,?_,HI,⟨fun id b hb=>?_,fun p q bp bq lp lq IW I3 aJ ho e1 e2=>?_⟩,fun id bo=>?_,⟨hi.kp.os,hi.kp.tape,hi.kp.output,hi.kp.size,fun b h1 J=>hi.kp.aI b h1 (fun h=>J (re b h))⟩,fun id b l hb ho hl=>?_⟩
 ·have h1:=wG 3 _ _ _ acB (ar.Iu Av hv);refine FX 3 _ _ _ Pm (h1.mono (fun j lj hj=>?_))
  unfold Nu.comp at hj ⊢;by_cases al:j < (S.ah i).length
  ·rw [List.getElem?_append_left (by simpa using al),List.getElem?_range al] at hj
   have hj:dR j=some lj:=hj;obtain ⟨s,J,c,l,h3,h4,h5,_⟩:=sS j _ (List.getElem?_eq_getElem al);have:=sR j l (by rw [ng j s J]; exact h5)
   rw [hj] at this; cases this;rw [List.getElem?_append_left (List.getElem?_eq_some_iff.1 J).1,J];exact HI s lj h5
  ·rw [List.getElem?_append_right (by simp; omega)] at hj
   rw [List.length_range] at hj;rw [List.getElem?_append_right (by omega),Lq,hlen]
   cases tb:ps[j - (S.ah i).length]? with
   | none=>rw [tb] at hj; cases hj
   | some p =>
    rw [tb] at hj;have hj:dR p=some lj:=hj;have:=(List.getElem?_eq_some_iff.1 tb).1;rw [if_pos (by omega)]
    show aj (H.length+(j - (S.ah i).length))=_
    rw [r9 _ _ tb]; exact hj
 ·rcases xt id b hb with ⟨al,b0,l,h1,J,_,h3,_⟩ | ⟨j,p,c,l,rfl,h1,J,h3,h4,h5,h6,h7⟩
  ·exact ⟨l,by rw [uJ id al]; exact J,h3⟩
  ·exact ⟨l,by rw [r9 j p h1]; exact h5,h6⟩
 ·rcases xt p bp IW with ⟨al,b0,l,h1,J,h3,h4,h5⟩ | ⟨j,pp,c,l,rfl,h1,J,h3,h4,h5,h6,h7⟩ <;>
   rcases xt q bq I3 with ⟨qR,Rc,l',fg,j7,tg,rf,Ax⟩ | ⟨j',pp',c',l',rfl,fg,j7,tg,rf,Ax,h6',h7'⟩
  ·rw [uJ p al,J] at e1; cases e1;rw [uJ q qR,j7] at e2; cases e2;exact hH.sep p q b0 Rc _ _ h1 fg aJ (h3 ho) J j7
  ·rw [uJ p al,J] at e1; cases e1;rw [r9 _ _ fg,Ax] at e2; cases e2;have:=(hH.aI p b0 h1);obtain ⟨l0,e3,e4⟩:=this;rw [J] at e3; cases e3;have:=e4.live;omega
  ·rw [r9 _ _ h1,h5] at e1; cases e1;rw [uJ q qR,j7] at e2; cases e2;obtain ⟨l0,e3,e4⟩:=hH.aI q Rc fg;rw [j7] at e3; cases e3;have:=e4.live;omega
  ·rw [r9 _ _ h1,h5] at e1; cases e1;rw [r9 _ _ fg,Ax] at e2; cases e2;refine hi.hp.sep pp pp' c c' _ _ h3 tg (fun e=>aJ ?_) h4 h5 Ax
   subst e;rw [(List.getElem?_inj (List.getElem?_eq_some_iff.1 h1).1 hpn).1 (h1.trans fg.symm)]
 ·rw [List.length_append,List.length_map,kF] at bo;simp only [aj];rw [if_neg (by omega),List.getElem?_eq_none (by omega)]
  rfl
 ·rcases xt id b hb with ⟨al,b0,l',h1,J,h3,_⟩ | ⟨j,p,c,l',rfl,h1,J,h3,h4,h5,h6,h7⟩
  ·rw [uJ id al,J] at hl; cases hl;exact .inl (ky id b0 _ h1 (h3 ho) J)
  ·rw [r9 j p h1,h5] at hl; cases hl;exact .inr h7
end
open Go Go.RowKit
def Ce (P:Program) (g:TypeId→Option (Bool × List Value)):Nat→List Field→Option (List Value)
 | _,[]=>some []
 | o, f :: l => match Nat.beq f.offset o && (f.name != "_"), g f.type, P.info? f.type, P.underlying f.type with
  | true,some (b,z),some i,some d=>match Nat.beq i.size z.length && (uF d == b) && Nat.ble 1 z.length with
   | true=>match Ce P g (o+z.length) l with
    | some zs=>some (z++zs)
    | none=>none
   | false=>none
  | _,_,_,_=>none
def xy (P:Program):Nat→TypeId→Option (Bool × List Value)
 | 0,_=>none
 | d+1,t=>match P.underlying t with
  | some .bool=>some (false,[.bool false])
  | some (.int q)=>some (false,[.int q 0])
  | some .string=>some (false,[.string ⟨#[]⟩])
  | some (.struct fs)=>match P.stoodInHeld t with
   | true=>none
   | false=>match Ce P (xy P d) 0 fs.toList with
    | some z=>some (true,z)
    | none=>none
  | _=>none
theorem rL:∀ {l m:List Value},e9 l m=true→l.length=m.length
 | [],[],_=>rfl
 | .bool _::l,.bool _::m,h=>by simp [rL (l:=l) (m:=m) h]
 | .int q _::l,.int q' _::m,h=>by
  simp only [e9,Bool.and_eq_true] at h;simp [rL (l:=l) (m:=m) h.2]
 | .string _::l,.string _::m,h=>by simp [rL (l:=l) (m:=m) h]
def Jx (x v:Value):Prop:=(∃ a b,x=.bool a∧v=.bool b)∨(∃ q a b,x=.int q a∧v=.int q b)∨∃ a b,x=.string a∧v=.string b
theorem CD {xs z:List Value} {v:Value} (h:e9 xs (v::z)=true):∃ x l,xs=x::l∧Jx x v∧e9 l z=true:=by
 generalize e:v::z=w at h;unfold e9 at h
 split at h
 ·cases e
 ·cases e; exact ⟨_,_,rfl,.inl ⟨_,_,rfl,rfl⟩,h⟩
 ·cases e;simp only [Bool.and_eq_true,decide_eq_true_eq] at h;obtain ⟨rfl,h⟩:=h;exact ⟨_,_,rfl,.inr (.inl ⟨_,_,_,rfl,rfl⟩),h⟩
 ·cases e; exact ⟨_,_,rfl,.inr (.inr ⟨_,_,rfl,rfl⟩),h⟩
 ·cases h
theorem G7 {xs:List Value} (h:e9 xs []=true):xs=[]:=List.length_eq_zero_iff.1 (rL h)
theorem Xe {x v:Value} {l z:List Value} (h:Jx x v) (J:e9 l z=true):e9 (x::l) (v::z)=true:=by
 rcases h with ⟨a,b,rfl,rfl⟩ | ⟨q,a,b,rfl,rfl⟩ | ⟨a,b,rfl,rfl⟩
 ·exact J
 ·simp only [e9,decide_true,Bool.true_and]; exact J
 ·exact J
theorem Ex:∀ {z xs zs:List Value},e9 xs (z++zs)=true→∃ x1 x2,xs=x1++x2∧e9 x1 z=true∧e9 x2 zs=true
 | [],xs,zs,h=>⟨[],xs,rfl,rfl,h⟩
 | v::z,xs,zs,h=>by
  obtain ⟨x,l,rfl,h1,J⟩:=CD (z:=z++zs) h;obtain ⟨x1,x2,rfl,h3,h4⟩:=Ex J;exact ⟨x::x1,x2,rfl,Xe h1 h3,h4⟩
theorem Kg:∀ {z x1 y1 x2 y2:List Value},e9 x1 z=true→e9 y1 z=true→eU (x1++x2) (y1++y2)=(eU x1 y1 && eU x2 y2)
 | [],x1,y1,x2,y2,h1,J=>by
  rw [G7 h1,G7 J];simp [eU]
 | v::z,x1,y1,x2,y2,h1,J=>by
  obtain ⟨x,l,rfl,a1,a2⟩:=CD h1;obtain ⟨y,m,rfl,b1,b2⟩:=CD J;have ih:=Kg (x2:=x2) (y2:=y2) a2 b2;rcases a1 with ⟨p,_,rfl,rfl⟩ | ⟨q,p,_,rfl,rfl⟩ | ⟨p,_,rfl,rfl⟩
  all_goals
   rcases b1 with ⟨r,_,rfl,e⟩ | ⟨q',r,_,rfl,e⟩ | ⟨r,_,rfl,e⟩
  all_goals first | (cases e; done) | skip
  all_goals
   simp only [List.cons_append,eU,ih,Bool.and_assoc]
theorem xh {xs:List Value} {v:Value} (h:e9 xs [v]=true):∃ x,xs=[x]∧Jx x v:=by
 obtain ⟨x,l,rfl,h1,J⟩:=CD h;rw [G7 J];exact ⟨x,rfl,h1⟩
def toV (b:Bool) (xs:List Value):Value:=if b then .agg ⟨xs⟩ else xs.getD 0 undef
theorem Kx {P:Program} {d:Nat} (ih:∀ t b z,xy P d t=some (b,z)→∀ n xs ys w,e9 xs z=true→e9 ys z=true→(Op.equalIn (n+d) t (toV b xs) (toV b ys)).run P w=.ok (eU xs ys) w) (n:Nat) (w:World) (XS YS:List Value) :
  ∀ (l:List Field) (o:Nat) (z:List Value),Ce P (xy P d) o l=some z→∀ xs ys,e9 xs z=true→e9 ys z=true→(∀ j v,xs[j]?=some v→XS[o+j]?=some v)→(∀ j v,ys[j]?=some v→YS[o+j]?=some v) →
   (Op.eqFields (n+d) ⟨XS⟩ ⟨YS⟩ l).run P w=.ok (eU xs ys) w
 | [],o,z,h,xs,ys,h1,J,_,_=>by
  cases h;have e1:=rL h1;have e2:=rL J;have e1:xs=[]:=List.length_eq_zero_iff.1 e1;have e2:ys=[]:=List.length_eq_zero_iff.1 e2;subst e1; subst e2
  rfl
 | f::l,o,z,h,xs,ys,h1,J,hx,hy=>by
  unfold Ce at h
  split at h
  ·rename_i b z1 i dd hb hg hi hu
   split at h
   ·rename_i hc
    split at h
    ·rename_i zs hz;cases h;simp only [Bool.and_eq_true] at hb hc;obtain ⟨⟨c1,c2⟩,c3⟩:=hc;obtain ⟨x1,x2,rfl,og,lZ⟩:=Ex h1;obtain ⟨y1,y2,rfl,nw,oh⟩:=Ex J;have lx:=rL og;have ly:=rL nw;have bm:=Nat.eq_of_beq_eq_true c1;have Rd:yS P f (o,z1.length,b):=⟨Nat.eq_of_beq_eq_true hb.1,Nat.le_of_ble_eq_true c3,⟨i,hi,bm⟩,dd,hu,by simpa using c2⟩
     have p1:=FU Rd (cs:=XS) (vs:=x1) lx (fun j v hv=>hx j v (by rw [List.getElem?_append_left (by rw [List.getElem?_eq_some_iff] at hv; exact hv.1)]; exact hv)) w
     have p2:=FU Rd (cs:=YS) (vs:=y1) ly (fun j v hv=>hy j v (by rw [List.getElem?_append_left (by rw [List.getElem?_eq_some_iff] at hv; exact hv.1)]; exact hv)) w
     have p3:=ih f.type b z1 hg n x1 y1 w og nw;have p4:=Kx ih n w XS YS l (o+z1.length) zs hz x2 y2 lZ oh
      (fun j v hv=>by
       rw [Nat.add_assoc];refine hx _ v ?_;rw [List.getElem?_append_right (by omega),← lx,Nat.add_sub_cancel_left]
       exact hv)
      (fun j v hv=>by
       rw [Nat.add_assoc];refine hy _ v ?_;rw [List.getElem?_append_right (by omega),← ly,Nat.add_sub_cancel_left]
       exact hv)
     have aJ : f.name ≠ "_" := by simpa using hb.2
     unfold Op.eqFields;rw [if_pos aJ];unfold toV at p3;simp only [Sem.run_bind,p1,p2,Result.andThen_ok];rw [p3];simp only [Result.andThen_ok];rw [Kg og nw];cases eU x1 y1
     ·rfl
     ·simpa using p4
    ·cases h
   ·cases h
  ·cases h
theorem Lr {P:Program}:∀ (d:Nat) (t:TypeId) (b:Bool) (z:List Value),xy P d t=some (b,z)→∀ (n:Nat) (xs ys:List Value) (w:World),e9 xs z=true→e9 ys z=true →
  (Op.equalIn (n+d) t (toV b xs) (toV b ys)).run P w=.ok (eU xs ys) w
 | 0,t,b,z,h=>by cases h
 | d+1,t,b,z,h=>by
  intro n xs ys w h1 J;unfold xy at h
  split at h
  ·rename_i hu;cases h;obtain ⟨x,rfl,a1⟩:=xh h1;obtain ⟨y,rfl,a2⟩:=xh J;rcases a1 with ⟨x,_,rfl,e⟩ | ⟨_,x,_,rfl,e⟩ | ⟨x,_,rfl,e⟩
   all_goals first | (cases e; done) | skip
   rcases a2 with ⟨y,_,rfl,e⟩ | ⟨_,y,_,rfl,e⟩ | ⟨y,_,rfl,e⟩
   all_goals first | (cases e; done) | skip
   ·skip
    rw [show toV false [Value.bool x]=.bool x from rfl,show toV false [Value.bool y]=.bool y from rfl]
    rw [show n+(d+1)=(n+d)+1 from rfl,run_equalIn_bool' w (n+d) t x y hu]
    simp [eU]
  ·rename_i q hu;cases h;obtain ⟨x,rfl,a1⟩:=xh h1;obtain ⟨y,rfl,a2⟩:=xh J;rcases a1 with ⟨x,_,rfl,e⟩ | ⟨q1,x,_,rfl,e⟩ | ⟨x,_,rfl,e⟩
   all_goals first | (cases e; done) | skip
   cases e;rcases a2 with ⟨y,_,rfl,e⟩ | ⟨q2,y,_,rfl,e⟩ | ⟨y,_,rfl,e⟩
   all_goals first | (cases e; done) | skip
   cases e
   ·skip
    rw [show toV false [Value.int q x]=.int q x from rfl,show toV false [Value.int q y]=.int q y from rfl]
    rw [show n+(d+1)=(n+d)+1 from rfl,run_equalIn_int w (n+d) t q q x y hu]
    simp [eU]
  ·rename_i hu;cases h;obtain ⟨x,rfl,a1⟩:=xh h1;obtain ⟨y,rfl,a2⟩:=xh J;rcases a1 with ⟨x,_,rfl,e⟩ | ⟨_,x,_,rfl,e⟩ | ⟨x,_,rfl,e⟩
   all_goals first | (cases e; done) | skip
   rcases a2 with ⟨y,_,rfl,e⟩ | ⟨_,y,_,rfl,e⟩ | ⟨y,_,rfl,e⟩
   all_goals first | (cases e; done) | skip
   ·skip
    rw [show toV false [Value.string x]=.string x from rfl,show toV false [Value.string y]=.string y from rfl]
    rw [show n+(d+1)=(n+d)+1 from rfl,run_equalIn_string w (n+d) t x y hu]
    simp [eU]
  ·rename_i fs hu
   split at h
   ·cases h
   ·rename_i aw
    split at h
    ·rename_i z0 hz;cases h;have vL:P.fieldsOf t=fs:=by unfold Program.fieldsOf; rw [hu]
     show (Op.equalIn (n+(d+1)) t (.agg ⟨xs⟩) (.agg ⟨ys⟩)).run P w=_
     rw [show n+(d+1)=(n+d)+1 from rfl,run_equalIn_struct w (n+d) t ⟨xs⟩ ⟨ys⟩ (by rw [vL]; exact hu) aw,vL]
     exact Kx (Lr d) n w xs ys fs.toList 0 _ hz xs ys h1 J (fun j v hv=>by rw [Nat.zero_add]; exact hv) (fun j v hv=>by rw [Nat.zero_add]; exact hv)
    ·cases h
  ·cases h
theorem aea {P:Program} {t:TypeId} {z:List Value} (h:xy P 5 t=some (true,z)) (hg:P.eqGuardType P.depth t=false):xJ P t z:=by
 intro xs ys w h1 J;refine ⟨?_,fun x y op=>run_eqGuard_agg w op t x y ⟨xs⟩ ⟨ys⟩ hg⟩
 exact Lr 5 t true z h 9995 xs ys w h1 J
open Go Go.RowKit
def uW:Code→Option (Array Nat × Code × Code)
 | .rangeFunc _ ps a b=>some (ps,a,b)
 | .seq a b=>match uW a with
  | some x=>some x
  | none=>uW b
 | .block _ c=>uW c
 | .loop c=>uW c
 | .cond _ a b=>match uW a with
  | some x=>some x
  | none=>uW b
 | _=>none
def sT (f:Func) (fn:FuncId) (tm:Array Value) (df:Nat):Loop :=
 match f.body with
 | some c=>match uW c with
  | some (ps,a,b)=>⟨.ready,none,fn,tm,ps,a,b,df⟩
  | none=>⟨.ready,none,fn,tm,#[],.skip,.skip,df⟩
 | none=>⟨.ready,none,fn,tm,#[],.skip,.skip,df⟩
def cW (id:Nat):Nat→Value
 | 0=>.slice none 0 0
 | q+1=>.slice (some ⟨id,0,none⟩) (q+1) aO
def xO (e:Nat) (F:Nat→List Value):Nat→ay
 | 0=>[]
 | q+1=>[some (.flat true (q+1) e F)]
end Go.Ae
