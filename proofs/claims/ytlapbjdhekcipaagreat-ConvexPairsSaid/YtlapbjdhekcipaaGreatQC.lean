import Derived.Laws.StructEq
import Derived.Test.YtlapbjdhekcipaaGreatQB
set_option linter.unusedVariables false
set_option linter.unusedSimpArgs false
/- Regions that draw their order, in which slices grow: the evaluation, and that the machine's choice does not matter. -/
namespace Go.Ae
open Go Go.RowKit
/-- Whether one that has gone eats block i. -/
def mP (es:List (Option Nat)) (D:Nat→Bool) (i:Nat):Bool:=(List.range es.length).any fun p=>D p && (es.getD p none == some i)
theorem s3 {es:List (Option Nat)} {D:Nat→Bool} {i:Nat}:mP es D i=true↔∃ p,D p=true∧es[p]?=some (some i):=by
 unfold mP
 rw [List.any_eq_true]
 constructor
 ·rintro ⟨p,hp,h⟩
  rw [Bool.and_eq_true,beq_iff_eq,List.getD_eq_getElem?_getD,List.getElem?_eq_getElem (List.mem_range.1 hp)] at h
  exact ⟨p,h.1,by rw [List.getElem?_eq_getElem (List.mem_range.1 hp)]; exact congrArg some h.2⟩
 ·rintro ⟨p,h1,J⟩
  have ak:=(List.getElem?_eq_some_iff.1 J).1
  refine ⟨p,List.mem_range.2 ak,?_⟩
  rw [h1,List.getD_eq_getElem?_getD,J]
  simp
def iU (es:List (Option Nat)) (rs:List db) (D:Nat→Bool) (m:Nat):List (Option ai):=(List.range m).map fun i=>if D i && !mP es D i then (rs[i]?).bind (·.nb) else none
theorem vz {es:List (Option Nat)} {rs:List db} {D:Nat→Bool} {m i:Nat} {b:ai}:(iU es rs D m)[i]?=some (some b)↔i < m∧D i=true∧mP es D i=false∧(rs[i]?).bind (·.nb)=some b:=by
 unfold iU
 rw [List.getElem?_map]
 by_cases h:i < m
 ·simp only [List.getElem?_range h,Option.map_some,Option.some.injEq]
  cases D i <;> cases mP es D i <;> simp [h]
 ·rw [List.getElem?_eq_none (by simp; omega)]
  simp [h]
theorem Ad (es:List (Option Nat)) (rs:List db) (D:Nat→Bool) (m:Nat):(iU es rs D m).length=m:=by simp [iU]
/-- The blocks when all of the list have gone. -/
def iV (es:List (Option Nat)) (rs:List db):List (Option ai):=iU es rs (fun i=>decide (i < rs.length)) rs.length
def GI (ms:List (List Nat)) (j i:Nat):Bool :=
 decide (i < j) && (ms.getD j []).contains i && (List.range ms.length).all fun q=>q == j || !((ms.getD q []).contains i) || (ms.getD j []).contains q
theorem Rv {ms:List (List Nat)} {j i:Nat} (h:GI ms j i=true):i < j∧i∈ms.getD j []∧∀ q,q≠j→i∈ms.getD q []→q∈ms.getD j []:=by
 unfold GI at h
 simp only [Bool.and_eq_true,decide_eq_true_eq,List.contains_iff_mem,List.all_eq_true,List.mem_range,Bool.or_eq_true,beq_iff_eq,Bool.not_eq_true'] at h
 refine ⟨h.1.1,h.1.2,fun q hq hi=>?_⟩
 have ak:q < ms.length:=by
  rcases Nat.lt_or_ge q ms.length with h' | h'
  ·exact h'
  ·rw [List.getD_eq_getElem?_getD,List.getElem?_eq_none h'] at hi; cases hi
 rcases h.2 q ak with (h' | h') | h'
 ·exact absurd h' hq
 ·rw [List.contains_iff_mem.2 hi] at h'; cases h'
 ·exact h'
def mQ (E:Env) (ops:List Oper) (uP:List (List Nat)) (H:ax) (n0:Nat):List Oper→List (List Nat)→Nat→List Value→List (Option ai)→(List Value→List (Option ai)→Prop)→Prop
 | [],_,_,t,S,k=>k t S
 | o::l,mask::aS,j,t,S,k =>
  match o.guard with
  | none=>match isApp o.op with
   | some (ty,x,y)=>k9 S 0 mask fun Sm=>m8 H Sm fun G=>Ow E t G n0 (n0+j) ty x y fun v gq nb=>match gq with
    | some i=>GI uP j i=true∧dw t o.dst v fun t'=>jr S i none fun S1=>jo S1 nb fun S'=>mQ E ops uP H n0 l aS (j+1) t' S' k
    | none=>dw t o.dst v fun t'=>jo S nb fun S'=>mQ E ops uP H n0 l aS (j+1) t' S' k
   | none=>k9 S 0 mask fun Sm=>m8 H Sm fun G=>kM E o.op t G (n0+j) fun v nb=>dw t o.dst v fun t'=>jo S nb fun S'=>mQ E ops uP H n0 l aS (j+1) t' S' k
  | some (g,want)=>match (ops[g]?).bind (·.dst) with
   | some d=>pQ t d fun v=>match v with
    | .bool b=>br (b == want)
      (k9 S 0 mask fun Sm=>m8 H Sm fun G=>kM E o.op t G (n0+j) fun v nb=>dw t o.dst v fun t'=>jo S nb fun S'=>mQ E ops uP H n0 l aS (j+1) t' S' k)
      (dw t o.dst undef fun t'=>jo S none fun S'=>mQ E ops uP H n0 l aS (j+1) t' S' k)
    | .tuple _=>dw t o.dst undef fun t'=>jo S none fun S'=>mQ E ops uP H n0 l aS (j+1) t' S' k
    | _=>False
   | none=>False
 | _::_,[],_,_,_,_=>False
/-- A region that draws, with growing slices ahead of its last operations. -/
def NO (E:Env) (ops:List Oper) (t:List Value) (H:ax) (k:SK):Prop :=
 ∃ (m:Nat) (aS:List (List Nat)),By ops m aS=true∧js H fun n0=>tT ops m fun hd tl=>mQ E ops aS H n0 hd aS 0 t [] fun t' S=>m8 H S fun G=>mW E ops tl t' G k
structure oC (P:Program) (ops:List Oper) (t0:List Value) (H:ax) (aS:List (List Nat)) (rs:List db) (es:List (Option Nat)) (j:Nat):Prop where
 ok:∃ o r gq,ops[j]?=some o∧rs[j]?=some r∧es[j]?=some gq∧(∀ d,o.dst=some d→d < t0.length) ∧
  ((∃ G:ax,(∀ id b,G[id]?=some (some b)→(id < H.length∧H[id]?=some (some b))∨(∃ i,id=H.length+i∧i < j∧i∈aS.getD j []∧(rs[i]?).bind (·.nb)=some b)) ∧
    (∀ i,gq=some i→i < j∧i∈aS.getD j []∧(∀ q,q≠j→i∈aS.getD q []→q∈aS.getD j [])∧∃ b,G[H.length+i]?=some (some b)∧b.own=true) ∧
    (∀ (ν:Nu) (a:Act) (w:World) (q:Option Nat) (n:Nat),(∀ x∈o.op.operands,fk ν (bf ops rs (fun i=>decide (i < j)) t0 j) a x)→bT ν G w→ν (H.length+j)=none →
     ∀ next Q,(∀ v' w' aj,EPost ν aj (H.length+j) (gq.bind fun i=>ν (H.length+i)) w w' r.v v' r.nb→next (a.put o.dst v') w')→o.wpIn (WF q) n P a w next Q) ∧
    (o.guard=none∨∃ g want d b,o.guard=some (g,want)∧bU ops g=some d∧(bf ops rs (fun i=>decide (i < j)) t0 j)[d]?=some (.bool b)∧(b == want)=true)) ∨
    (gq=none∧r.v=undef∧r.nb=none∧∃ g want d v,o.guard=some (g,want)∧bU ops g=some d∧(bf ops rs (fun i=>decide (i < j)) t0 j)[d]?=some v∧((∃ b,v=.bool b∧(b == want)=false)∨∃ vs,v=.tuple vs)))
theorem oC.more {P:Program} {ops:List Oper} {t0:List Value} {H:ax} {aS:List (List Nat)} {rs:List db} {es:List (Option Nat)} {j:Nat} (h:oC P ops t0 H aS rs es j) (hj:j < rs.length) (hj2:j < es.length) (r:db) (e:Option Nat):oC P ops t0 H aS (rs++[r]) (es++[e]) j:=by
 have he:∀ i,i≤j→(rs++[r])[i]?=rs[i]?:=fun i hi=>by rw [List.getElem?_append_left (by omega)]
 have hv:∀ D,bf ops (rs++[r]) D t0 j=bf ops rs D t0 j:=fun D=>sT (fun i hi=>he i (by omega))
 obtain ⟨o,q,gq,h1,J,jV,h3,h4⟩:=h.ok
 refine ⟨⟨o,q,gq,h1,by rw [he j (Nat.le_refl _)]; exact J,by rw [List.getElem?_append_left hj2]; exact jV,h3,?_⟩⟩
 rw [hv]
 rcases h4 with ⟨G,g1,g2,g3,g4⟩ | h4
 ·exact .inl ⟨G,fun id b hb=>(g1 id b hb).imp (fun x=>x) (fun ⟨i,k1,k2,k3,k4⟩=>⟨i,k1,k2,k3,by rw [he i (by omega)]; exact k4⟩),g2,g3,g4⟩
 ·exact .inr h4
def pL (S:List (Option ai)):Option Nat→List (Option ai)
 | some i=>S.set i none
 | none=>S
theorem SQ {es:List (Option Nat)} {rs:List db} {i:Nat} {b:ai} (h:(iV es rs)[i]?=some (some b)):(rs[i]?).bind (·.nb)=some b:=(vz.1 h).2.2.2
theorem Rw {es:List (Option Nat)} {rs:List db} (hl:es.length=rs.length) (ak:∀ (p i:Nat),es[p]?=some (some i)→i < p) (r:db) (e:Option Nat) (he:∀ i,e=some i→i < rs.length) :
  iV (es++[e]) (rs++[r])=pL (iV es rs) e++[r.nb]:=by
 have hD:∀ i,i < rs.length+1→decide (i < (rs++[r]).length)=true:=fun i hi=>by simp; omega
 have Pk:∀ i,mP (es++[e]) (fun i=>decide (i < (rs++[r]).length)) i=(mP es (fun i=>decide (i < rs.length)) i || e == some i):=fun i=>by
  rw [Bool.eq_iff_iff,Bool.or_eq_true,s3,s3,beq_iff_eq]
  constructor
  ·rintro ⟨p,_,J⟩
   rw [List.getElem?_append] at J
   split at J
   ·rename_i hp
    exact .inl ⟨p,by simp; omega,J⟩
   ·right
    have:p - es.length=0:=by
     rcases Nat.eq_zero_or_pos (p - es.length) with h | h
     ·exact h
     ·rw [List.getElem?_eq_none (by simp; omega)] at J; cases J
    rw [this] at J
    simpa using J
  ·rintro (⟨p,h1,J⟩ | J)
   ·have:=(List.getElem?_eq_some_iff.1 J).1
    exact ⟨p,by simp at h1 ⊢; omega,by rw [List.getElem?_append_left this]; exact J⟩
   ·exact ⟨es.length,by simp; omega,by rw [List.getElem?_append_right (Nat.le_refl _)]; simp [J]⟩
 apply List.ext_getElem?
 intro x
 have hlen:(pL (iV es rs) e).length=rs.length:=by
  cases e <;> simp [pL,iV,Ad]
 unfold iV iU
 rw [List.getElem?_map]
 by_cases hx:x < rs.length
 ·rw [List.getElem?_range (by simp; omega),List.getElem?_append_left (by cases e <;> simp [pL] <;> omega)]
  simp only [Option.map_some]
  simp only [Pk x,hD x (by omega)]
  rw [List.getElem?_append_left hx]
  unfold pL
  cases e with
  | none =>
   dsimp only
   rw [List.getElem?_map,List.getElem?_range hx]
   simp [hx]
  | some i =>
   dsimp only
   by_cases Ip:i=x
   ·subst Ip
    rw [List.getElem?_set_self (by simpa using hx)]
    simp
   ·rw [List.getElem?_set_ne Ip,List.getElem?_map,List.getElem?_range hx]
    have:(some i == some x)=false:=by simp [Ip]
    rw [this]
    simp [hx]
 ·by_cases p8:x=rs.length
  ·subst p8
   rw [List.getElem?_range (by simp),List.getElem?_append_right (by cases e <;> simp [pL])]
   have aK:mP es (fun i=>decide (i < rs.length)) rs.length=false:=by
    cases h:mP es (fun i=>decide (i < rs.length)) rs.length with
    | false=>rfl
    | true =>
     obtain ⟨p,h1,J⟩:=s3.1 h
     have:=ak p _ J
     have:=of_decide_eq_true h1
     omega
   have Ho:(e == some rs.length)=false:=by
    cases e with
    | none=>rfl
    | some i=>have:=he i rfl; simp; omega
   simp only [Option.map_some]
   simp only [Pk,hD _ (Nat.lt_succ_self _),aK,Ho]
   cases e <;> simp [pL]
  ·rw [List.getElem?_eq_none (by simp; omega),List.getElem?_eq_none (by cases e <;> simp [pL] <;> omega)]; rfl
theorem Km {P:Program} {E:Env} (hE:EnvOk P E) {ops:List Oper} {t0:List Value} {H:ax} {aS:List (List Nat)} {k:List Value→List (Option ai)→Prop} :
  ∀ {l:List Oper} {ms:List (List Nat)} {j:Nat} {rs:List db} {es:List (Option Nat)},rs.length=j→es.length=j→(∀ (p i:Nat),es[p]?=some (some i)→i < p)→(∀ (i:Nat) o,l[i]?=some o→ops[j+i]?=some o)→(∀ i,i < l.length→ms.getD i []=aS.getD (j+i) []) →
  (∀ i,i < j→oC P ops t0 H aS rs es i)→mQ E ops aS H H.length l ms j (bf ops rs (fun i=>decide (i < j)) t0 j) (iV es rs) k →
  ∃ (cj:List db) (jW:List (Option Nat)),cj.length=j+l.length∧jW.length=j+l.length∧(∀ i,i < j+l.length→oC P ops t0 H aS cj jW i)∧k (bf ops cj (fun i=>decide (i < j+l.length)) t0 (j+l.length)) (iV jW cj)
 | [],ms,j,rs,es,hl,iX,_,_,_,bg,h=>⟨rs,es,hl,iX,bg,h⟩
 | o::l,[],j,rs,es,hl,iX,_,_,_,bg,h=>h.elim
 | o::l,mask::ms,j,rs,es,hl,iX,ak,ho,hm,bg,h=>by
  have nS:ops[j]?=some o:=by have:=ho 0 o rfl; simpa using this
  have BR:mask=aS.getD j []:=by have:=hm 0 (by simp); simpa using this
  -- the next step, whatever this one's result
  have next:∀ (r:db) (e:Option Nat) t',(t'=match o.dst with | some d=>(bf ops rs (fun i=>decide (i < j)) t0 j).set d r.v | none=>bf ops rs (fun i=>decide (i < j)) t0 j)→(∀ i,e=some i→i < j) →
    (oC P ops t0 H aS (rs++[r]) (es++[e]) j)→mQ E ops aS H H.length l ms (j+1) t' (pL (iV es rs) e++[r.nb]) k →
    ∃ (cj:List db) (jW:List (Option Nat)),cj.length=j+(o::l).length∧jW.length=j+(o::l).length∧(∀ i,i < j+(o::l).length→oC P ops t0 H aS cj jW i)∧k (bf ops cj (fun i=>decide (i < j+(o::l).length)) t0 (j+(o::l).length)) (iV jW cj):=by
   intro r e t' jy fC hj h'
   have hv:bf ops (rs++[r]) (fun i=>decide (i < j+1)) t0 (j+1)=t':=by
    have hr:(rs++[r])[j]?=some r:=by rw [← hl]; simp
    have hd:bU ops j=o.dst:=by simp [bU,nS]
    have yD:bf ops (rs++[r]) (fun i=>decide (i < j+1)) t0 j=bf ops rs (fun i=>decide (i < j)) t0 j:=by
     rw [sT (cj:=rs) (fun i hi=>by rw [List.getElem?_append_left (by omega)])]
     exact xy (fun i hi=>by simp; omega)
    have Hl:decide (j < j+1)=true:=by simp
    rw [jy,DN,hr,hd,yD,Hl]
    cases o.dst <;> rfl
   rw [← hv,← Rw (iX.trans hl.symm) ak r e (fun i hi=>by rw [hl]; exact fC i hi)] at h'
   obtain ⟨cj,jW,k1,Pm,k2,k3⟩:=Km hE (l:=l) (ms:=ms) (j:=j+1) (rs:=rs++[r]) (es:=es++[e]) (by simp [hl]) (by simp [iX]) (fun p i hp=>by
     rw [List.getElem?_append] at hp
     split at hp
     ·exact ak p i hp
     ·rename_i eG
      have:p - es.length=0:=by
       rcases Nat.eq_zero_or_pos (p - es.length) with h | h
       ·exact h
       ·rw [List.getElem?_eq_none (by simp; omega)] at hp; cases hp
      rw [this] at hp
      have:=fC i (by simpa using hp)
      omega) (fun i p hp=>by have:=ho (i+1) p (by simpa using hp); rwa [show j+1+i=j+(i+1) by omega])
    (fun i hi=>by have:=hm (i+1) (by simp; omega); rw [show j+1+i=j+(i+1) by omega]; simpa using this)
    (fun i hi=>by
     by_cases e':i=j
     ·subst e'; exact hj
     ·exact (bg i (by omega)).more (by omega) (by omega) r e) h'
   have e2:j+1+l.length=j+(o::l).length:=by simp; omega
   rw [e2] at k1 Pm k2 k3
   exact ⟨cj,jW,k1,Pm,k2,k3⟩
  have nT:∀ r:db,bf ops (rs++[r]) (fun i=>decide (i < j)) t0 j=bf ops rs (fun i=>decide (i < j)) t0 j:=fun r=>sT (fun i hi=>by rw [List.getElem?_append_left (by omega)])
  have sG:∀ r:db,(rs++[r])[j]?=some r:=fun r=>by rw [← hl]; simp
  have CV:∀ e:Option Nat,(es++[e])[j]?=some e:=fun e=>by rw [← iX]; simp
  -- what is seen of the blocks
  have seen:∀ {Sm:List (Option ai)} (r:db),(∀ jj b,Sm[jj]?=some (some b)→(iV es rs)[jj]?=some (some b)∧(0+jj)∈mask)→∀ id b,(H++Sm)[id]?=some (some b) →
    (id < H.length∧H[id]?=some (some b))∨(∃ i,id=H.length+i∧i < j∧i∈aS.getD j []∧((rs++[r])[i]?).bind (·.nb)=some b):=by
   intro Sm r h3 id b hb
   rw [List.getElem?_append] at hb
   split at hb
   ·exact .inl ⟨by assumption,hb⟩
   ·rename_i eG
    obtain ⟨q1,q2⟩:=h3 _ b hb
    have acg:id - H.length < rs.length:=by
     have:=(List.getElem?_eq_some_iff.1 q1).1
     rwa [iV,Ad] at this
    refine .inr ⟨id - H.length,by omega,by omega,by rw [← BR]; simpa using q2,?_⟩
    rw [List.getElem?_append_left acg]
    exact SQ q1
  have Cn:∀ {v:Value} {kk:List Value→Prop},dw (bf ops rs (fun i=>decide (i < j)) t0 j) o.dst v kk→∃ t',(t'=match o.dst with | some d=>(bf ops rs (fun i=>decide (i < j)) t0 j).set d v | none=>bf ops rs (fun i=>decide (i < j)) t0 j)∧(∀ d,o.dst=some d→d < t0.length)∧kk t':=by
   intro v kk hk
   cases hd:o.dst with
   | none=>rw [hd] at hk; exact ⟨_,rfl,(fun d hd=>by cases hd),hk⟩
   | some d =>
    rw [hd] at hk
    obtain ⟨k1,k2⟩:=oe hk
    rw [qP] at k1
    exact ⟨_,rfl,(fun d' cY=>by cases cY; exact k1),k2⟩
  have run:(o.guard=none∨∃ g want d b,o.guard=some (g,want)∧bU ops g=some d∧(bf ops rs (fun i=>decide (i < j)) t0 j)[d]?=some (.bool b)∧(b == want)=true) →
    (k9 (iV es rs) 0 mask fun Sm=>m8 H Sm fun G=>kM E o.op (bf ops rs (fun i=>decide (i < j)) t0 j) G (H.length+j) fun v nb=>dw (bf ops rs (fun i=>decide (i < j)) t0 j) o.dst v fun t'=>jo (iV es rs) nb fun S'=>mQ E ops aS H H.length l ms (j+1) t' S' k) →
    ∃ (cj:List db) (jW:List (Option Nat)),cj.length=j+(o::l).length∧jW.length=j+(o::l).length∧(∀ i,i < j+(o::l).length→oC P ops t0 H aS cj jW i)∧k (bf ops cj (fun i=>decide (i < j+(o::l).length)) t0 (j+(o::l).length)) (iV jW cj):=by
   intro hg h
   obtain ⟨Sm,h1,J,h3⟩:=vm h
   have h1:=s8 h1
   obtain ⟨v,nb,hk,hq⟩:=AE (P:=P) hE h1
   obtain ⟨t',e1,e2,e3⟩:=Cn hk
   refine next ⟨v,nb,true⟩ none t' e1 (fun i hi=>by cases hi) ⟨⟨o,⟨v,nb,true⟩,none,nS,sG _,CV _,e2,.inl ⟨H++Sm,seen _ h3,(fun i hi=>by cases hi),?_,?_⟩⟩⟩ (sV e3)
   ·rw [nT]
    exact fun ν a w q n ha hH hn next Q hN=>hq o ν a w q n rfl ha hH hn next Q (fun v' w' aj hp=>hN v' w' aj (hp.e _))
   ·rw [nT]; exact hg
  have skip:(∃ g want d v,o.guard=some (g,want)∧bU ops g=some d∧(bf ops rs (fun i=>decide (i < j)) t0 j)[d]?=some v∧((∃ b,v=.bool b∧(b == want)=false)∨∃ vs,v=.tuple vs)) →
    (dw (bf ops rs (fun i=>decide (i < j)) t0 j) o.dst undef fun t'=>jo (iV es rs) none fun S'=>mQ E ops aS H H.length l ms (j+1) t' S' k) →
    ∃ (cj:List db) (jW:List (Option Nat)),cj.length=j+(o::l).length∧jW.length=j+(o::l).length∧(∀ i,i < j+(o::l).length→oC P ops t0 H aS cj jW i)∧k (bf ops cj (fun i=>decide (i < j+(o::l).length)) t0 (j+(o::l).length)) (iV jW cj):=by
   intro hg hk
   obtain ⟨t',e1,e2,e3⟩:=Cn hk
   exact next ⟨undef,none,false⟩ none t' e1 (fun i hi=>by cases hi) ⟨⟨o,⟨undef,none,false⟩,none,nS,sG _,CV _,e2,.inr ⟨rfl,rfl,rfl,by rw [nT]; exact hg⟩⟩⟩ (sV e3)
  unfold mQ at h
  split at h
  ·rename_i hg
   split at h
   ·rename_i ty x y ach
    obtain ⟨Sm,h1,J,h3⟩:=vm h
    have h1:=s8 h1
    obtain ⟨v,gq,nb,hk,kg,hq⟩:=SP (P:=P) hE h1
    obtain ⟨c,uQ,hc2,Pn,hc4⟩:=Ru ach
    -- what the step gives
    have step:∀ (ν:Nu) (a:Act) (w:World) (q:Option Nat) (n:Nat),(∀ x∈o.op.operands,fk ν (bf ops rs (fun i=>decide (i < j)) t0 j) a x)→bT ν (H++Sm) w→ν (H.length+j)=none →
      ∀ next Q,(∀ v' w' aj,EPost ν aj (H.length+j) (gq.bind fun i=>ν (H.length+i)) w w' v v' nb→next (a.put o.dst v') w')→o.wpIn (WF q) n P a w next Q:=by
     intro ν a w q n ha hH hn next Q hN
     have gG:∀ z,z∈[x,y]→z∈o.op.operands:=fun z hz=>by
      rw [uQ]
      simp only [List.mem_cons,List.mem_nil_iff,or_false] at hz
      rcases hz with rfl | rfl <;> simp [Op.operands,Call.operands,Pn]
     obtain ⟨v',w',aj,bF,hp⟩:=hq ν a w o.type (ha x (gG x (by simp))) (ha y (gG y (by simp))) hH hn
     exact jD (by simp [uQ]) (by simp [execOp,uQ,resolve,hc2,Pn,hc4,invoke,builtin,bF]) next Q (hN _ _ _ hp)
    cases gq with
    | none =>
     obtain ⟨t',e1,e2,e3⟩:=Cn hk
     exact next ⟨v,nb,true⟩ none t' e1 (fun i hi=>by cases hi) ⟨⟨o,⟨v,nb,true⟩,none,nS,sG _,CV _,e2,.inl ⟨H++Sm,seen _ h3,(fun i hi=>by cases hi),by rw [nT]; exact step,.inl hg⟩⟩⟩ (sV e3)
    | some i =>
     obtain ⟨aci,hk⟩:=hk
     obtain ⟨xk,zA,hiq⟩:=Rv aci
     obtain ⟨t',e1,e2,e3⟩:=Cn hk
     obtain ⟨_,e3⟩:=lW e3
     exact next ⟨v,nb,true⟩ (some i) t' e1 (fun i' hi=>by cases hi; exact xk) ⟨⟨o,⟨v,nb,true⟩,some i,nS,sG _,CV _,e2,.inl ⟨H++Sm,seen _ h3,(fun i' hi=>by cases hi; exact ⟨xk,zA,hiq,kg i rfl⟩),by rw [nT]; exact step,.inl hg⟩⟩⟩ (sV e3)
   ·exact run (.inl hg) h
  ·rename_i g want hg
   split at h
   ·rename_i d hd
    obtain ⟨v,hv,h⟩:=od h
    split at h
    ·rename_i b
     cases hb:(b == want) with
     | true=>exact run (.inr ⟨g,want,d,b,hg,hd,hv,hb⟩) (A8 h hb)
     | false=>exact skip ⟨g,want,d,_,hg,hd,hv,.inl ⟨b,rfl,hb⟩⟩ (AR h hb)
    ·exact skip ⟨g,want,d,_,hg,hd,hv,.inr ⟨_,rfl⟩⟩ h
    ·exact h.elim
   ·exact h.elim
section
variable {P:Program} {E:Env} {r:Option Nat} {n:Nat} {F:Fr} {ops:Array Oper} {Q:Exit→Act→World→Prop} {m:Nat} {aS:List (List Nat)} {k:SK}
theorem Rx (hc:Order ops.toList aS) (tN:m≤ops.size)
  (yc:∀ j o i p d,j < m→i < m→i≠j→ops.toList[j]?=some o→ops.toList[i]?=some p→p.dst=some d→o.dst≠some d∧(d ∉ je ops.toList o∨i∈aS.getD j []∨j∈aS.getD i []))
  (BS:∀ j,j < ops.size→m≤j→∀ i,i < m→i∈aS.getD j [])
  {t0:List Value} {H:ax} {rs:List db} {es:List (Option Nat)} (hel:es.length=m) (hh:∀ i,i < m→oC P ops.toList t0 H aS rs es i)
  (oH:∀ (fuel:Nat) (aC:Array Bool) (ν:Nu) (a:Act) (w:World),aC.size=ops.size→ot ops.toList (DB aC)→(∀ i,DB aC i=true→i < m)→(∀ i,i < m→DB aC i=true) →
   bC F ν (bf ops.toList rs (DB aC) t0 m) (H++iU es rs (DB aC) m) a w→gx (DB aC) ops.size≤fuel→wpAnyIn (WF r) n P .any ops Q fuel aC a w) :
  ∀ (fuel:Nat) (aC:Array Bool) (ν:Nu) (a:Act) (w:World),aC.size=ops.size→ot ops.toList (DB aC)→(∀ i,DB aC i=true→i < m) →
  bC F ν (bf ops.toList rs (DB aC) t0 m) (H++iU es rs (DB aC) m) a w→(∀ i,i < m→DB aC i=false→ν (H.length+i)=none)→gx (DB aC) ops.size≤fuel →
  wpAnyIn (WF r) n P .any ops Q fuel aC a w:=by
 have lB:∀ i d,i < m→bU ops.toList i=some d→d < t0.length:=by
  intro i d hi hd
  obtain ⟨o,q,_,h1,J,_,h3,_⟩:=(hh i hi).ok
  unfold bU at hd
  rw [h1] at hd
  exact h3 d hd
 have oQ:wF ops.toList m:=by
  intro i j d hi hj h1 J
  rcases Nat.decEq i j with aK | he
  ·obtain ⟨o,q,_,k1,_⟩:=(hh i hi).ok
   obtain ⟨p,q',_,k2,_⟩:=(hh j hj).ok
   unfold bU at h1 J
   rw [k1] at h1; rw [k2] at J
   exact absurd h1 (yc i o j p d hi hj (Ne.symm aK) k1 k2 J).1
  ·exact he
 intro fuel
 induction fuel with
 | zero =>
  intro aC ν a w hs eY ak hi gp hu
  have c7:∀ i,i < ops.size→DB aC i=true:=fun i aP=>by
   cases hd:DB aC i with
   | true=>rfl
   | false=>have:=DO aP hd; omega
  exact oH 0 aC ν a w hs eY ak (fun i aP=>c7 i (by omega)) hi hu
 | succ fuel ih =>
  intro aC ν a w hs eY ak hi gp hu
  by_cases oB:∀ i,i < m→DB aC i=true
  ·exact oH (fuel+1) aC ν a w hs eY ak oB hi hu
  ·-- something of the head has not gone: the least such one may go
   have hex:∃ i,i < m∧DB aC i=false:=by
    refine Classical.byContradiction fun aK=>oB fun i aP=>?_
    cases hd:DB aC i with
    | true=>rfl
    | false=>exact absurd ⟨i,aP,hd⟩ aK
   obtain ⟨i1,CQ,gj⟩:=hex
   obtain ⟨i0,Oq,fF,iZ⟩:=Dn gj
   have gz:i0 < m:=by omega
   have hr:=Am hc hs (by omega:i0 < ops.size) fF iZ
   refine ⟨(fun hn=>by rw [hn] at hr; cases hr),fun j hj=>?_⟩
   rw [mem_ready] at hj
   obtain ⟨h1,o,ho,he⟩:=hj
   have m9:j < ops.size:=(Array.getElem?_eq_some_iff.1 ho).1
   rw [th (by omega)] at h1
   have gh:ops.toList[j]?=some o:=by simpa using ho
   have lM:=sU hc eY j o gh (fun e' gi bD=>he e' gi bD)
   have mz:j < m:=by
    rcases Nat.lt_or_ge j m with h | h
    ·exact h
    ·have:=lM i1 (BS j m9 h i1 CQ)
     rw [gj] at this; cases this
   obtain ⟨o',q,gq,g1,g2,g2e,g3,g4⟩:=(hh j mz).ok
   rw [gh] at g1; cases g1
   have Ii:bU ops.toList j=o.dst:=by simp [bU,gh]
   -- what it reads stands as the text's order has it
   have GF:∀ d,d∈je ops.toList o→(bf ops.toList rs (DB aC) t0 m)[d]?=(bf ops.toList rs (fun i=>decide (i < j)) t0 j)[d]?:=by
    intro d hd
    rw [← vy (j:=j) (m:=m) (by omega) (fun i h1 J=>by simp; omega)]
    refine xI oQ lB (fun i aP gg=>?_)
    by_cases e:i=j
    ·subst e; rw [h1]; simp
    ·obtain ⟨p,q',_,k1,_⟩:=(hh i aP).ok
     have Ij:p.dst=some d:=by unfold bU at gg; rw [k1] at gg; exact gg
     rcases (yc j o i p d mz aP e gh k1 Ij).2 with h | h | h
     ·exact absurd hd h
     ·rw [lM i h]
      have:=(hc.mask j o gh i h).1
      simp [this]
     ·have hji:=(hc.mask i p k1 j h).1
      have:DB aC i=false:=by
       cases cY:DB aC i with
       | false=>rfl
       | true =>
        have:=sU hc eY i p k1 (eY i p cY k1) j h
        rw [h1] at this; cases this
      rw [this]; simp; omega
   have di:∀ i,DB (aC.setIfInBounds j true) i=(DB aC i || i == j):=fun i=>Bz (by omega) i
   have wW:ot ops.toList (DB (aC.setIfInBounds j true)):=by
    intro i p aP hp e' gi bD
    rw [di] at aP ⊢
    by_cases e:i=j
    ·subst e
     rw [gh] at hp; cases hp
     have:DB aC e'.on=true:=he e' gi bD
     rw [this]; rfl
    ·have e2:(i == j)=false:=by simp [e]
     rw [e2,Bool.or_false] at aP
     rw [eY i p aP hp e' gi bD]; rfl
   have pU:∀ i,DB (aC.setIfInBounds j true) i=true→i < m:=fun i aP=>by
    rw [di] at aP
    by_cases e:i=j
    ·subst e; exact mz
    ·have e2:(i == j)=false:=by simp [e]
     rw [e2,Bool.or_false] at aP
     exact ak i aP
   have ss:gx (DB (aC.setIfInBounds j true)) ops.size≤fuel:=by
    have:=Ax di h1 ops.size
    rw [if_pos m9] at this; omega
   have tS:=Kl (D:=DB aC) (D':=DB (aC.setIfInBounds j true)) oQ lB mz h1 di g2
   rw [Ii] at tS
   have hat:∀ p i,es[p]?=some (some i)→p < m∧i < p∧i∈aS.getD p []∧∀ q,q≠p→i∈aS.getD q []→q∈aS.getD p []:=by
    intro p i hp
    have uR:p < m:=by have:=(List.getElem?_eq_some_iff.1 hp).1; omega
    obtain ⟨_,_,e',_,_,k3,_,k4⟩:=(hh p uR).ok
    rw [hp] at k3; cases k3
    rcases k4 with ⟨_,_,k5,_⟩ | ⟨k5,_⟩
    ·obtain ⟨y1,y2,y3,_⟩:=k5 i rfl
     exact ⟨uR,y1,y2,y3⟩
    ·cases k5
   -- what this one sees has not been eaten
   have fresh:∀ i,i∈aS.getD j []→mP es (DB aC) i=false:=by
    intro i aP
    cases gi:mP es (DB aC) i with
    | false=>rfl
    | true =>
     obtain ⟨p,nf,qB⟩:=s3.1 gi
     obtain ⟨uR,_,_,y3⟩:=hat p i qB
     have Po:j≠p:=fun e=>by rw [← e,h1] at nf; cases nf
     have hjp:=y3 j Po aP
     obtain ⟨op,_,_,k1,_⟩:=(hh p uR).ok
     have:=sU hc eY p op k1 (eY p op nf k1) j hjp
     rw [h1] at this; cases this
   have fA:∀ (id:Nat) (c:ai),(H++iU es rs (DB (aC.setIfInBounds j true)) m)[id]?=some (some c) →
     ((H++iU es rs (DB aC) m)[id]?=some (some c)∧∀ i,gq=some i→id≠H.length+i)∨(id=H.length+j∧q.nb=some c):=by
    intro id c
    by_cases bu:id < H.length
    ·rw [List.getElem?_append_left bu,List.getElem?_append_left bu]
     exact fun h=>.inl ⟨h,fun i _=>by omega⟩
    ·rw [List.getElem?_append_right (by omega),List.getElem?_append_right (by omega),vz,vz]
     rintro ⟨k1,k2,k3,k4⟩
     rw [di] at k2
     by_cases e:id - H.length=j
     ·refine .inr ⟨by omega,?_⟩
      rw [e,g2] at k4; exact k4
     ·have e2:(id - H.length == j)=false:=by simp [e]
      rw [e2,Bool.or_false] at k2
      refine .inl ⟨⟨k1,k2,?_,k4⟩,fun i aP ac8=>?_⟩
      ·cases gi:mP es (DB aC) (id - H.length) with
       | false=>rfl
       | true =>
        obtain ⟨p,nf,qB⟩:=s3.1 gi
        rw [s3.2 ⟨p,by rw [di,nf]; rfl,qB⟩] at k3; cases k3
      ·have hx:id - H.length=i:=by omega
       rw [hx,s3.2 ⟨j,by rw [di]; simp,by rw [g2e,aP]⟩] at k3; cases k3
   have mN:ν (H.length+j)=none:=gp j mz h1
   have GG:(H++iU es rs (DB aC) m).length=H.length+m:=by rw [List.length_append,Ad]
   have F4:(H++iU es rs (DB (aC.setIfInBounds j true)) m).length=H.length+m:=by rw [List.length_append,Ad]
   have hG:∀ {G:ax},(∀ (id:Nat) (b:ai),G[id]?=some (some b)→(id < H.length∧H[id]?=some (some b))∨(∃ i,id=H.length+i∧i < j∧i∈aS.getD j []∧(rs[i]?).bind (·.nb)=some b)) →
     ∀ (id:Nat) (b:ai),G[id]?=some (some b)→(H++iU es rs (DB aC) m)[id]?=some (some b):=by
    intro G q1 id b hb
    rcases q1 id b hb with ⟨h3,h4⟩ | ⟨i,h3,h4,h5,h6⟩
    ·rw [List.getElem?_append_left h3]; exact h4
    ·subst h3
     rw [List.getElem?_append_right (by omega)]
     rw [show H.length+i - H.length=i by omega,vz]
     exact ⟨by omega,lM i h5,fresh i h5,h6⟩
   have acj:∀ i,gq=some i→∃ bi,(H++iU es rs (DB aC) m)[H.length+i]?=some (some bi)∧bi.own=true:=by
    intro i aP
    rcases g4 with ⟨G,q1,q2,_⟩ | ⟨q1,_⟩
    ·obtain ⟨_,_,_,bi,y1,y2⟩:=q2 i aP
     exact ⟨bi,hG q1 _ _ y1,y2⟩
    ·rw [aP] at q1; cases q1
   -- the state behind it
   have after:∀ v' w' aj,EPost ν aj (H.length+j) (gq.bind fun i=>ν (H.length+i)) w w' q.v v' q.nb→wpAnyIn (WF r) n P .any ops Q fuel (aC.setIfInBounds j true) (a.put o.dst v') w':=by
    intro v' w' aj hp
    have hold:∀ lo,(gq.bind fun i=>ν (H.length+i))=some lo→∃ i bi,gq=some i∧ν (H.length+i)=some lo∧(H++iU es rs (DB aC) m)[H.length+i]?=some (some bi)∧bi.own=true:=by
     intro lo gZ
     cases gi:gq with
     | none=>rw [gi] at gZ; cases gZ
     | some i =>
      rw [gi] at gZ
      obtain ⟨bi,y1,y2⟩:=acj i gi
      exact ⟨i,bi,rfl,gZ,y1,y2⟩
    have dD:∀ (id:Nat) (c:ai),(H++iU es rs (DB aC) m)[id]?=some (some c)→id≠H.length+j:=fun id c h e=>by
     obtain ⟨l',cJ,_⟩:=hi.hp.aH id c h
     rw [e,mN] at cJ; cases cJ
    have tN:w.heap.size≤w'.heap.size:=by
     rcases hp.CU with hb | ⟨_,_,_,_,h,_⟩
     ·exact hb.size
     ·exact h
    have sE:Kept F.O F.W w':=by
     rcases hp.CU with hb | ⟨lo,gZ,_,J,h3,h4,h5,h6⟩
     ·exact hi.kp.below hb
     ·obtain ⟨i,bi,y1,y2,y3,y4⟩:=hold lo gZ
      refine ⟨h4.trans hi.kp.os,h5.trans hi.kp.tape,h6.trans hi.kp.output,Nat.le_trans hi.kp.size h3,fun x hx hO=>(J x fun e=>?_).trans (hi.kp.aH x hx hO)⟩
      subst e
      rcases hi.own _ bi lo y3 y4 y2 with h | h
      ·exact hO h
      ·omega
    have G7:∀ (id:Nat) (c:ai) (l:Loc),(H++iU es rs (DB aC) m)[id]?=some (some c)→(∀ i,gq=some i→id≠H.length+i)→ν id=some l→bQ ν l c w→bQ ν l c w':=by
     intro id c l h aK hl hB
     rcases hp.CU with hb | ⟨lo,gZ,_,J,h3,_⟩
     ·exact hB.below hb
     ·obtain ⟨i,bi,y1,y2,y3,y4⟩:=hold lo gZ
      exact hB.same (J _ (Ne.symm (hi.hp.sep _ id bi c lo l y3 h (Ne.symm (aK i y1)) y4 y2 hl))) h3
    have Mx:∀ (id:Nat) (c:ai) (l l2:Loc),(H++iU es rs (DB aC) m)[id]?=some (some c)→(∀ i,gq=some i→id≠H.length+i)→ν id=some l→(w.heap.size≤l2.aH∨∃ lo,(gq.bind fun i=>ν (H.length+i))=some lo∧l2.aH=lo.aH)→l2.aH≠l.aH:=by
     intro id c l l2 h aK hl J
     rcases J with J | ⟨lo,gZ,J⟩
     ·obtain ⟨l',cJ,hB⟩:=hi.hp.aH id c h
      rw [hl] at cJ; cases cJ
      have:=hB.live
      omega
     ·obtain ⟨i,bi,y1,y2,y3,y4⟩:=hold lo gZ
      rw [J]
      exact hi.hp.sep _ id bi c lo l y3 h (Ne.symm (aK i y1)) y4 y2 hl
    refine ih _ aj _ w' (by simp [hs]) wW pU ⟨?_,?_,⟨fun id c cK=>?_,fun x y bx bY lx ly hx hy aK Iq e1 e2=>?_⟩,fun id bu=>?_,sE,fun id c lc cK nO dK=>?_,Nu.le_trans hi.mono hp.le⟩ (fun i aP cY=>?_) ss
    ·rw [tS]
     cases hd:o.dst with
     | none=>exact hi.tm.mono hp.le
     | some d=>rw [qZ]; exact (hi.tm.mono hp.le).set hp.val d
    ·rcases hp.CU with hb | ⟨lo,gZ,⟨cur,t,jR⟩,J,h3,_⟩
     ·cases o.dst <;> exact hi.df.below hb
     ·cases o.dst <;> exact hi.df.fJ jR J
    ·rcases fA id c cK with ⟨h,aK⟩ | ⟨h3,h4⟩
     ·obtain ⟨l,hl,hB⟩:=hi.hp.aH id c h
      exact ⟨l,hp.le _ _ hl,(G7 id c l h aK hl hB).mono hp.le⟩
     ·obtain ⟨l,hl,hB,_⟩:=hp.gY c h4
      exact ⟨l,by rw [h3]; exact hl,hB⟩
    ·rcases fA x bx hx with ⟨h,cD⟩ | ⟨h3,h4⟩
     ·rw [hp.only x (dD x bx h)] at e1
      rcases fA y bY hy with ⟨g,Pp⟩ | ⟨g3,g4⟩
      ·rw [hp.only y (dD y bY g)] at e2
       exact hi.hp.sep x y bx bY lx ly h g aK Iq e1 e2
      ·obtain ⟨l,hl,_,hle⟩:=hp.gY bY g4
       rw [g3,hl] at e2; cases e2
       exact Ne.symm (Mx x bx lx _ h cD e1 hle)
     ·obtain ⟨l,hl,_,hle⟩:=hp.gY bx h4
      rw [h3,hl] at e1; cases e1
      rcases fA y bY hy with ⟨g,Pp⟩ | ⟨g3,g4⟩
      ·rw [hp.only y (dD y bY g)] at e2
       exact Mx y bY ly _ g Pp e2 hle
      ·exact absurd (h3.trans g3.symm) aK
    ·rw [F4] at bu
     rw [hp.only id (by omega)]
     exact hi.fr id (by rw [GG]; exact bu)
    ·rcases fA id c cK with ⟨h,_⟩ | ⟨h3,h4⟩
     ·rw [hp.only id (dD id c h)] at dK
      exact hi.own id c lc h nO dK
     ·obtain ⟨l,hl,_,hle⟩:=hp.gY c h4
      rw [h3,hl] at dK; cases dK
      rcases hle with hle | ⟨lo,gZ,hle⟩
      ·exact .inr (Nat.le_trans hi.kp.size hle)
      ·obtain ⟨i,bi,y1,y2,y3,y4⟩:=hold lo gZ
       rw [hle]
       exact hi.own _ bi lo y3 y4 y2
    ·have aK:i≠j:=fun e=>by subst e; rw [di] at cY; simp at cY
     rw [hp.only _ (by omega)]
     refine gp i aP ?_
     rw [di] at cY
     simp only [Bool.or_eq_false_iff] at cY
     exact cY.1
   unfold wpOpIn
   rw [ho]
   dsimp only
   have fE:∀ d,d∈je ops.toList o→∀ v,(bf ops.toList rs (fun i=>decide (i < j)) t0 j)[d]?=some v→∃ v',a.tmps[d]?=some v'∧an ν v v':=by
    intro d hd v hv
    rw [← GF d hd] at hv
    obtain ⟨v',k1,k2⟩:=hi.tm.get hv
    exact ⟨v',by simpa using k1,k2⟩
   rcases g4 with ⟨G,q1,_,q2,q3⟩ | ⟨q0,q1,q2,g,want,d,v,q3,q4,q5,q6⟩
   ·have hw:Region.wanted o (yielded ops a.tmps)=true:=by
     rcases q3 with hg | ⟨g,want,d,b,hg,hd,hv,hb⟩
     ·simp [Region.wanted,hg]
     ·obtain ⟨v',k1,k2⟩:=fE d (z9 hg hd) _ hv
      rw [k2.j5] at k1
      have hy:=xG (ops:=ops) (tmps:=a.tmps) (j:=g) (d:=d) (by simpa [bU] using hd)
      rw [k1] at hy
      simp only [Region.wanted,hg,hy]
      rw [← hb]
      cases b <;> cases want <;> rfl
    rw [if_pos hw]
    refine q2 ν a w r n (fun x hx t ht v hv=>fE t ?_ v hv) (hi.hp.rD fun id b hb=>?_) mN _ Q after
    ·unfold je
     exact List.mem_append_left _ (o4 (by rw [ht] at hx; simpa using hx))
    ·exact hG q1 id b hb
   ·have hw:Region.wanted o (yielded ops a.tmps)=false:=by
     obtain ⟨v',k1,k2⟩:=fE d (z9 q3 q4) _ q5
     have hy:=xG (ops:=ops) (tmps:=a.tmps) (j:=g) (d:=d) (by simpa [bU] using q4)
     rw [k1] at hy
     rcases q6 with ⟨b,rfl,hb⟩ | ⟨vs,rfl⟩
     ·rw [k2.j5] at hy
      simp only [Region.wanted,q3,hy]
      rw [← hb]
      cases b <;> cases want <;> rfl
     ·obtain ⟨ys,rfl,_⟩:=an.np (xs:=vs.toList) k2
      simp only [Region.wanted,q3,hy]
      rfl
    rw [if_neg (by rw [hw]; simp)]
    refine ⟨fun _ _=>trivial,after undef w ν ⟨ν.le_refl,fun _ _=>rfl,by rw [q1]; exact .undef ν,.inl (Below.refl _ _),fun _=>rfl,(fun b hb=>by rw [q2] at hb; cases hb)⟩⟩
/-- **Whatever order is drawn.** -/
theorem T7 (hm:P.follows .mixedOrders=true):m5 P NO:=by
 intro E hE r n F bO ops Q id ν tmps H a w k hi h hk
 obtain ⟨m,aS,bg,h⟩:=h
 have h:=lX h
 obtain ⟨Ot,h⟩:=xH h
 have hc:=JS bg
 obtain ⟨rs,es,iK,iY,kc,gm⟩:=Km (P:=P) hE.toEnvOk (ops:=ops.toList) (t0:=tmps) (H:=H) (aS:=aS) (l:=ops.toList.take m) (ms:=aS) (j:=0) (rs:=[]) (es:=[]) rfl rfl (fun p i hp=>by simp at hp)
  (fun i o ho=>by
   rw [List.getElem?_take] at ho
   split at ho
   ·simpa using ho
   ·cases ho)
  (fun i _=>by simp) (fun i hi=>by omega) h
 have gm:=s8 gm
 have hlen:0+(ops.toList.take m).length=m:=by rw [List.length_take]; omega
 rw [hlen] at iK iY kc gm
 refine wpIn_region_any hm ?_
 have hD:DB (Array.replicate ops.size false)=fun _=>false:=by
  funext i
  unfold DB
  by_cases h:i < ops.size <;> simp [h]
 refine Rx (F:=F) hc.toOrder (by have:=hc.le; simpa using this) hc.apart (fun j hj hm i hi=>hc.tail j (by simpa using hj) hm i (by omega)) iY kc ?_ ops.size _ ν a _ (by simp) (fun j o hj=>by rw [hD] at hj; cases hj) (fun i aP=>by rw [hD] at aP; cases aP) ?_ (fun i _ _=>hi.fr _ (by omega)) ?_
 ·intro fuel aC ν a w hs eY ak c7 hi hu
  have hle:m≤ops.size:=by have:=hc.le; simpa using this
  have hD:∀ i,DB aC i=decide (i < m):=fun i=>by
   by_cases h:i < m
   ·rw [c7 i h]; simp [h]
   ·cases hd:DB aC i with
    | true=>exact absurd (ak i hd) h
    | false=>simp [h]
  have e1:bf ops.toList rs (DB aC) tmps m=bf ops.toList rs (fun i=>decide (i < m)) tmps m:=xy (fun i _=>hD i)
  have e2:iU es rs (DB aC) m=iV es rs:=by
   unfold iV
   rw [iK]
   rw [show DB aC=fun i=>decide (i < m) from funext hD]
  rw [e1,e2] at hi
  exact D9 hE bO hc.toOrder hc.tail hk fuel aC m ν _ _ a w hs hD (Nat.le_refl _) hle hi gm (by
   have:=Dm hD ops.size hle; omega)
 ·rw [hD]
  have e1:bf ops.toList rs (fun _=>false) tmps m=tmps:=vy (j:=0) (by omega) (fun _ _ _=>rfl)
  rw [e1]
  have kE:Below w.heap.size w { w with drawn:=w.drawn+1 }:=⟨rfl,rfl,rfl,Nat.le_refl _,fun _ _=>rfl⟩
  refine ⟨hi.tm,hi.df.below kE,(hi.hp.below kE).rD (fun id c cK=>?_),fun id bu=>hi.fr id (by rw [List.length_append] at bu; omega),hi.kp.below kE,fun id c lc cK nO dK=>?_,hi.mono⟩
  ·rw [List.getElem?_append] at cK
   split at cK
   ·exact cK
   ·have:=(vz.1 cK).2.1; cases this
  ·rw [List.getElem?_append] at cK
   split at cK
   ·exact hi.own id c lc cK nO dK
   ·have:=(vz.1 cK).2.1; cases this
 ·unfold gx
  have:=List.length_filter_le (fun i=>!DB (Array.replicate ops.size false) i) (List.range ops.size)
  simpa using this
end
end Go.Ae
/- A region that draws, order by order. -/
namespace Go.Ae
open Go Go.RowKit
/-- The orders, as a tree: an operation, what comes behind it, and the other choices beside it. -/
inductive nz where
 | leaf
 | br (i:Nat) (sub rest:nz)
def nz.alts:nz→List Nat
 | .leaf=>[]
 | .br i _ rest=>i::rest.alts
def tF (ops:Array Oper):nz→Nat→Bool→Array Bool→Bool
 | .leaf,_,true,l=>(Region.ready .any ops l).isEmpty
 | .leaf,_,false,_=>true
 | .br _ _ _,0,_,_=>false
 | .br i sub rest,n+1,first,l=>(!first || (Region.ready .any ops l == (nz.br i sub rest).alts)) && tF ops sub n true (l.setIfInBounds i true) && tF ops rest (n+1) false l
def Hp:List Oper→Nat→(Oper→Prop)→Prop
 | [],_,_=>False
 | o::_,0,k=>k o
 | _::l,i+1,k=>Hp l i k
theorem K5:∀ {l:List Oper} {i:Nat} {k:Oper→Prop},Hp l i k→∃ o,l[i]?=some o∧k o
 | [],i,k,h=>h.elim
 | o::_,0,k,h=>⟨o,rfl,h⟩
 | _::l,i+1,k,h=>by
  obtain ⟨o,h1,J⟩:=K5 (l:=l) h
  exact ⟨o,by simpa using h1,J⟩
def BU (E:Env) (ops:List Oper):nz→Bool→List Value→ax→SK→Prop
 | .leaf,true,t,H,k=>k t H
 | .leaf,false,_,_,_=>True
 | .br i sub rest,_,t,H,k=>(Hp ops i fun o=>wE E ops o t H fun t' H'=>BU E ops sub true t' H' k)∧BU E ops rest false t H k
def cV (E:Env) (ops:List Oper) (t:List Value) (H:ax) (k:SK):Prop :=
 NM E ops t H k∨(∃ T:nz,tF ops.toArray T ops.length true (Array.replicate ops.length false)=true∧BU E ops T true t H k)∨NN E ops t H k∨NO E ops t H k
section
variable {P:Program} {E:Env} {r:Option Nat} {n:Nat} {F:Fr}
theorem Ry (hE:jQ P E) (bO:kN F E) {ops:Array Oper} {Q:Exit→Act→World→Prop} {k:SK} (hk:∀ ν t' H' a' w',bC F ν t' H' a' w'→k t' H'→Q .normal a' w') :
  ∀ (T:nz) (fuel:Nat) (first:Bool) (aC:Array Bool) (ν:Nu) (t:List Value) (H:ax) (a:Act) (w:World),tF ops T fuel first aC=true→bC F ν t H a w→BU E ops.toList T first t H k →
  (first=true→wpAnyIn (WF r) n P .any ops Q fuel aC a w)∧(first=false→∀ m,fuel=m+1→∀ i∈T.alts,wpOpIn (WF r) n P ops Q i (wpAnyIn (WF r) n P .any ops Q m (aC.setIfInBounds i true)) a w):=by
 intro T
 induction T with
 | leaf =>
  intro fuel first aC ν t H a w bg hi h
  cases first with
  | true =>
   refine ⟨fun _=>?_,fun h=>by cases h⟩
   have hr:Region.ready .any ops aC=[]:=by
    have:(Region.ready .any ops aC).isEmpty=true:=by simpa [tF] using bg
    simpa using this
   have hq:Q .normal a w:=hk _ _ _ _ _ hi h
   cases fuel with
   | zero=>exact ⟨hr,hq⟩
   | succ f=>exact ⟨fun _=>hq,fun i aP=>by rw [hr] at aP; cases aP⟩
  | false=>exact ⟨(fun h=>by cases h),fun _ m _ i aP=>by cases aP⟩
 | br j sub rest ihs ihr =>
  intro fuel first aC ν t H a w bg hi h
  cases fuel with
  | zero=>simp [tF] at bg
  | succ f =>
   simp only [tF,Bool.and_eq_true,Bool.or_eq_true] at bg
   obtain ⟨⟨h1,J⟩,h3⟩:=bg
   obtain ⟨hs,yD⟩:=h
   have c7:∀ i∈(nz.br j sub rest).alts,wpOpIn (WF r) n P ops Q i (wpAnyIn (WF r) n P .any ops Q f (aC.setIfInBounds i true)) a w:=by
    intro i aP
    simp only [nz.alts,List.mem_cons] at aP
    rcases aP with rfl | aP
    ·obtain ⟨o,ho,hs⟩:=K5 hs
     unfold wpOpIn
     have Iq:ops[i]?=some o:=by simpa using ho
     rw [Iq]
     exact DM hE bO hi hs (fun ν t' H' a' w' g0 h'=>(ihs f true _ ν t' H' a' w' J g0 h').1 rfl)
    ·exact (ihr (f+1) false aC ν t H a w h3 hi yD).2 rfl f rfl i aP
   refine ⟨fun hf=>?_,fun _ m hm=>?_⟩
   ·subst hf
    have hr:Region.ready .any ops aC=(nz.br j sub rest).alts:=by
     rcases h1 with h1 | h1
     ·cases h1
     ·exact eq_of_beq h1
    refine ⟨(fun hn=>by rw [hr] at hn; cases hn),fun i aP=>c7 i (by rw [← hr]; exact aP)⟩
   ·have:f=m:=by omega
    subst this
    exact c7
/-- **Whatever order is drawn.** -/
theorem T8 (hm:P.follows .mixedOrders=true):m5 P cV:=by
 intro E hE r n F bO ops Q id ν tmps H a w k hi h hk
 rcases h with h | ⟨T,bg,h⟩ | h | h
 ·exact T3 hm E hE r n F bO ops Q id ν tmps H a w k hi h hk
 ·refine wpIn_region_any hm ?_
  have kE:Below w.heap.size w { w with drawn:=w.drawn+1 }:=⟨rfl,rfl,rfl,Nat.le_refl _,fun _ _=>rfl⟩
  have g0:bC F ν tmps H a { w with drawn:=w.drawn+1 }:=⟨hi.tm,hi.df.below kE,hi.hp.below kE,hi.fr,hi.kp.below kE,hi.own,hi.mono⟩
  have:=(Ry (r:=r) (n:=n) hE bO (ops:=ops) hk T ops.toList.length true _ ν tmps H a _ (by simpa using bg) g0 h).1 rfl
  simpa using this
 ·exact T6 hm E hE r n F bO ops Q id ν tmps H a w k hi h hk
 ·exact T7 hm E hE r n F bO ops Q id ν tmps H a w k hi h hk
end
end Go.Ae
/- Contracts with blocks out of the evaluation of a function's body. -/
namespace Go.Ae
open Go Go.RowKit
/-- The same value, of whose capacities less is known. -/
inductive dT:Value→Value→Prop
 | refl (v:Value):dT v v
 | cap (a:Addr) (n c:Nat) (h:a.spot=none):dT (.slice (some a) n c) (.slice (some a) n aN)
 | two {x y x' y':Value} (h:dT x x') (hs:dT y y'):dT (.tuple ⟨[x,y]⟩) (.tuple ⟨[x',y']⟩)
 | three {x y z x' y' z':Value} (h:dT x x') (hs:dT y y') (hz:dT z z'):dT (.tuple ⟨[x,y,z]⟩) (.tuple ⟨[x',y',z']⟩)
theorem an.Pq {ν:Nu} {xs ys:List Value} (h:bh ν xs ys):an ν (.tuple ⟨xs⟩) (.tuple ⟨ys⟩):=.tuple _ _ h.1 h.2
theorem an.Hq {ν:Nu} {v v':Value} (h:dT v v'):∀ {r},an ν v r→an ν v' r:=by
 induction h with
 | refl v=>exact fun h=>h
 | cap a n c hs =>
  intro r hr
  obtain ⟨b,o,sp⟩:=a
  have hs:sp=none:=hs
  subst hs
  cases hr with
  | slice _ _ _ _ c' l h hc hn hr=>exact .slice _ _ _ _ c' l h (.inr rfl) hn hr
  | void _ _ _ a hc=>exact .void _ _ _ a (.inr rfl)
 | two h hs i1 i2 =>
  intro r hr
  obtain ⟨ys,rfl,hy⟩:=hr.np
  obtain ⟨a,ys,rfl,k1,hy⟩:=hy.jg
  obtain ⟨b,ys,rfl,k2,hy⟩:=hy.jg
  rw [hy.iP]
  exact .Pq (.cons (i1 k1) (.cons (i2 k2) (.nil ν)))
 | three h hs hz i1 i2 i3 =>
  intro r hr
  obtain ⟨ys,rfl,hy⟩:=hr.np
  obtain ⟨a,ys,rfl,k1,hy⟩:=hy.jg
  obtain ⟨b,ys,rfl,k2,hy⟩:=hy.jg
  obtain ⟨c,ys,rfl,k3,hy⟩:=hy.jg
  rw [hy.iP]
  exact .Pq (.cons (i1 k1) (.cons (i2 k2) (.cons (i3 k3) (.nil ν))))
def gQ (S:aG) (i:S.ι) (v:Value) (H:ax):Prop :=
 match S.new i with
 | none=>∃ v',cP (List.range (S.ae i).length) 3 (S.val i)=some v'∧dT v v'
 | some b=>∃ p,gF H p fun c=>(c.own=true∧aA b c)∧∃ v',cP (List.range (S.ae i).length++[p]) 3 (S.val i)=some v'∧dT v v'
section
variable {P:Program} {E:Env} {D:Env→List Oper→List Value→ax→SK→Prop}
theorem sR {l:List ai} {id:Nat} {b:ai} (h:(l.map some)[id]?=some (some b)):l[id]?=some b:=by
 rw [List.getElem?_map] at h
 cases e:l[id]? with
 | none=>rw [e] at h; cases h
 | some b'=>rw [e] at h; simp at h; rw [h]
theorem SR {m p j:Nat} (h:j < m):(List.range m++[p])[j]?=some j:=by
 rw [List.getElem?_append_left (by simpa using h),List.getElem?_range h]
/-- A contract with blocks that are read. -/
theorem dt {S:aG} (hE:EnvOk P E) (hD:m5 P D) {f:FuncId} {fn:Func} (hf:P.funcs[f]?=some fn) (nN:∀ args w,(callFunc f args).run P w=.ok (.enter f args) w)
  (m6:∀ i b,b∈S.ae i→b.own=false) (sj:∀ i b,S.new i=some b→b.iR=true)
  (h:∀ i,S.pre i→cI E D fn (S.args i) ((S.ae i).map some) (gQ S i))
  (hI:ie P E:=by exact ie.none rfl) (hy:E.ys=[]:=by rfl) (hu:E.nu=(fun _=>none):=by rfl):cZ P f S:=by
 refine ⟨nN,m6,sj,fun i hp ν as w n has hH gp=>?_⟩
 refine xQ (O:=fun _=>False) (ν:=ν) (hE.x hI hy) hD hf (h i hp) has hH (fun id bu=>gp id (by simpa using bu)) (fun id b l hb ho=>?_) (Bc hu) ?_
 ·rw [m6 i b (List.mem_of_getElem? (sR hb))] at ho; cases ho
 intro aj v v' t H' a w' hi hk hv
 have hb:Below w.heap.size w w':=⟨hi.kp.os,hi.kp.tape,hi.kp.output,hi.kp.size,fun k hk=>hi.kp.aH k hk (fun h=>h)⟩
 unfold gQ at hk
 split at hk
 ·rename_i dD
  obtain ⟨v2,nF,zC⟩:=hk
  have h1:=vE 3 _ _ _ nF (an.Hq zC hv)
  refine ⟨v',ν,rfl,⟨ν.le_refl,fun _ _=>rfl,h1.mono (fun j lj hj=>?_),hb,fun _=>rfl,(fun b hb=>by rw [dD] at hb; cases hb)⟩⟩
  unfold Nu.comp at hj
  by_cases ak:j < (S.ae i).length
  ·rw [List.getElem?_range ak] at hj
   have hj:aj j=some lj:=hj
   obtain ⟨l0,e1,_⟩:=hH.aH j ((S.ae i)[j]) (by simp [ak])
   have:=hi.mono j l0 e1
   rw [hj] at this; cases this
   exact e1
  ·have:(List.range (S.ae i).length)[j]?=none:=List.getElem?_eq_none (by simp; omega)
   rw [this] at hj; cases hj
 ·rename_i b dD
  obtain ⟨p,hk⟩:=hk
  obtain ⟨c,hc,⟨ho,hle⟩,v2,nF,zC⟩:=gA hk
  obtain ⟨l,hl,hB⟩:=hi.hp.aH p c hc
  have uO:ν (S.ae i).length=none:=gp _ (Nat.le_refl _)
  refine ⟨v',ν.add (S.ae i).length l,rfl,⟨Nu.j6 uO,fun id bu=>Nu.iQ bu,?_,hb,(fun h=>by rw [dD] at h; cases h),(fun b' bD=>?_)⟩⟩
  ·have h1:=vE 3 _ _ _ nF (an.Hq zC hv)
   refine h1.mono (fun j lj hj=>?_)
   unfold Nu.comp at hj
   rcases Nat.lt_trichotomy j (S.ae i).length with ak | he | OZ
   ·rw [SR ak] at hj
    have hj:aj j=some lj:=hj
    obtain ⟨l0,e1,_⟩:=hH.aH j ((S.ae i)[j]) (by simp [ak])
    have:=hi.mono j l0 e1
    rw [hj] at this; cases this
    rw [Nu.iQ (by omega)]; exact e1
   ·subst he
    have:(List.range (S.ae i).length++[p])[(S.ae i).length]?=some p:=by simp
    rw [this] at hj
    have hj:aj p=some lj:=hj
    rw [hl] at hj; cases hj
    exact Nu.add_same
   ·have:(List.range (S.ae i).length++[p])[j]?=none:=List.getElem?_eq_none (by simp; omega)
    rw [this] at hj; cases hj
  ·rw [dD] at bD; cases bD
   refine ⟨l,Nu.add_same,hB.le ⟨hle,by have:=sj i b dD; cases b <;> first | rfl | cases this⟩,?_⟩
   rcases hi.own p c l hc ho hl with h | h
   ·exact h.elim
   ·exact h
/-! ### Functions that write, or give several blocks -/
structure yE where
 ι:Type
 args:ι→List Value
 ae:ι→List ai
 pre:ι→Prop
 val:ι→Value
 post:ι→List ai
 new:ι→List ai
def wG (H:ax):List Nat→List ai→List ai→(ax→Prop)→Prop
 | [],[],[],k=>k H
 | s::σ,b::bs,p::ps,k=>match b.own with
  | true=>match p with
   | .cm _=>False
   | p=>jr H s (some p) fun H'=>wG H' σ bs ps k
  | false=>wG H σ bs ps k
 | _,_,_,_=>False
def Be (H:ax):List ai→(ax→Prop)→Prop
 | [],k=>k H
 | b::bs,k=>match b with
  | .cm _=>False
  | b=>ox H (some b) fun H'=>Be H' bs k
def wg:Nat→Nat→List Nat
 | _,0=>[]
 | a,n+1=>a::wg (a+1) n
def Co:List ai→Nat
 | []=>0
 | _::l=>Co l+1
def zD (S:yE):FT:=fun args H K=>∃ (i:S.ι) (σ:List Nat),mi σ 3 (S.args i)=some args∧S.pre i∧σ.Nodup∧yu H σ (S.ae i) (js H fun n0=>wG H σ (S.ae i) (S.post i) fun H1=>Be H1 (S.new i) fun H2 =>
 ∃ v,cP (σ++wg n0 (Co (S.new i))) 3 (S.val i)=some v∧pB v fun v=>K v H2)
/-- What the function's own evaluation must come to: ps are the places of the new blocks. -/
def yT (S:yE) (i:S.ι) (v:Value) (H:ax):Prop :=
 ∃ ps:List Nat,ps.Nodup∧(∀ p∈ps,(S.ae i).length≤p)∧ps.length=(S.new i).length ∧
  (∀ (j:Nat) (b q:ai),(S.ae i)[j]?=some b→(S.post i)[j]?=some q→b.own=true→∃ c,H[j]?=some (some c)∧c.own=true∧aA q c) ∧
  (∀ (j p:Nat) (b:ai),ps[j]?=some p→(S.new i)[j]?=some b→∃ c,H[p]?=some (some c)∧c.own=true∧aA b c) ∧
  ∃ v',cP (List.range (S.ae i).length++ps) 3 (S.val i)=some v'∧dT v v'
theorem Kn:∀ {n a j:Nat},(wg a n)[j]?=if j < n then some (a+j) else none
 | 0,a,j=>by simp [wg]
 | n+1,a,0=>by simp [wg]
 | n+1,a,j+1=>by
  have:=Kn (n:=n) (a:=a+1) (j:=j)
  simp only [wg,List.getElem?_cons_succ,this]
  by_cases h:j < n
  ·rw [if_pos h,if_pos (by omega)]; congr 1; omega
  ·rw [if_neg h,if_neg (by omega)]
theorem My:∀ {l:List ai},Co l=l.length
 | []=>rfl
 | _::l=>by simp [Co,My (l:=l)]
theorem Jw:∀ {bs:List ai} {H:ax} {k:ax→Prop},Be H bs k→k (H++bs.map some)∧∀ b∈bs,b.rc=none
 | [],H,k,h=>by
  have h:k H:=h
  exact ⟨by simpa using h,fun b hb=>by cases hb⟩
 | b::bs,H,k,h=>by
  have h:b.rc=none∧ox H (some b) fun H'=>Be H' bs k:=by
   cases b with
   | aQ o e r=>exact ⟨rfl,h⟩
   | flat o n e g=>exact ⟨rfl,h⟩
   | cm r=>exact h.elim
  have:=Jw (bs:=bs) (xD h.2)
  refine ⟨by simpa using this.1,fun c hc=>?_⟩
  rcases List.mem_cons.1 hc with rfl | hc
  ·exact h.1
  ·exact this.2 c hc
theorem DP:∀ {σ:List Nat} {bs ps:List ai} {H:ax} {k:ax→Prop},σ.Nodup→wG H σ bs ps k→∃ H1,k H1∧H1.length=H.length∧(∀ id,id ∉ σ→H1[id]?=H[id]?) ∧
  ∀ (j s:Nat) (b:ai),σ[j]?=some s→bs[j]?=some b→(b.own=true→∃ p,ps[j]?=some p∧H1[s]?=some (some p)∧p.rc=none)∧(b.own=false→H1[s]?=H[s]?)
 | [],[],[],H,k,_,h=>⟨H,h,rfl,fun _ _=>rfl,fun j s b hj=>by simp at hj⟩
 | s::σ,b::bs,p::ps,H,k,hn,h=>by
  obtain ⟨hs,hn⟩:=List.nodup_cons.1 hn
  unfold wG at h
  split at h
  ·rename_i ho
   have Ir:p.rc=none∧jr H s (some p) fun H'=>wG H' σ bs ps k:=by
    cases p with
    | aQ o e r=>exact ⟨rfl,h⟩
    | flat o n e g=>exact ⟨rfl,h⟩
    | cm r=>exact h.elim
   obtain ⟨Ir,h⟩:=Ir
   obtain ⟨ak,h⟩:=lW h
   obtain ⟨H1,h1,J,h3,h4⟩:=DP hn h
   refine ⟨H1,h1,by rw [J]; simp,fun id bu=>?_,fun j s' b' hj hb=>?_⟩
   ·rw [List.mem_cons,not_or] at bu
    rw [h3 id bu.2,List.getElem?_set_ne (Ne.symm bu.1)]
   ·cases j with
    | zero =>
     simp at hj hb; subst hj; subst hb
     refine ⟨fun _=>⟨p,rfl,?_,Ir⟩,(fun h=>by rw [ho] at h; cases h)⟩
     rw [h3 s hs,List.getElem?_set_self ak]
    | succ j =>
     obtain ⟨h5,h6⟩:=h4 j s' b' (by simpa using hj) (by simpa using hb)
     refine ⟨fun h=>by simpa using h5 h,fun h=>?_⟩
     rw [h6 h,List.getElem?_set_ne]
     intro e
     subst e
     exact hs (List.mem_of_getElem? (by simpa using hj))
  ·rename_i ho
   obtain ⟨H1,h1,J,h3,h4⟩:=DP hn h
   refine ⟨H1,h1,J,fun id bu=>?_,fun j s' b' hj hb=>?_⟩
   ·rw [List.mem_cons,not_or] at bu
    exact h3 id bu.2
   ·cases j with
    | zero =>
     simp at hj hb; subst hj; subst hb
     exact ⟨(fun h=>by rw [ho] at h; cases h),fun _=>h3 s hs⟩
    | succ j=>simpa using h4 j s' b' (by simpa using hj) (by simpa using hb)
 | [],_::_,_,H,k,_,h=>by cases h
 | [],[],_::_,H,k,_,h=>by cases h
 | _::_,[],_,H,k,_,h=>by cases h
 | _::_,_::_,[],H,k,_,h=>by cases h
theorem Nd {S:yE} (hE:EnvOk P E) (hD:m5 P D) {f:FuncId} {fn:Func} (hf:P.funcs[f]?=some fn) (nN:∀ args w,(callFunc f args).run P w=.ok (.enter f args) w)
  (h:∀ i,S.pre i→cI E D fn (S.args i) ((S.ae i).map some) (yT S i))
  (hI:ie P E:=by exact ie.none rfl) (hy:E.ys=[]:=by rfl) (hu:E.nu=(fun _=>none):=by rfl):gl P f (zD S):=by
 refine ⟨nN,fun args H K hFT ν as w n O has hH gp kg=>?_⟩
 obtain ⟨i,σ,nF,hp,my,nM⟩:=hFT
 obtain ⟨hlen,hσ,nM⟩:=DH nM
 obtain ⟨H1,nM,kl,ack,Oy⟩:=DP my (lX nM)
 obtain ⟨⟨v2,NP,hK⟩,acm⟩:=Jw nM
 have hK:=vf hK
 rw [My] at NP
 have ny:=s6 (vE (ν:=ν) 3) nF has
 -- the callee's blocks
 let Oc:Nat→Prop:=fun x=>∃ (j s:Nat) (b:ai) (l:Loc),σ[j]?=some s∧(S.ae i)[j]?=some b∧b.own=true∧ν s=some l∧x=l.aH
 have rV:∀ (j:Nat) (b:ai),(S.ae i)[j]?=some b→∃ s,σ[j]?=some s∧∃ c l,H[s]?=some (some c)∧Bv b c∧ν s=some l∧bQ ν l c w:=by
  intro j b hb
  have ak:j < σ.length:=by rw [hlen]; exact (List.getElem?_eq_some_iff.1 hb).1
  obtain ⟨c,h1,J⟩:=hσ j _ b (List.getElem?_eq_getElem ak) hb
  obtain ⟨l,h3,h4⟩:=hH.aH _ _ h1
  exact ⟨_,List.getElem?_eq_getElem ak,c,l,h1,J,h3,h4⟩
 have mO:∀ (j s:Nat),σ[j]?=some s→(ν.comp σ) j=ν s:=fun j s hj=>by simp [Nu.comp,hj]
 have Is:bT (ν.comp σ) ((S.ae i).map some) w:=by
  refine ⟨fun j b hj=>?_,fun j q bj bq lj lq hj hq aK ho e1 e2=>?_⟩
  ·obtain ⟨s,h1,c,l,J,h3,h4,h5⟩:=rV j b (sR hj)
   exact ⟨l,by rw [mO j s h1,h4],h5.le h3⟩
  ·obtain ⟨s,h1,c,l,J,h3,h4,h5⟩:=rV j bj (sR hj)
   obtain ⟨s',fh,c',l',jV,sD,qi,zE⟩:=rV q bq (sR hq)
   rw [mO j s h1,h4] at e1; obtain rfl:=Option.some.inj e1
   rw [mO q s' fh,qi] at e2; obtain rfl:=Option.some.inj e2
   refine hH.sep s s' c c' _ _ J jV (fun e=>aK ?_) (ai.c5 (h3.own ho).1).1 h4 qi
   subst e
   exact (List.getElem?_inj (List.getElem?_eq_some_iff.1 h1).1 my).1 (h1.trans fh.symm)
 have acn:∀ id,((S.ae i).map some).length≤id→(ν.comp σ) id=none:=by
  intro id bu
  rw [List.length_map] at bu
  simp [Nu.comp,List.getElem?_eq_none (show σ.length≤id by omega)]
 have aaO:∀ id b l,((S.ae i).map some)[id]?=some (some b)→b.own=true→(ν.comp σ) id=some l→Oc l.aH:=by
  intro id b l hb ho hl
  obtain ⟨s,h1,c,l',J,h3,h4,h5⟩:=rV id b (sR hb)
  rw [mO id s h1,h4] at hl; obtain rfl:=Option.some.inj hl
  exact ⟨id,s,b,_,h1,sR hb,ho,h4,rfl⟩
 have qh:∀ x,Oc x→O x:=by
  rintro x ⟨j,s,b,l,h1,J,h3,h4,rfl⟩
  obtain ⟨s',fh,c,l',jV,sD,qi,_⟩:=rV j b J
  rw [h1] at fh; cases fh
  exact kg s c l jV (ai.c5 (sD.own h3).1).1 h4
 refine xQ (O:=Oc) (ν:=ν.comp σ) (hE.x hI hy) hD hf (h i hp) ny Is acn aaO (Bc hu) ?_
 intro dR v v' t H' a w' hi hk hv
 obtain ⟨ps,hpn,aco,kP,aaP,dD,v3,aaQ,zC⟩:=hk
 have rU:(ν.comp σ).le dR:=hi.mono
 let aj:Nu:=fun id=>if id < H.length then ν id else (ps[id - H.length]?).bind dR
 have tG:∀ id,id < H.length→aj id=ν id:=fun id h=>by simp only [aj]; rw [if_pos h]
 have rz:∀ j p,ps[j]?=some p→aj (H.length+j)=dR p:=fun j p h=>by
  simp only [aj]; rw [if_neg (by omega),Nat.add_sub_cancel_left,h]; rfl
 have GJ:ν.le aj:=by
  intro id l bu
  have:id < H.length:=by
   rcases Nat.lt_or_ge id H.length with h | h
   ·exact h
   ·rw [gp id h] at bu; cases bu
  rw [tG id this]; exact bu
 -- own blocks of the arguments, behind the call
 have NQ:∀ (j s:Nat) (b:ai) (l:Loc),σ[j]?=some s→(S.ae i)[j]?=some b→b.own=true→ν s=some l→∃ q c,(S.post i)[j]?=some q∧H1[s]?=some (some q)∧H'[j]?=some (some c)∧c.own=true∧Bv q c∧dR j=some l:=by
  intro j s b l h1 J h3 h4
  obtain ⟨q,h5,h6,h60⟩:=(Oy j s b h1 J).1 h3
  obtain ⟨c,h7,h8,h9⟩:=aaP j b q J h5 h3
  exact ⟨q,c,h5,h6,h7,h8,⟨h9,h60⟩,rU j l (by rw [mO j s h1]; exact h4)⟩
 -- a block that the callee does not own has not turned
 have GH:∀ (id:Nat) (b:ai) (l:Loc),H[id]?=some (some b)→ν id=some l→(∀ (j:Nat) (c:ai),σ[j]?=some id→(S.ae i)[j]?=some c→c.own=false)→¬ Oc l.aH∧w'.heap[l.aH]?=w.heap[l.aH]?:=by
  intro id b l hb hl qm
  obtain ⟨l0,e1,hB⟩:=hH.aH id b hb
  rw [hl] at e1; cases e1
  have Pr:¬ Oc l.aH:=by
   rintro ⟨j,s,bj,lj,h1,J,h3,h4,h5⟩
   obtain ⟨s',fh,c,l',jV,sD,qi,_⟩:=rV j bj J
   rw [h1] at fh; cases fh
   have aK:s≠id:=by
    intro e
    subst e
    have:=qm j bj h1 J
    rw [h3] at this; cases this
   exact hH.sep s id c b lj l jV hb aK (ai.c5 (sD.own h3).1).1 h4 hl h5.symm
  exact ⟨Pr,hi.kp.aH _ hB.live Pr⟩
 -- the callee's new blocks
 have aaR:∀ (j p:Nat) (b:ai),ps[j]?=some p→(S.new i)[j]?=some b→∃ c l,H'[p]?=some (some c)∧c.own=true∧aA b c∧dR p=some l∧bQ dR l c w'∧w.heap.size≤l.aH:=by
  intro j p b h1 J
  obtain ⟨c,h3,h4,h5⟩:=dD j p b h1 J
  obtain ⟨l,h6,h7⟩:=hi.hp.aH p c h3
  refine ⟨c,l,h3,h4,h5,h6,h7,?_⟩
  rcases hi.own p c l h3 h4 h6 with ⟨j',s,b',l',k1,k2,k3,k4,k5⟩ | h
  ·obtain ⟨q,c',_,_,k6,k7,_,k8⟩:=NQ j' s b' l' k1 k2 k3 k4
   have ak:j' < (S.ae i).length:=(List.getElem?_eq_some_iff.1 k2).1
   have:=aco p (List.mem_of_getElem? h1)
   exact absurd k5 (hi.hp.sep p j' c c' l l' h3 k6 (by omega) h4 h6 k8)
  ·exact h
 -- which blocks there are behind the call
 have wD:∀ (id:Nat) (b:ai),(H1++(S.new i).map some)[id]?=some (some b)→
   (id < H.length∧∃ b0 l,H[id]?=some (some b0)∧ν id=some l∧(b.own=true→b0.own=true)∧bQ aj l b w'∧((∃ (j:Nat) (bj:ai),σ[j]?=some id∧(S.ae i)[j]?=some bj∧bj.own=true)∨(¬ Oc l.aH∧l.aH < w.heap.size))) ∨
   (∃ (j p:Nat) (c:ai) (l:Loc),id=H.length+j∧ps[j]?=some p∧(S.new i)[j]?=some b∧H'[p]?=some (some c)∧c.own=true∧dR p=some l∧bQ aj l b w'∧w.heap.size≤l.aH):=by
  intro id b hb
  rw [List.getElem?_append] at hb
  split at hb
  ·rename_i ak
   rw [kl] at ak
   refine .inl ⟨ak,?_⟩
   by_cases gG:∃ (j:Nat) (bj:ai),σ[j]?=some id∧(S.ae i)[j]?=some bj∧bj.own=true
   ·obtain ⟨j,bj,h1,J,h3⟩:=gG
    obtain ⟨s',fh,c,l,h4,h5,h6,h7⟩:=rV j bj J
    rw [h1] at fh; cases fh
    obtain ⟨q,c',h8,h9,Iu,h11,h12,h13⟩:=NQ j id bj l h1 J h3 h6
    rw [h9] at hb; cases hb
    obtain ⟨l',Ps,h15⟩:=hi.hp.aH j c' Iu
    rw [h13] at Ps; cases Ps
    exact ⟨c,l,h4,h6,fun _=>(ai.c5 (h5.own h3).1).1,h15.le h12,.inl ⟨j,bj,h1,J,h3⟩⟩
   ·have qm:∀ (j:Nat) (c:ai),σ[j]?=some id→(S.ae i)[j]?=some c→c.own=false:=by
     intro j c h1 J
     cases h:c.own with
     | false=>rfl
     | true=>exact absurd ⟨j,c,h1,J,h⟩ gG
    have Iv:H[id]?=some (some b):=by
     by_cases oO:id∈σ
     ·obtain ⟨j,hj⟩:=List.getElem?_of_mem oO
      have HK:j < (S.ae i).length:=by rw [← hlen]; exact (List.getElem?_eq_some_iff.1 hj).1
      have:=(Oy j id _ hj (List.getElem?_eq_getElem HK)).2 (qm j _ hj (List.getElem?_eq_getElem HK))
      rw [← this]; exact hb
     ·rw [← ack id oO]; exact hb
    obtain ⟨l,h1,J⟩:=hH.aH id b Iv
    obtain ⟨h3,h4⟩:=GH id b l Iv h1 qm
    exact ⟨b,l,Iv,h1,fun h=>h,(J.same h4 hi.kp.size).mono GJ,.inr ⟨h3,J.live⟩⟩
  ·rename_i eG
   rw [kl] at hb eG
   have hb:=sR hb
   have ak:id - H.length < ps.length:=by rw [kP]; exact (List.getElem?_eq_some_iff.1 hb).1
   obtain ⟨c,l,h1,J,h3,h4,h5,h6⟩:=aaR _ _ b (List.getElem?_eq_getElem ak) hb
   exact .inr ⟨id - H.length,_,c,l,by omega,List.getElem?_eq_getElem ak,hb,h1,J,h4,h5.le ⟨h3,acm b (List.mem_of_getElem? hb)⟩,h6⟩
 have ac2:∀ (j p:Nat),ps[j]?=some p→aj (H.length+j)=dR p:=rz
 refine ⟨v2,v',aj,H1++(S.new i).map some,rfl,hK,?_,GJ,⟨fun id b hb=>?_,fun p q bp bq lp lq HO HU aK ho e1 e2=>?_⟩,fun id bu=>?_,⟨hi.kp.os,hi.kp.tape,hi.kp.output,hi.kp.size,fun b h1 J=>hi.kp.aH b h1 (fun h=>J (qh b h))⟩,fun id b l hb ho hl=>?_⟩
 ·have h1:=vE 3 _ _ _ aaQ (an.Hq zC hv)
  refine EL 3 _ _ _ NP (h1.mono (fun j lj hj=>?_))
  unfold Nu.comp at hj ⊢
  by_cases ak:j < (S.ae i).length
  ·rw [List.getElem?_append_left (by simpa using ak),List.getElem?_range ak] at hj
   have hj:dR j=some lj:=hj
   obtain ⟨s,J,c,l,h3,h4,h5,_⟩:=rV j _ (List.getElem?_eq_getElem ak)
   have:=rU j l (by rw [mO j s J]; exact h5)
   rw [hj] at this; cases this
   rw [List.getElem?_append_left (List.getElem?_eq_some_iff.1 J).1,J]
   exact GJ s lj h5
  ·rw [List.getElem?_append_right (by simp; omega)] at hj
   rw [List.length_range] at hj
   rw [List.getElem?_append_right (by omega),Kn,hlen]
   cases sA:ps[j - (S.ae i).length]? with
   | none=>rw [sA] at hj; cases hj
   | some p =>
    rw [sA] at hj
    have hj:dR p=some lj:=hj
    have:=(List.getElem?_eq_some_iff.1 sA).1
    rw [if_pos (by omega)]
    show aj (H.length+(j - (S.ae i).length))=_
    rw [rz _ _ sA]; exact hj
 ·rcases wD id b hb with ⟨ak,b0,l,h1,J,_,h3,_⟩ | ⟨j,p,c,l,rfl,h1,J,h3,h4,h5,h6,h7⟩
  ·exact ⟨l,by rw [tG id ak]; exact J,h3⟩
  ·exact ⟨l,by rw [rz j p h1]; exact h5,h6⟩
 ·rcases wD p bp HO with ⟨ak,b0,l,h1,J,h3,h4,h5⟩ | ⟨j,pp,c,l,rfl,h1,J,h3,h4,h5,h6,h7⟩ <;>
   rcases wD q bq HU with ⟨pU,Pt,l',fh,jV,sD,qi,zE⟩ | ⟨j',pp',c',l',rfl,fh,jV,sD,qi,zE,h6',h7'⟩
  ·rw [tG p ak,J] at e1; cases e1
   rw [tG q pU,jV] at e2; cases e2
   exact hH.sep p q b0 Pt _ _ h1 fh aK (h3 ho) J jV
  ·rw [tG p ak,J] at e1; cases e1
   rw [rz _ _ fh,zE] at e2; cases e2
   have:=(hH.aH p b0 h1)
   obtain ⟨l0,e3,e4⟩:=this
   rw [J] at e3; cases e3
   have:=e4.live
   omega
  ·rw [rz _ _ h1,h5] at e1; cases e1
   rw [tG q pU,jV] at e2; cases e2
   obtain ⟨l0,e3,e4⟩:=hH.aH q Pt fh
   rw [jV] at e3; cases e3
   have:=e4.live
   omega
  ·rw [rz _ _ h1,h5] at e1; cases e1
   rw [rz _ _ fh,zE] at e2; cases e2
   refine hi.hp.sep pp pp' c c' _ _ h3 sD (fun e=>aK ?_) h4 h5 zE
   subst e
   rw [(List.getElem?_inj (List.getElem?_eq_some_iff.1 h1).1 hpn).1 (h1.trans fh.symm)]
 ·rw [List.length_append,List.length_map,kl] at bu
  simp only [aj]
  rw [if_neg (by omega),List.getElem?_eq_none (by omega)]
  rfl
 ·rcases wD id b hb with ⟨ak,b0,l',h1,J,h3,_⟩ | ⟨j,p,c,l',rfl,h1,J,h3,h4,h5,h6,h7⟩
  ·rw [tG id ak,J] at hl; cases hl
   exact .inl (kg id b0 _ h1 (h3 ho) J)
  ·rw [rz j p h1,h5] at hl; cases hl
   exact .inr h7
end
end Go.Ae
/- '==' of structs of plain cells, checked by evaluation of the types. -/
namespace Go.Ae
open Go Go.RowKit
def Bf (P:Program) (g:TypeId→Option (Bool × List Value)):Nat→List Field→Option (List Value)
 | _,[]=>some []
 | o, f :: l => match Nat.beq f.offset o && (f.name != "_"), g f.type, P.info? f.type, P.underlying f.type with
  | true,some (b,z),some i,some d=>match Nat.beq i.size z.length && (tC d == b) && Nat.ble 1 z.length with
   | true=>match Bf P g (o+z.length) l with
    | some zs=>some (z++zs)
    | none=>none
   | false=>none
  | _,_,_,_=>none
/-- The cells of a type whose '==' is that of its cells; whether it is an aggregate. -/
def wH (P:Program):Nat→TypeId→Option (Bool × List Value)
 | 0,_=>none
 | d+1,t=>match P.underlying t with
  | some .bool=>some (false,[.bool false])
  | some (.int q)=>some (false,[.int q 0])
  | some .string=>some (false,[.string ⟨#[]⟩])
  | some (.struct fs)=>match P.stoodInHeld t with
   | true=>none
   | false=>match Bf P (wH P d) 0 fs.toList with
    | some z=>some (true,z)
    | none=>none
  | _=>none
theorem qO:∀ {l m:List Value},fc l m=true→l.length=m.length
 | [],[],_=>rfl
 | .bool _::l,.bool _::m,h=>by simp [qO (l:=l) (m:=m) h]
 | .int q _::l,.int q' _::m,h=>by
  simp only [fc,Bool.and_eq_true] at h
  simp [qO (l:=l) (m:=m) h.2]
 | .string _::l,.string _::m,h=>by simp [qO (l:=l) (m:=m) h]
/-- One cell of the same kind. -/
def Iw (x v:Value):Prop:=(∃ a b,x=.bool a∧v=.bool b)∨(∃ q a b,x=.int q a∧v=.int q b)∨∃ a b,x=.string a∧v=.string b
theorem BA {xs z:List Value} {v:Value} (h:fc xs (v::z)=true):∃ x l,xs=x::l∧Iw x v∧fc l z=true:=by
 generalize e:v::z=w at h
 unfold fc at h
 split at h
 ·cases e
 ·cases e; exact ⟨_,_,rfl,.inl ⟨_,_,rfl,rfl⟩,h⟩
 ·cases e
  simp only [Bool.and_eq_true,decide_eq_true_eq] at h
  obtain ⟨rfl,h⟩:=h
  exact ⟨_,_,rfl,.inr (.inl ⟨_,_,_,rfl,rfl⟩),h⟩
 ·cases e; exact ⟨_,_,rfl,.inr (.inr ⟨_,_,rfl,rfl⟩),h⟩
 ·cases h
theorem F5 {xs:List Value} (h:fc xs []=true):xs=[]:=List.length_eq_zero_iff.1 (qO h)
theorem VB {x v:Value} {l z:List Value} (h:Iw x v) (J:fc l z=true):fc (x::l) (v::z)=true:=by
 rcases h with ⟨a,b,rfl,rfl⟩ | ⟨q,a,b,rfl,rfl⟩ | ⟨a,b,rfl,rfl⟩
 ·exact J
 ·simp only [fc,decide_true,Bool.true_and]; exact J
 ·exact J
theorem Df:∀ {z xs zs:List Value},fc xs (z++zs)=true→∃ x1 x2,xs=x1++x2∧fc x1 z=true∧fc x2 zs=true
 | [],xs,zs,h=>⟨[],xs,rfl,rfl,h⟩
 | v::z,xs,zs,h=>by
  obtain ⟨x,l,rfl,h1,J⟩:=BA (z:=z++zs) h
  obtain ⟨x1,x2,rfl,h3,h4⟩:=Df J
  exact ⟨x::x1,x2,rfl,VB h1 h3,h4⟩
theorem Jg:∀ {z x1 y1 x2 y2:List Value},fc x1 z=true→fc y1 z=true→eT (x1++x2) (y1++y2)=(eT x1 y1 && eT x2 y2)
 | [],x1,y1,x2,y2,h1,J=>by
  rw [F5 h1,F5 J]
  simp [eT]
 | v::z,x1,y1,x2,y2,h1,J=>by
  obtain ⟨x,l,rfl,a1,a2⟩:=BA h1
  obtain ⟨y,m,rfl,b1,b2⟩:=BA J
  have ih:=Jg (x2:=x2) (y2:=y2) a2 b2
  rcases a1 with ⟨p,_,rfl,rfl⟩ | ⟨q,p,_,rfl,rfl⟩ | ⟨p,_,rfl,rfl⟩
  all_goals
   rcases b1 with ⟨r,_,rfl,e⟩ | ⟨q',r,_,rfl,e⟩ | ⟨r,_,rfl,e⟩
  all_goals first | (cases e; done) | skip
  all_goals
   simp only [List.cons_append,eT,ih,Bool.and_assoc]
theorem wh {xs:List Value} {v:Value} (h:fc xs [v]=true):∃ x,xs=[x]∧Iw x v:=by
 obtain ⟨x,l,rfl,h1,J⟩:=BA h
 rw [F5 J]
 exact ⟨x,rfl,h1⟩
def toV (b:Bool) (xs:List Value):Value:=if b then .agg ⟨xs⟩ else xs.getD 0 undef
theorem Jx {P:Program} {d:Nat} (ih:∀ t b z,wH P d t=some (b,z)→∀ n xs ys w,fc xs z=true→fc ys z=true→(Op.equalIn (n+d) t (toV b xs) (toV b ys)).run P w=.ok (eT xs ys) w) (n:Nat) (w:World) (XS YS:List Value) :
  ∀ (l:List Field) (o:Nat) (z:List Value),Bf P (wH P d) o l=some z→∀ xs ys,fc xs z=true→fc ys z=true→(∀ j v,xs[j]?=some v→XS[o+j]?=some v)→(∀ j v,ys[j]?=some v→YS[o+j]?=some v) →
   (Op.eqFields (n+d) ⟨XS⟩ ⟨YS⟩ l).run P w=.ok (eT xs ys) w
 | [],o,z,h,xs,ys,h1,J,_,_=>by
  cases h
  have e1:=qO h1
  have e2:=qO J
  have e1:xs=[]:=List.length_eq_zero_iff.1 e1
  have e2:ys=[]:=List.length_eq_zero_iff.1 e2
  subst e1; subst e2
  rfl
 | f::l,o,z,h,xs,ys,h1,J,hx,hy=>by
  unfold Bf at h
  split at h
  ·rename_i b z1 i dd hb hg hi hu
   split at h
   ·rename_i hc
    split at h
    ·rename_i zs hz
     cases h
     simp only [Bool.and_eq_true] at hb hc
     obtain ⟨⟨c1,c2⟩,c3⟩:=hc
     obtain ⟨x1,x2,rfl,w9,p8⟩:=Df h1
     obtain ⟨y1,y2,rfl,oN,p9⟩:=Df J
     have lx:=qO w9
     have ly:=qO oN
     have bn:=Nat.eq_of_beq_eq_true c1
     have Pu:x0 P f (o,z1.length,b):=⟨Nat.eq_of_beq_eq_true hb.1,Nat.le_of_ble_eq_true c3,⟨i,hi,bn⟩,dd,hu,by simpa using c2⟩
     have p1:=EJ Pu (cs:=XS) (vs:=x1) lx (fun j v hv=>hx j v (by rw [List.getElem?_append_left (by rw [List.getElem?_eq_some_iff] at hv; exact hv.1)]; exact hv)) w
     have p2:=EJ Pu (cs:=YS) (vs:=y1) ly (fun j v hv=>hy j v (by rw [List.getElem?_append_left (by rw [List.getElem?_eq_some_iff] at hv; exact hv.1)]; exact hv)) w
     have p3:=ih f.type b z1 hg n x1 y1 w w9 oN
     have p4:=Jx ih n w XS YS l (o+z1.length) zs hz x2 y2 p8 p9
      (fun j v hv=>by
       rw [Nat.add_assoc]
       refine hx _ v ?_
       rw [List.getElem?_append_right (by omega),← lx,Nat.add_sub_cancel_left]
       exact hv)
      (fun j v hv=>by
       rw [Nat.add_assoc]
       refine hy _ v ?_
       rw [List.getElem?_append_right (by omega),← ly,Nat.add_sub_cancel_left]
       exact hv)
     have aK : f.name ≠ "_" := by simpa using hb.2
     unfold Op.eqFields
     rw [if_pos aK]
     unfold toV at p3
     simp only [Sem.run_bind,p1,p2,Result.andThen_ok]
     rw [p3]
     simp only [Result.andThen_ok]
     rw [Jg w9 oN]
     cases eT x1 y1
     ·rfl
     ·simpa using p4
    ·cases h
   ·cases h
  ·cases h
theorem Ko {P:Program}:∀ (d:Nat) (t:TypeId) (b:Bool) (z:List Value),wH P d t=some (b,z)→∀ (n:Nat) (xs ys:List Value) (w:World),fc xs z=true→fc ys z=true →
  (Op.equalIn (n+d) t (toV b xs) (toV b ys)).run P w=.ok (eT xs ys) w
 | 0,t,b,z,h=>by cases h
 | d+1,t,b,z,h=>by
  intro n xs ys w h1 J
  unfold wH at h
  split at h
  ·rename_i hu
   cases h
   obtain ⟨x,rfl,a1⟩:=wh h1
   obtain ⟨y,rfl,a2⟩:=wh J
   rcases a1 with ⟨x,_,rfl,e⟩ | ⟨_,x,_,rfl,e⟩ | ⟨x,_,rfl,e⟩
   all_goals first | (cases e; done) | skip
   rcases a2 with ⟨y,_,rfl,e⟩ | ⟨_,y,_,rfl,e⟩ | ⟨y,_,rfl,e⟩
   all_goals first | (cases e; done) | skip
   ·skip
    rw [show toV false [Value.bool x]=.bool x from rfl,show toV false [Value.bool y]=.bool y from rfl]
    rw [show n+(d+1)=(n+d)+1 from rfl,run_equalIn_bool' w (n+d) t x y hu]
    simp [eT]
  ·rename_i q hu
   cases h
   obtain ⟨x,rfl,a1⟩:=wh h1
   obtain ⟨y,rfl,a2⟩:=wh J
   rcases a1 with ⟨x,_,rfl,e⟩ | ⟨q1,x,_,rfl,e⟩ | ⟨x,_,rfl,e⟩
   all_goals first | (cases e; done) | skip
   cases e
   rcases a2 with ⟨y,_,rfl,e⟩ | ⟨q2,y,_,rfl,e⟩ | ⟨y,_,rfl,e⟩
   all_goals first | (cases e; done) | skip
   cases e
   ·skip
    rw [show toV false [Value.int q x]=.int q x from rfl,show toV false [Value.int q y]=.int q y from rfl]
    rw [show n+(d+1)=(n+d)+1 from rfl,run_equalIn_int w (n+d) t q q x y hu]
    simp [eT]
  ·rename_i hu
   cases h
   obtain ⟨x,rfl,a1⟩:=wh h1
   obtain ⟨y,rfl,a2⟩:=wh J
   rcases a1 with ⟨x,_,rfl,e⟩ | ⟨_,x,_,rfl,e⟩ | ⟨x,_,rfl,e⟩
   all_goals first | (cases e; done) | skip
   rcases a2 with ⟨y,_,rfl,e⟩ | ⟨_,y,_,rfl,e⟩ | ⟨y,_,rfl,e⟩
   all_goals first | (cases e; done) | skip
   ·skip
    rw [show toV false [Value.string x]=.string x from rfl,show toV false [Value.string y]=.string y from rfl]
    rw [show n+(d+1)=(n+d)+1 from rfl,run_equalIn_string w (n+d) t x y hu]
    simp [eT]
  ·rename_i fs hu
   split at h
   ·cases h
   ·rename_i ao
    split at h
    ·rename_i z0 hz
     cases h
     have uS:P.fieldsOf t=fs:=by unfold Program.fieldsOf; rw [hu]
     show (Op.equalIn (n+(d+1)) t (.agg ⟨xs⟩) (.agg ⟨ys⟩)).run P w=_
     rw [show n+(d+1)=(n+d)+1 from rfl,run_equalIn_struct w (n+d) t ⟨xs⟩ ⟨ys⟩ (by rw [uS]; exact hu) ao,uS]
     exact Jx (Ko d) n w xs ys fs.toList 0 _ hz xs ys h1 J (fun j v hv=>by rw [Nat.zero_add]; exact hv) (fun j v hv=>by rw [Nat.zero_add]; exact hv)
    ·cases h
  ·cases h
theorem acp {P:Program} {t:TypeId} {z:List Value} (h:wH P 5 t=some (true,z)) (hg:P.eqGuardType P.depth t=false):wS P t z:=by
 intro xs ys w h1 J
 refine ⟨?_,fun x y op=>run_eqGuard_agg w op t x y ⟨xs⟩ ⟨ys⟩ hg⟩
 exact Ko 5 t true z h 9995 xs ys w h1 J
end Go.Ae
/- A function called with a block of which less is known. -/
namespace Go.Ae
open Go Go.RowKit
/-- The first range over a function in some code. -/
def tU:Code→Option (Array Nat × Code × Code)
 | .rangeFunc _ ps a b=>some (ps,a,b)
 | .seq a b=>match tU a with
  | some x=>some x
  | none=>tU b
 | .block _ c=>tU c
 | .loop c=>tU c
 | .cond _ a b=>match tU a with
  | some x=>some x
  | none=>tU b
 | _=>none
/-- Its record, ready for a round. -/
def rW (f:Func) (fn:FuncId) (tm:Array Value) (df:Nat):Loop :=
 match f.body with
 | some c=>match tU c with
  | some (ps,a,b)=>⟨.ready,none,fn,tm,ps,a,b,df⟩
  | none=>⟨.ready,none,fn,tm,#[],.skip,.skip,df⟩
 | none=>⟨.ready,none,fn,tm,#[],.skip,.skip,df⟩
/-- A slice that grows, and its block. -/
def eU (id:Nat):Nat→Value
 | 0=>.slice none 0 0
 | q+1=>.slice (some ⟨id,0,none⟩) (q+1) aN
def yU (e:Nat) (F:Nat→List Value):Nat→ax
 | 0=>[]
 | q+1=>[some (.flat true (q+1) e F)]
end Go.Ae
