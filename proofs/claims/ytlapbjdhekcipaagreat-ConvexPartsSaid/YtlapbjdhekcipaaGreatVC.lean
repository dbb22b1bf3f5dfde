import Derived.Laws.StructEq
import Derived.Test.YtlapbjdhekcipaaGreatVB
set_option linter.unusedVariables false
set_option linter.unusedSimpArgs false
namespace Go.Ae
open Go Go.RowKit
def nj (es:List (Option Nat)) (D:Nat→Bool) (i:Nat):Bool:=(List.range es.length).any fun p=>D p && (es.getD p none == some i)
theorem tL {es:List (Option Nat)} {D:Nat→Bool} {i:Nat}:nj es D i=true↔∃ p,D p=true∧es[p]?=some (some i):=by
 unfold nj;rw [List.any_eq_true];constructor
 ·rintro ⟨p,hp,h⟩
  rw [Bool.and_eq_true,beq_iff_eq,List.getD_eq_getElem?_getD,List.getElem?_eq_getElem (List.mem_range.1 hp)] at h;exact ⟨p,h.1,by rw [List.getElem?_eq_getElem (List.mem_range.1 hp)]; exact congrArg some h.2⟩
 ·rintro ⟨p,h1,J⟩
  have ak:=(List.getElem?_eq_some_iff.1 J).1;refine ⟨p,List.mem_range.2 ak,?_⟩;rw [h1,List.getD_eq_getElem?_getD,J];simp
def iT (es:List (Option Nat)) (rs:List cZ) (D:Nat→Bool) (m:Nat):List (Option ah):=(List.range m).map fun i=>if D i && !nj es D i then (rs[i]?).bind (·.nb) else none
theorem wi {es:List (Option Nat)} {rs:List cZ} {D:Nat→Bool} {m i:Nat} {b:ah}:(iT es rs D m)[i]?=some (some b)↔i < m∧D i=true∧nj es D i=false∧(rs[i]?).bind (·.nb)=some b:=by
 unfold iT;rw [List.getElem?_map];by_cases h:i < m
 ·simp only [List.getElem?_range h,Option.map_some,Option.some.injEq];cases D i <;> cases nj es D i <;> simp [h]
 ·rw [List.getElem?_eq_none (by simp; omega)]
  simp [h]
theorem AH (es:List (Option Nat)) (rs:List cZ) (D:Nat→Bool) (m:Nat):(iT es rs D m).length=m:=by simp [iT]
def iU (es:List (Option Nat)) (rs:List cZ):List (Option ah):=iT es rs (fun i=>decide (i < rs.length)) rs.length
def Hd (ms:List (List Nat)) (j i:Nat):Bool :=
 decide (i < j) && (ms.getD j []).contains i && (List.range ms.length).all fun q=>q == j || !((ms.getD q []).contains i) || (ms.getD j []).contains q
theorem Sb {ms:List (List Nat)} {j i:Nat} (h:Hd ms j i=true):i < j∧i∈ms.getD j []∧∀ q,q≠j→i∈ms.getD q []→q∈ms.getD j []:=by
 unfold Hd at h;simp only [Bool.and_eq_true,decide_eq_true_eq,List.contains_iff_mem,List.all_eq_true,List.mem_range,Bool.or_eq_true,beq_iff_eq,Bool.not_eq_true'] at h;refine ⟨h.1.1,h.1.2,fun q hq hi=>?_⟩
 have ak:q < ms.length:=by
  rcases Nat.lt_or_ge q ms.length with h' | h'
  ·exact h'
  ·rw [List.getD_eq_getElem?_getD,List.getElem?_eq_none h'] at hi; cases hi
 rcases h.2 q ak with (h' | h') | h'
 ·exact absurd h' hq
 ·rw [List.contains_iff_mem.2 hi] at h'; cases h'
 ·exact h'
def nk (E:Env) (ops:List Oper) (vy:List (List Nat)) (H:aw) (n0:Nat):List Oper→List (List Nat)→Nat→List Value→List (Option ah)→(List Value→List (Option ah)→Prop)→Prop
 | [],_,_,t,S,k=>k t S
 | o::l,mask::aR,j,t,S,k =>
  match o.guard with
  | none=>match isApp o.op with
   | some (ty,x,y)=>lN S 0 mask fun Sm=>nI H Sm fun G=>O6 E t G n0 (n0+j) ty x y fun v gn nb=>match gn with
    | some i=>Hd vy j i=true∧dg t o.dst v fun t'=>jv S i none fun S1=>jt S1 nb fun S'=>nk E ops vy H n0 l aR (j+1) t' S' k
    | none=>dg t o.dst v fun t'=>jt S nb fun S'=>nk E ops vy H n0 l aR (j+1) t' S' k
   | none=>lN S 0 mask fun Sm=>nI H Sm fun G=>lC E o.op t G (n0+j) fun v nb=>dg t o.dst v fun t'=>jt S nb fun S'=>nk E ops vy H n0 l aR (j+1) t' S' k
  | some (g,want)=>match (ops[g]?).bind (·.dst) with
   | some d=>qM t d fun v=>match v with
    | .bool b=>br (b == want)
      (lN S 0 mask fun Sm=>nI H Sm fun G=>lC E o.op t G (n0+j) fun v nb=>dg t o.dst v fun t'=>jt S nb fun S'=>nk E ops vy H n0 l aR (j+1) t' S' k)
      (dg t o.dst undef fun t'=>jt S none fun S'=>nk E ops vy H n0 l aR (j+1) t' S' k)
    | .tuple _=>dg t o.dst undef fun t'=>jt S none fun S'=>nk E ops vy H n0 l aR (j+1) t' S' k
    | _=>False
   | none=>False
 | _::_,[],_,_,_,_=>False
def Om (E:Env) (ops:List Oper) (t:List Value) (H:aw) (k:SK):Prop :=
 ∃ (m:Nat) (aR:List (List Nat)),B7 ops m aR=true∧jw H fun n0=>uF ops m fun hd tl=>nk E ops aR H n0 hd aR 0 t [] fun t' S=>nI H S fun G=>nw E ops tl t' G k
structure ph (P:Program) (ops:List Oper) (t0:List Value) (H:aw) (aR:List (List Nat)) (rs:List cZ) (es:List (Option Nat)) (j:Nat):Prop where
 ok:∃ o r gn,ops[j]?=some o∧rs[j]?=some r∧es[j]?=some gn∧(∀ d,o.dst=some d→d < t0.length) ∧
  ((∃ G:aw,(∀ id b,G[id]?=some (some b)→(id < H.length∧H[id]?=some (some b))∨(∃ i,id=H.length+i∧i < j∧i∈aR.getD j []∧(rs[i]?).bind (·.nb)=some b)) ∧
    (∀ i,gn=some i→i < j∧i∈aR.getD j []∧(∀ q,q≠j→i∈aR.getD q []→q∈aR.getD j [])∧∃ b,G[H.length+i]?=some (some b)∧b.own=true) ∧
    (∀ (ν:Nu) (a:Act) (w:World) (q:Option Nat) (n:Nat),(∀ x∈o.op.operands,fc ν (a9 ops rs (fun i=>decide (i < j)) t0 j) a x)→bU ν G w→ν (H.length+j)=none →
     ∀ next Q,(∀ v' w' ai,EPost ν ai (H.length+j) (gn.bind fun i=>ν (H.length+i)) w w' r.v v' r.nb→next (a.put o.dst v') w')→o.wpIn (WF q) n P a w next Q) ∧
    (o.guard=none∨∃ g want d b,o.guard=some (g,want)∧bO ops g=some d∧(a9 ops rs (fun i=>decide (i < j)) t0 j)[d]?=some (.bool b)∧(b == want)=true)) ∨
    (gn=none∧r.v=undef∧r.nb=none∧∃ g want d v,o.guard=some (g,want)∧bO ops g=some d∧(a9 ops rs (fun i=>decide (i < j)) t0 j)[d]?=some v∧((∃ b,v=.bool b∧(b == want)=false)∨∃ vs,v=.tuple vs)))
theorem ph.more {P:Program} {ops:List Oper} {t0:List Value} {H:aw} {aR:List (List Nat)} {rs:List cZ} {es:List (Option Nat)} {j:Nat} (h:ph P ops t0 H aR rs es j) (hj:j < rs.length) (hj2:j < es.length) (r:cZ) (e:Option Nat):ph P ops t0 H aR (rs++[r]) (es++[e]) j:=by
 have he:∀ i,i≤j→(rs++[r])[i]?=rs[i]?:=fun i hi=>by rw [List.getElem?_append_left (by omega)]
 have hv:∀ D,a9 ops (rs++[r]) D t0 j=a9 ops rs D t0 j:=fun D=>tE (fun i hi=>he i (by omega))
 obtain ⟨o,q,gn,h1,J,j9,h3,h4⟩:=h.ok;refine ⟨⟨o,q,gn,h1,by rw [he j (Nat.le_refl _)]; exact J,by rw [List.getElem?_append_left hj2]; exact j9,h3,?_⟩⟩
 rw [hv];rcases h4 with ⟨G,g1,g2,g3,g4⟩ | h4
 ·exact .inl ⟨G,fun id b hb=>(g1 id b hb).imp (fun x=>x) (fun ⟨i,k1,k2,k3,k4⟩=>⟨i,k1,k2,k3,by rw [he i (by omega)]; exact k4⟩),g2,g3,g4⟩
 ·exact .inr h4
def qF (S:List (Option ah)):Option Nat→List (Option ah)
 | some i=>S.set i none
 | none=>S
theorem Ty {es:List (Option Nat)} {rs:List cZ} {i:Nat} {b:ah} (h:(iU es rs)[i]?=some (some b)):(rs[i]?).bind (·.nb)=some b:=(wi.1 h).2.2.2
theorem Sc {es:List (Option Nat)} {rs:List cZ} (hl:es.length=rs.length) (ak:∀ (p i:Nat),es[p]?=some (some i)→i < p) (r:cZ) (e:Option Nat) (he:∀ i,e=some i→i < rs.length) :
  iU (es++[e]) (rs++[r])=qF (iU es rs) e++[r.nb]:=by
 have hD:∀ i,i < rs.length+1→decide (i < (rs++[r]).length)=true:=fun i hi=>by simp; omega
 have PZ:∀ i,nj (es++[e]) (fun i=>decide (i < (rs++[r]).length)) i=(nj es (fun i=>decide (i < rs.length)) i || e == some i):=fun i=>by
  rw [Bool.eq_iff_iff,Bool.or_eq_true,tL,tL,beq_iff_eq];constructor
  ·rintro ⟨p,_,J⟩
   rw [List.getElem?_append] at J
   split at J
   ·rename_i hp;exact .inl ⟨p,by simp; omega,J⟩
   ·right
    have:p - es.length=0:=by
     rcases Nat.eq_zero_or_pos (p - es.length) with h | h
     ·exact h
     ·rw [List.getElem?_eq_none (by simp; omega)] at J; cases J
    rw [this] at J
    simpa using J
  ·rintro (⟨p,h1,J⟩ | J)
   ·have:=(List.getElem?_eq_some_iff.1 J).1;exact ⟨p,by simp at h1 ⊢; omega,by rw [List.getElem?_append_left this]; exact J⟩
   ·exact ⟨es.length,by simp; omega,by rw [List.getElem?_append_right (Nat.le_refl _)]; simp [J]⟩
 apply List.ext_getElem?;intro x;have hlen:(qF (iU es rs) e).length=rs.length:=by
  cases e <;> simp [qF,iU,AH]
 unfold iU iT;rw [List.getElem?_map];by_cases hx:x < rs.length
 ·rw [List.getElem?_range (by simp; omega),List.getElem?_append_left (by cases e <;> simp [qF] <;> omega)]
  simp only [Option.map_some];simp only [PZ x,hD x (by omega)]
  rw [List.getElem?_append_left hx];unfold qF;cases e with
  | none =>
   dsimp only
   rw [List.getElem?_map,List.getElem?_range hx];simp [hx]
  | some i =>
   dsimp only
   by_cases IP:i=x
   ·subst IP;rw [List.getElem?_set_self (by simpa using hx)]
    simp
   ·rw [List.getElem?_set_ne IP,List.getElem?_map,List.getElem?_range hx];have:(some i == some x)=false:=by simp [IP]
    rw [this];simp [hx]
 ·by_cases q7:x=rs.length
  ·subst q7;rw [List.getElem?_range (by simp),List.getElem?_append_right (by cases e <;> simp [qF])]
   have aH:nj es (fun i=>decide (i < rs.length)) rs.length=false:=by
    cases h:nj es (fun i=>decide (i < rs.length)) rs.length with
    | false=>rfl
    | true =>
     obtain ⟨p,h1,J⟩:=tL.1 h;have:=ak p _ J;have:=of_decide_eq_true h1;omega
   have HO:(e == some rs.length)=false:=by
    cases e with
    | none=>rfl
    | some i=>have:=he i rfl; simp; omega
   simp only [Option.map_some];simp only [PZ,hD _ (Nat.lt_succ_self _),aH,HO];cases e <;> simp [qF]
  ·rw [List.getElem?_eq_none (by simp; omega),List.getElem?_eq_none (by cases e <;> simp [qF] <;> omega)]; rfl
theorem KN {P:Program} {E:Env} (hE:EnvOk P E) {ops:List Oper} {t0:List Value} {H:aw} {aR:List (List Nat)} {k:List Value→List (Option ah)→Prop} :
  ∀ {l:List Oper} {ms:List (List Nat)} {j:Nat} {rs:List cZ} {es:List (Option Nat)},rs.length=j→es.length=j→(∀ (p i:Nat),es[p]?=some (some i)→i < p)→(∀ (i:Nat) o,l[i]?=some o→ops[j+i]?=some o)→(∀ i,i < l.length→ms.getD i []=aR.getD (j+i) []) →
  (∀ i,i < j→ph P ops t0 H aR rs es i)→nk E ops aR H H.length l ms j (a9 ops rs (fun i=>decide (i < j)) t0 j) (iU es rs) k →
  ∃ (b6:List cZ) (kd:List (Option Nat)),b6.length=j+l.length∧kd.length=j+l.length∧(∀ i,i < j+l.length→ph P ops t0 H aR b6 kd i)∧k (a9 ops b6 (fun i=>decide (i < j+l.length)) t0 (j+l.length)) (iU kd b6)
 | [],ms,j,rs,es,hl,ja,_,_,_,ba,h=>⟨rs,es,hl,ja,ba,h⟩
 | o::l,[],j,rs,es,hl,ja,_,_,_,ba,h=>h.elim
 | o::l,mask::ms,j,rs,es,hl,ja,ak,ho,hm,ba,h=>by
  have ot:ops[j]?=some o:=by have:=ho 0 o rfl; simpa using this
  have Cr:mask=aR.getD j []:=by have:=hm 0 (by simp); simpa using this
  -- the next step, whatever this one's result
  have next:∀ (r:cZ) (e:Option Nat) t',(t'=match o.dst with | some d=>(a9 ops rs (fun i=>decide (i < j)) t0 j).set d r.v | none=>a9 ops rs (fun i=>decide (i < j)) t0 j)→(∀ i,e=some i→i < j) →
    (ph P ops t0 H aR (rs++[r]) (es++[e]) j)→nk E ops aR H H.length l ms (j+1) t' (qF (iU es rs) e++[r.nb]) k →
    ∃ (b6:List cZ) (kd:List (Option Nat)),b6.length=j+(o::l).length∧kd.length=j+(o::l).length∧(∀ i,i < j+(o::l).length→ph P ops t0 H aR b6 kd i)∧k (a9 ops b6 (fun i=>decide (i < j+(o::l).length)) t0 (j+(o::l).length)) (iU kd b6):=by
   intro r e t' jD fu hj h';have hv:a9 ops (rs++[r]) (fun i=>decide (i < j+1)) t0 (j+1)=t':=by
    have hr:(rs++[r])[j]?=some r:=by rw [← hl]; simp
    have hd:bO ops j=o.dst:=by simp [bO,ot]
    have y8:a9 ops (rs++[r]) (fun i=>decide (i < j+1)) t0 j=a9 ops rs (fun i=>decide (i < j)) t0 j:=by
     rw [tE (b6:=rs) (fun i hi=>by rw [List.getElem?_append_left (by omega)])]
     exact x4 (fun i hi=>by simp; omega)
    have HL:decide (j < j+1)=true:=by simp
    rw [jD,Ex,hr,hd,y8,HL];cases o.dst <;> rfl
   rw [← hv,← Sc (ja.trans hl.symm) ak r e (fun i hi=>by rw [hl]; exact fu i hi)] at h'
   obtain ⟨b6,kd,k1,P0,k2,k3⟩:=KN hE (l:=l) (ms:=ms) (j:=j+1) (rs:=rs++[r]) (es:=es++[e]) (by simp [hl]) (by simp [ja]) (fun p i hp=>by
     rw [List.getElem?_append] at hp
     split at hp
     ·exact ak p i hp
     ·rename_i dZ;have:p - es.length=0:=by
       rcases Nat.eq_zero_or_pos (p - es.length) with h | h
       ·exact h
       ·rw [List.getElem?_eq_none (by simp; omega)] at hp; cases hp
      rw [this] at hp;have:=fu i (by simpa using hp)
      omega) (fun i p hp=>by have:=ho (i+1) p (by simpa using hp); rwa [show j+1+i=j+(i+1) by omega])
    (fun i hi=>by have:=hm (i+1) (by simp; omega); rw [show j+1+i=j+(i+1) by omega]; simpa using this)
    (fun i hi=>by
     by_cases e':i=j
     ·subst e'; exact hj
     ·exact (ba i (by omega)).more (by omega) (by omega) r e) h'
   have e2:j+1+l.length=j+(o::l).length:=by simp; omega
   rw [e2] at k1 P0 k2 k3;exact ⟨b6,kd,k1,P0,k2,k3⟩
  have ou:∀ r:cZ,a9 ops (rs++[r]) (fun i=>decide (i < j)) t0 j=a9 ops rs (fun i=>decide (i < j)) t0 j:=fun r=>tE (fun i hi=>by rw [List.getElem?_append_left (by omega)])
  have tf:∀ r:cZ,(rs++[r])[j]?=some r:=fun r=>by rw [← hl]; simp
  have Du:∀ e:Option Nat,(es++[e])[j]?=some e:=fun e=>by rw [← ja]; simp
  -- what is seen of the blocks
  have seen:∀ {Sm:List (Option ah)} (r:cZ),(∀ jj b,Sm[jj]?=some (some b)→(iU es rs)[jj]?=some (some b)∧(0+jj)∈mask)→∀ id b,(H++Sm)[id]?=some (some b) →
    (id < H.length∧H[id]?=some (some b))∨(∃ i,id=H.length+i∧i < j∧i∈aR.getD j []∧((rs++[r])[i]?).bind (·.nb)=some b):=by
   intro Sm r h3 id b hb;rw [List.getElem?_append] at hb
   split at hb
   ·exact .inl ⟨by assumption,hb⟩
   ·rename_i dZ;obtain ⟨q1,q2⟩:=h3 _ b hb;have acZ:id - H.length < rs.length:=by
     have:=(List.getElem?_eq_some_iff.1 q1).1
     rwa [iU,AH] at this
    refine .inr ⟨id - H.length,by omega,by omega,by rw [← Cr]; simpa using q2,?_⟩
    rw [List.getElem?_append_left acZ];exact Ty q1
  have CV:∀ {v:Value} {kk:List Value→Prop},dg (a9 ops rs (fun i=>decide (i < j)) t0 j) o.dst v kk→∃ t',(t'=match o.dst with | some d=>(a9 ops rs (fun i=>decide (i < j)) t0 j).set d v | none=>a9 ops rs (fun i=>decide (i < j)) t0 j)∧(∀ d,o.dst=some d→d < t0.length)∧kk t':=by
   intro v kk hk;cases hd:o.dst with
   | none=>rw [hd] at hk; exact ⟨_,rfl,(fun d hd=>by cases hd),hk⟩
   | some d =>
    rw [hd] at hk;obtain ⟨k1,k2⟩:=oQ hk;rw [rJ] at k1;exact ⟨_,rfl,(fun d' cS=>by cases cS; exact k1),k2⟩
  have run:(o.guard=none∨∃ g want d b,o.guard=some (g,want)∧bO ops g=some d∧(a9 ops rs (fun i=>decide (i < j)) t0 j)[d]?=some (.bool b)∧(b == want)=true) →
    (lN (iU es rs) 0 mask fun Sm=>nI H Sm fun G=>lC E o.op (a9 ops rs (fun i=>decide (i < j)) t0 j) G (H.length+j) fun v nb=>dg (a9 ops rs (fun i=>decide (i < j)) t0 j) o.dst v fun t'=>jt (iU es rs) nb fun S'=>nk E ops aR H H.length l ms (j+1) t' S' k) →
    ∃ (b6:List cZ) (kd:List (Option Nat)),b6.length=j+(o::l).length∧kd.length=j+(o::l).length∧(∀ i,i < j+(o::l).length→ph P ops t0 H aR b6 kd i)∧k (a9 ops b6 (fun i=>decide (i < j+(o::l).length)) t0 (j+(o::l).length)) (iU kd b6):=by
   intro hg h;obtain ⟨Sm,h1,J,h3⟩:=v5 h;have h1:=tR h1;obtain ⟨v,nb,hk,hq⟩:=A5 (P:=P) hE h1;obtain ⟨t',e1,e2,e3⟩:=CV hk;refine next ⟨v,nb,true⟩ none t' e1 (fun i hi=>by cases hi) ⟨⟨o,⟨v,nb,true⟩,none,ot,tf _,Du _,e2,.inl ⟨H++Sm,seen _ h3,(fun i hi=>by cases hi),?_,?_⟩⟩⟩ (tH e3)
   ·rw [ou];exact fun ν a w q n ha hH hn next Q hN=>hq o ν a w q n rfl ha hH hn next Q (fun v' w' ai hp=>hN v' w' ai (hp.e _))
   ·rw [ou]; exact hg
  have skip:(∃ g want d v,o.guard=some (g,want)∧bO ops g=some d∧(a9 ops rs (fun i=>decide (i < j)) t0 j)[d]?=some v∧((∃ b,v=.bool b∧(b == want)=false)∨∃ vs,v=.tuple vs)) →
    (dg (a9 ops rs (fun i=>decide (i < j)) t0 j) o.dst undef fun t'=>jt (iU es rs) none fun S'=>nk E ops aR H H.length l ms (j+1) t' S' k) →
    ∃ (b6:List cZ) (kd:List (Option Nat)),b6.length=j+(o::l).length∧kd.length=j+(o::l).length∧(∀ i,i < j+(o::l).length→ph P ops t0 H aR b6 kd i)∧k (a9 ops b6 (fun i=>decide (i < j+(o::l).length)) t0 (j+(o::l).length)) (iU kd b6):=by
   intro hg hk;obtain ⟨t',e1,e2,e3⟩:=CV hk;exact next ⟨undef,none,false⟩ none t' e1 (fun i hi=>by cases hi) ⟨⟨o,⟨undef,none,false⟩,none,ot,tf _,Du _,e2,.inr ⟨rfl,rfl,rfl,by rw [ou]; exact hg⟩⟩⟩ (tH e3)
  unfold nk at h
  split at h
  ·rename_i hg
   split at h
   ·rename_i ty x y ac0;obtain ⟨Sm,h1,J,h3⟩:=v5 h;have h1:=tR h1;obtain ⟨v,gn,nb,hk,kB,hq⟩:=Tx (P:=P) hE h1;obtain ⟨c,vz,hc2,gf,gp⟩:=Sa ac0
    -- what the step gives
    have step:∀ (ν:Nu) (a:Act) (w:World) (q:Option Nat) (n:Nat),(∀ x∈o.op.operands,fc ν (a9 ops rs (fun i=>decide (i < j)) t0 j) a x)→bU ν (H++Sm) w→ν (H.length+j)=none →
      ∀ next Q,(∀ v' w' ai,EPost ν ai (H.length+j) (gn.bind fun i=>ν (H.length+i)) w w' v v' nb→next (a.put o.dst v') w')→o.wpIn (WF q) n P a w next Q:=by
     intro ν a w q n ha hH hn next Q hN;have gH:∀ z,z∈[x,y]→z∈o.op.operands:=fun z hz=>by
      rw [vz];simp only [List.mem_cons,List.mem_nil_iff,or_false] at hz;rcases hz with rfl | rfl <;> simp [Op.operands,Call.operands,gf]
     obtain ⟨v',w',ai,bB,hp⟩:=hq ν a w o.type (ha x (gH x (by simp))) (ha y (gH y (by simp))) hH hn
     exact jM (by simp [vz]) (by simp [execOp,vz,resolve,hc2,gf,gp,invoke,builtin,bB]) next Q (hN _ _ _ hp)
    cases gn with
    | none =>
     obtain ⟨t',e1,e2,e3⟩:=CV hk;exact next ⟨v,nb,true⟩ none t' e1 (fun i hi=>by cases hi) ⟨⟨o,⟨v,nb,true⟩,none,ot,tf _,Du _,e2,.inl ⟨H++Sm,seen _ h3,(fun i hi=>by cases hi),by rw [ou]; exact step,.inl hg⟩⟩⟩ (tH e3)
    | some i =>
     obtain ⟨ac1,hk⟩:=hk;obtain ⟨xR,z7,hiq⟩:=Sb ac1;obtain ⟨t',e1,e2,e3⟩:=CV hk;obtain ⟨_,e3⟩:=mq e3;exact next ⟨v,nb,true⟩ (some i) t' e1 (fun i' hi=>by cases hi; exact xR) ⟨⟨o,⟨v,nb,true⟩,some i,ot,tf _,Du _,e2,.inl ⟨H++Sm,seen _ h3,(fun i' hi=>by cases hi; exact ⟨xR,z7,hiq,kB i rfl⟩),by rw [ou]; exact step,.inl hg⟩⟩⟩ (tH e3)
   ·exact run (.inl hg) h
  ·rename_i g want hg
   split at h
   ·rename_i d hd;obtain ⟨v,hv,h⟩:=oP h
    split at h
    ·rename_i b;cases hb:(b == want) with
     | true=>exact run (.inr ⟨g,want,d,b,hg,hd,hv,hb⟩) (BD h hb)
     | false=>exact skip ⟨g,want,d,_,hg,hd,hv,.inl ⟨b,rfl,hb⟩⟩ (Bj h hb)
    ·exact skip ⟨g,want,d,_,hg,hd,hv,.inr ⟨_,rfl⟩⟩ h
    ·exact h.elim
   ·exact h.elim
section
variable {P:Program} {E:Env} {r:Option Nat} {n:Nat} {F:Fr} {ops:Array Oper} {Q:Exit→Act→World→Prop} {m:Nat} {aR:List (List Nat)} {k:SK}
theorem Sd (hc:Order ops.toList aR) (uz:m≤ops.size)
  (yG:∀ j o i p d,j < m→i < m→i≠j→ops.toList[j]?=some o→ops.toList[i]?=some p→p.dst=some d→o.dst≠some d∧(d ∉ ji ops.toList o∨i∈aR.getD j []∨j∈aR.getD i []))
  (Cs:∀ j,j < ops.size→m≤j→∀ i,i < m→i∈aR.getD j [])
  {t0:List Value} {H:aw} {rs:List cZ} {es:List (Option Nat)} (hel:es.length=m) (hh:∀ i,i < m→ph P ops.toList t0 H aR rs es i)
  (pB:∀ (fuel:Nat) (aA:Array Bool) (ν:Nu) (a:Act) (w:World),aA.size=ops.size→o4 ops.toList (DB aA)→(∀ i,DB aA i=true→i < m)→(∀ i,i < m→DB aA i=true) →
   bw F ν (a9 ops.toList rs (DB aA) t0 m) (H++iT es rs (DB aA) m) a w→gw (DB aA) ops.size≤fuel→wpAnyIn (WF r) n P .any ops Q fuel aA a w) :
  ∀ (fuel:Nat) (aA:Array Bool) (ν:Nu) (a:Act) (w:World),aA.size=ops.size→o4 ops.toList (DB aA)→(∀ i,DB aA i=true→i < m) →
  bw F ν (a9 ops.toList rs (DB aA) t0 m) (H++iT es rs (DB aA) m) a w→(∀ i,i < m→DB aA i=false→ν (H.length+i)=none)→gw (DB aA) ops.size≤fuel →
  wpAnyIn (WF r) n P .any ops Q fuel aA a w:=by
 have lV:∀ i d,i < m→bO ops.toList i=some d→d < t0.length:=by
  intro i d hi hd;obtain ⟨o,q,_,h1,J,_,h3,_⟩:=(hh i hi).ok;unfold bO at hd;rw [h1] at hd;exact h3 d hd
 have pK:xp ops.toList m:=by
  intro i j d hi hj h1 J;rcases Nat.decEq i j with aH | he
  ·obtain ⟨o,q,_,k1,_⟩:=(hh i hi).ok;obtain ⟨p,q',_,k2,_⟩:=(hh j hj).ok;unfold bO at h1 J;rw [k1] at h1; rw [k2] at J;exact absurd h1 (yG i o j p d hi hj (Ne.symm aH) k1 k2 J).1
  ·exact he
 intro fuel
 induction fuel with
 | zero =>
  intro aA ν a w hs eP ak hi gl hu;have cW:∀ i,i < ops.size→DB aA i=true:=fun i aP=>by
   cases hd:DB aA i with
   | true=>rfl
   | false=>have:=Ey aP hd; omega
  exact pB 0 aA ν a w hs eP ak (fun i aP=>cW i (by omega)) hi hu
 | succ fuel ih =>
  intro aA ν a w hs eP ak hi gl hu;by_cases pg:∀ i,i < m→DB aA i=true
  ·exact pB (fuel+1) aA ν a w hs eP ak pg hi hu
  ·-- something of the head has not gone: the least such one may go
   have hex:∃ i,i < m∧DB aA i=false:=by
    refine Classical.byContradiction fun aH=>pg fun i aP=>?_
    cases hd:DB aA i with
    | true=>rfl
    | false=>exact absurd ⟨i,aP,hd⟩ aH
   obtain ⟨i1,Dq,gd⟩:=hex;obtain ⟨i0,O2,fx,jc⟩:=DY gd;have gz:i0 < m:=by omega
   have hr:=AO hc hs (by omega:i0 < ops.size) fx jc
   refine ⟨(fun hn=>by rw [hn] at hr; cases hr),fun j hj=>?_⟩
   rw [mem_ready] at hj;obtain ⟨h1,o,ho,he⟩:=hj;have nJ:j < ops.size:=(Array.getElem?_eq_some_iff.1 ho).1;rw [tX (by omega)] at h1
   have fY:ops.toList[j]?=some o:=by simpa using ho
   have mg:=tF hc eP j o fY (fun e' fZ bF=>he e' fZ bF)
   have mO:j < m:=by
    rcases Nat.lt_or_ge j m with h | h
    ·exact h
    ·have:=mg i1 (Cs j nJ h i1 Dq);rw [gd] at this; cases this
   obtain ⟨o',q,gn,g1,g2,g2e,g3,g4⟩:=(hh j mO).ok;rw [fY] at g1; cases g1;have IH:bO ops.toList j=o.dst:=by simp [bO,fY]
   -- what it reads stands as the text's order has it
   have Ha:∀ d,d∈ji ops.toList o→(a9 ops.toList rs (DB aA) t0 m)[d]?=(a9 ops.toList rs (fun i=>decide (i < j)) t0 j)[d]?:=by
    intro d hd;rw [← wh (j:=j) (m:=m) (by omega) (fun i h1 J=>by simp; omega)]
    refine yg pK lV (fun i aP fV=>?_)
    by_cases e:i=j
    ·subst e; rw [h1]; simp
    ·obtain ⟨p,q',_,k1,_⟩:=(hh i aP).ok;have IJ:p.dst=some d:=by unfold bO at fV; rw [k1] at fV; exact fV
     rcases (yG j o i p d mO aP e fY k1 IJ).2 with h | h | h
     ·exact absurd hd h
     ·rw [mg i h];have:=(hc.mask j o fY i h).1;simp [this]
     ·have hji:=(hc.mask i p k1 j h).1;have:DB aA i=false:=by
       cases cS:DB aA i with
       | false=>rfl
       | true =>
        have:=tF hc eP i p k1 (eP i p cS k1) j h;rw [h1] at this; cases this
      rw [this]; simp; omega
   have c5:∀ i,DB (aA.setIfInBounds j true) i=(DB aA i || i == j):=fun i=>B8 (by omega) i
   have xG:o4 ops.toList (DB (aA.setIfInBounds j true)):=by
    intro i p aP hp e' fZ bF;rw [c5] at aP ⊢;by_cases e:i=j
    ·subst e;rw [fY] at hp; cases hp;have:DB aA e'.on=true:=he e' fZ bF;rw [this]; rfl
    ·have e2:(i == j)=false:=by simp [e]
     rw [e2,Bool.or_false] at aP;rw [eP i p aP hp e' fZ bF]; rfl
   have qQ:∀ i,DB (aA.setIfInBounds j true) i=true→i < m:=fun i aP=>by
    rw [c5] at aP;by_cases e:i=j
    ·subst e; exact mO
    ·have e2:(i == j)=false:=by simp [e]
     rw [e2,Bool.or_false] at aP;exact ak i aP
   have s6:gw (DB (aA.setIfInBounds j true)) ops.size≤fuel:=by
    have:=A0 c5 h1 ops.size;rw [if_pos nJ] at this; omega
   have uE:=KM (D:=DB aA) (D':=DB (aA.setIfInBounds j true)) pK lV mO h1 c5 g2;rw [IH] at uE;have hat:∀ p i,es[p]?=some (some i)→p < m∧i < p∧i∈aR.getD p []∧∀ q,q≠p→i∈aR.getD q []→q∈aR.getD p []:=by
    intro p i hp;have vA:p < m:=by have:=(List.getElem?_eq_some_iff.1 hp).1; omega
    obtain ⟨_,_,e',_,_,k3,_,k4⟩:=(hh p vA).ok;rw [hp] at k3; cases k3;rcases k4 with ⟨_,_,k5,_⟩ | ⟨k5,_⟩
    ·obtain ⟨y1,y2,y3,_⟩:=k5 i rfl;exact ⟨vA,y1,y2,y3⟩
    ·cases k5
   -- what this one sees has not been eaten
   have fresh:∀ i,i∈aR.getD j []→nj es (DB aA) i=false:=by
    intro i aP;cases fZ:nj es (DB aA) i with
    | false=>rfl
    | true =>
     obtain ⟨p,nK,rl⟩:=tL.1 fZ;obtain ⟨vA,_,_,y3⟩:=hat p i rl;have P1:j≠p:=fun e=>by rw [← e,h1] at nK; cases nK
     have hjp:=y3 j P1 aP;obtain ⟨op,_,_,k1,_⟩:=(hh p vA).ok;have:=tF hc eP p op k1 (eP p op nK k1) j hjp;rw [h1] at this; cases this
   have fp:∀ (id:Nat) (c:ah),(H++iT es rs (DB (aA.setIfInBounds j true)) m)[id]?=some (some c) →
     ((H++iT es rs (DB aA) m)[id]?=some (some c)∧∀ i,gn=some i→id≠H.length+i)∨(id=H.length+j∧q.nb=some c):=by
    intro id c;by_cases bn:id < H.length
    ·rw [List.getElem?_append_left bn,List.getElem?_append_left bn];exact fun h=>.inl ⟨h,fun i _=>by omega⟩
    ·rw [List.getElem?_append_right (by omega),List.getElem?_append_right (by omega),wi,wi]
     rintro ⟨k1,k2,k3,k4⟩
     rw [c5] at k2;by_cases e:id - H.length=j
     ·refine .inr ⟨by omega,?_⟩
      rw [e,g2] at k4; exact k4
     ·have e2:(id - H.length == j)=false:=by simp [e]
      rw [e2,Bool.or_false] at k2;refine .inl ⟨⟨k1,k2,?_,k4⟩,fun i aP adV=>?_⟩
      ·cases fZ:nj es (DB aA) (id - H.length) with
       | false=>rfl
       | true =>
        obtain ⟨p,nK,rl⟩:=tL.1 fZ;rw [tL.2 ⟨p,by rw [c5,nK]; rfl,rl⟩] at k3; cases k3
      ·have hx:id - H.length=i:=by omega
       rw [hx,tL.2 ⟨j,by rw [c5]; simp,by rw [g2e,aP]⟩] at k3; cases k3
   have nh:ν (H.length+j)=none:=gl j mO h1;have Hb:(H++iT es rs (DB aA) m).length=H.length+m:=by rw [List.length_append,AH]
   have GB:(H++iT es rs (DB (aA.setIfInBounds j true)) m).length=H.length+m:=by rw [List.length_append,AH]
   have hG:∀ {G:aw},(∀ (id:Nat) (b:ah),G[id]?=some (some b)→(id < H.length∧H[id]?=some (some b))∨(∃ i,id=H.length+i∧i < j∧i∈aR.getD j []∧(rs[i]?).bind (·.nb)=some b)) →
     ∀ (id:Nat) (b:ah),G[id]?=some (some b)→(H++iT es rs (DB aA) m)[id]?=some (some b):=by
    intro G q1 id b hb;rcases q1 id b hb with ⟨h3,h4⟩ | ⟨i,h3,h4,h5,h6⟩
    ·rw [List.getElem?_append_left h3]; exact h4
    ·subst h3;rw [List.getElem?_append_right (by omega)]
     rw [show H.length+i - H.length=i by omega,wi]
     exact ⟨by omega,mg i h5,fresh i h5,h6⟩
   have ac2:∀ i,gn=some i→∃ bi,(H++iT es rs (DB aA) m)[H.length+i]?=some (some bi)∧bi.own=true:=by
    intro i aP;rcases g4 with ⟨G,q1,q2,_⟩ | ⟨q1,_⟩
    ·obtain ⟨_,_,_,bi,y1,y2⟩:=q2 i aP;exact ⟨bi,hG q1 _ _ y1,y2⟩
    ·rw [aP] at q1; cases q1
   -- the state behind it
   have after:∀ v' w' ai,EPost ν ai (H.length+j) (gn.bind fun i=>ν (H.length+i)) w w' q.v v' q.nb→wpAnyIn (WF r) n P .any ops Q fuel (aA.setIfInBounds j true) (a.put o.dst v') w':=by
    intro v' w' ai hp;have hold:∀ lo,(gn.bind fun i=>ν (H.length+i))=some lo→∃ i bi,gn=some i∧ν (H.length+i)=some lo∧(H++iT es rs (DB aA) m)[H.length+i]?=some (some bi)∧bi.own=true:=by
     intro lo gX;cases fZ:gn with
     | none=>rw [fZ] at gX; cases gX
     | some i =>
      rw [fZ] at gX;obtain ⟨bi,y1,y2⟩:=ac2 i fZ;exact ⟨i,bi,rfl,gX,y1,y2⟩
    have dt:∀ (id:Nat) (c:ah),(H++iT es rs (DB aA) m)[id]?=some (some c)→id≠H.length+j:=fun id c h e=>by
     obtain ⟨l',cB,_⟩:=hi.hp.aG id c h;rw [e,nh] at cB; cases cB
    have uz:w.heap.size≤w'.heap.size:=by
     rcases hp.Dt with hb | ⟨_,_,_,_,h,_⟩
     ·exact hb.size
     ·exact h
    have tb:Kept F.O F.W w':=by
     rcases hp.Dt with hb | ⟨lo,gX,_,J,h3,h4,h5,h6⟩
     ·exact hi.kp.below hb
     ·obtain ⟨i,bi,y1,y2,y3,y4⟩:=hold lo gX;refine ⟨h4.trans hi.kp.os,h5.trans hi.kp.tape,h6.trans hi.kp.output,Nat.le_trans hi.kp.size h3,fun x hx hO=>(J x fun e=>?_).trans (hi.kp.aG x hx hO)⟩
      subst e;rcases hi.own _ bi lo y3 y4 y2 with h | h
      ·exact hO h
      ·omega
    have Hw:∀ (id:Nat) (c:ah) (l:Loc),(H++iT es rs (DB aA) m)[id]?=some (some c)→(∀ i,gn=some i→id≠H.length+i)→ν id=some l→bP ν l c w→bP ν l c w':=by
     intro id c l h aH hl hB;rcases hp.Dt with hb | ⟨lo,gX,_,J,h3,_⟩
     ·exact hB.below hb
     ·obtain ⟨i,bi,y1,y2,y3,y4⟩:=hold lo gX;exact hB.same (J _ (Ne.symm (hi.hp.sep _ id bi c lo l y3 h (Ne.symm (aH i y1)) y4 y2 hl))) h3
    have M3:∀ (id:Nat) (c:ah) (l l2:Loc),(H++iT es rs (DB aA) m)[id]?=some (some c)→(∀ i,gn=some i→id≠H.length+i)→ν id=some l→(w.heap.size≤l2.aG∨∃ lo,(gn.bind fun i=>ν (H.length+i))=some lo∧l2.aG=lo.aG)→l2.aG≠l.aG:=by
     intro id c l l2 h aH hl J;rcases J with J | ⟨lo,gX,J⟩
     ·obtain ⟨l',cB,hB⟩:=hi.hp.aG id c h;rw [hl] at cB; cases cB;have:=hB.live;omega
     ·obtain ⟨i,bi,y1,y2,y3,y4⟩:=hold lo gX;rw [J];exact hi.hp.sep _ id bi c lo l y3 h (Ne.symm (aH i y1)) y4 y2 hl
    refine ih _ ai _ w' (by simp [hs]) xG qQ ⟨?_,?_,⟨fun id c cC=>?_,fun x y bx bY lx ly hx hy aH IQ e1 e2=>?_⟩,fun id bn=>?_,tb,fun id c lc cC oj dD=>?_,Nu.le_trans hi.mono hp.le⟩ (fun i aP cS=>?_) s6
    ·rw [uE];cases hd:o.dst with
     | none=>exact hi.tm.mono hp.le
     | some d=>rw [rS]; exact (hi.tm.mono hp.le).set hp.val d
    ·rcases hp.Dt with hb | ⟨lo,gX,⟨cur,t,j5⟩,J,h3,_⟩
     ·cases o.dst <;> exact hi.df.below hb
     ·cases o.dst <;> exact hi.df.gx j5 J
    ·rcases fp id c cC with ⟨h,aH⟩ | ⟨h3,h4⟩
     ·obtain ⟨l,hl,hB⟩:=hi.hp.aG id c h;exact ⟨l,hp.le _ _ hl,(Hw id c l h aH hl hB).mono hp.le⟩
     ·obtain ⟨l,hl,hB,_⟩:=hp.gW c h4;exact ⟨l,by rw [h3]; exact hl,hB⟩
    ·rcases fp x bx hx with ⟨h,cR⟩ | ⟨h3,h4⟩
     ·rw [hp.only x (dt x bx h)] at e1;rcases fp y bY hy with ⟨g,P2⟩ | ⟨g3,g4⟩
      ·rw [hp.only y (dt y bY g)] at e2;exact hi.hp.sep x y bx bY lx ly h g aH IQ e1 e2
      ·obtain ⟨l,hl,_,hle⟩:=hp.gW bY g4;rw [g3,hl] at e2; cases e2;exact Ne.symm (M3 x bx lx _ h cR e1 hle)
     ·obtain ⟨l,hl,_,hle⟩:=hp.gW bx h4;rw [h3,hl] at e1; cases e1;rcases fp y bY hy with ⟨g,P2⟩ | ⟨g3,g4⟩
      ·rw [hp.only y (dt y bY g)] at e2;exact M3 y bY ly _ g P2 e2 hle
      ·exact absurd (h3.trans g3.symm) aH
    ·rw [GB] at bn;rw [hp.only id (by omega)]
     exact hi.fr id (by rw [Hb]; exact bn)
    ·rcases fp id c cC with ⟨h,_⟩ | ⟨h3,h4⟩
     ·rw [hp.only id (dt id c h)] at dD;exact hi.own id c lc h oj dD
     ·obtain ⟨l,hl,_,hle⟩:=hp.gW c h4;rw [h3,hl] at dD; cases dD;rcases hle with hle | ⟨lo,gX,hle⟩
      ·exact .inr (Nat.le_trans hi.kp.size hle)
      ·obtain ⟨i,bi,y1,y2,y3,y4⟩:=hold lo gX;rw [hle];exact hi.own _ bi lo y3 y4 y2
    ·have aH:i≠j:=fun e=>by subst e; rw [c5] at cS; simp at cS
     rw [hp.only _ (by omega)]
     refine gl i aP ?_;rw [c5] at cS;simp only [Bool.or_eq_false_iff] at cS;exact cS.1
   unfold wpOpIn;rw [ho]
   dsimp only
   have fw:∀ d,d∈ji ops.toList o→∀ v,(a9 ops.toList rs (fun i=>decide (i < j)) t0 j)[d]?=some v→∃ v',a.tmps[d]?=some v'∧aq ν v v':=by
    intro d hd v hv;rw [← Ha d hd] at hv;obtain ⟨v',k1,k2⟩:=hi.tm.get hv;exact ⟨v',by simpa using k1,k2⟩
   rcases g4 with ⟨G,q1,_,q2,q3⟩ | ⟨q0,q1,q2,g,want,d,v,q3,q4,q5,q6⟩
   ·have hw:Region.wanted o (yielded ops a.tmps)=true:=by
     rcases q3 with hg | ⟨g,want,d,b,hg,hd,hv,hb⟩
     ·simp [Region.wanted,hg]
     ·obtain ⟨v',k1,k2⟩:=fw d (AD hg hd) _ hv;rw [k2.ki] at k1;have hy:=ye (ops:=ops) (tmps:=a.tmps) (j:=g) (d:=d) (by simpa [bO] using hd)
      rw [k1] at hy;simp only [Region.wanted,hg,hy];rw [← hb];cases b <;> cases want <;> rfl
    rw [if_pos hw];refine q2 ν a w r n (fun x hx t ht v hv=>fw t ?_ v hv) (hi.hp.sj fun id b hb=>?_) nh _ Q after
    ·unfold ji;exact List.mem_append_left _ (pV (by rw [ht] at hx; simpa using hx))
    ·exact hG q1 id b hb
   ·have hw:Region.wanted o (yielded ops a.tmps)=false:=by
     obtain ⟨v',k1,k2⟩:=fw d (AD q3 q4) _ q5;have hy:=ye (ops:=ops) (tmps:=a.tmps) (j:=g) (d:=d) (by simpa [bO] using q4)
     rw [k1] at hy;rcases q6 with ⟨b,rfl,hb⟩ | ⟨vs,rfl⟩
     ·rw [k2.ki] at hy;simp only [Region.wanted,q3,hy];rw [← hb];cases b <;> cases want <;> rfl
     ·obtain ⟨ys,rfl,_⟩:=aq.nT (xs:=vs.toList) k2;simp only [Region.wanted,q3,hy]
      rfl
    rw [if_neg (by rw [hw]; simp)]
    refine ⟨fun _ _=>trivial,after undef w ν ⟨ν.le_refl,fun _ _=>rfl,by rw [q1]; exact .undef ν,.inl (Below.refl _ _),fun _=>rfl,(fun b hb=>by rw [q2] at hb; cases hb)⟩⟩
theorem UI (hm:P.follows .mixedOrders=true):nF P Om:=by
 intro E hE r n F bM ops Q id ν tmps H a w k hi h hk;obtain ⟨m,aR,ba,h⟩:=h;have h:=mr h;obtain ⟨O3,h⟩:=yf h;have hc:=Kj ba;obtain ⟨rs,es,iJ,jb,ku,gj⟩:=KN (P:=P) hE.toEnvOk (ops:=ops.toList) (t0:=tmps) (H:=H) (aR:=aR) (l:=ops.toList.take m) (ms:=aR) (j:=0) (rs:=[]) (es:=[]) rfl rfl (fun p i hp=>by simp at hp)
  (fun i o ho=>by
   rw [List.getElem?_take] at ho
   split at ho
   ·simpa using ho
   ·cases ho)
  (fun i _=>by simp) (fun i hi=>by omega) h
 have gj:=tR gj;have hlen:0+(ops.toList.take m).length=m:=by rw [List.length_take]; omega
 rw [hlen] at iJ jb ku gj;refine wpIn_region_any hm ?_;have hD:DB (Array.replicate ops.size false)=fun _=>false:=by
  funext i
  unfold DB;by_cases h:i < ops.size <;> simp [h]
 refine Sd (F:=F) hc.toOrder (by have:=hc.le; simpa using this) hc.apart (fun j hj hm i hi=>hc.tail j (by simpa using hj) hm i (by omega)) jb ku ?_ ops.size _ ν a _ (by simp) (fun j o hj=>by rw [hD] at hj; cases hj) (fun i aP=>by rw [hD] at aP; cases aP) ?_ (fun i _ _=>hi.fr _ (by omega)) ?_
 ·intro fuel aA ν a w hs eP ak cW hi hu;have hle:m≤ops.size:=by have:=hc.le; simpa using this
  have hD:∀ i,DB aA i=decide (i < m):=fun i=>by
   by_cases h:i < m
   ·rw [cW i h]; simp [h]
   ·cases hd:DB aA i with
    | true=>exact absurd (ak i hd) h
    | false=>simp [h]
  have e1:a9 ops.toList rs (DB aA) tmps m=a9 ops.toList rs (fun i=>decide (i < m)) tmps m:=x4 (fun i _=>hD i)
  have e2:iT es rs (DB aA) m=iU es rs:=by
   unfold iU;rw [iJ];rw [show DB aA=fun i=>decide (i < m) from funext hD]
  rw [e1,e2] at hi;exact EX hE bM hc.toOrder hc.tail hk fuel aA m ν _ _ a w hs hD (Nat.le_refl _) hle hi gj (by
   have:=DX hD ops.size hle; omega)
 ·rw [hD];have e1:a9 ops.toList rs (fun _=>false) tmps m=tmps:=wh (j:=0) (by omega) (fun _ _ _=>rfl)
  rw [e1];have k9:Below w.heap.size w { w with drawn:=w.drawn+1 }:=⟨rfl,rfl,rfl,Nat.le_refl _,fun _ _=>rfl⟩
  refine ⟨hi.tm,hi.df.below k9,(hi.hp.below k9).sj (fun id c cC=>?_),fun id bn=>hi.fr id (by rw [List.length_append] at bn; omega),hi.kp.below k9,fun id c lc cC oj dD=>?_,hi.mono⟩
  ·rw [List.getElem?_append] at cC
   split at cC
   ·exact cC
   ·have:=(wi.1 cC).2.1; cases this
  ·rw [List.getElem?_append] at cC
   split at cC
   ·exact hi.own id c lc cC oj dD
   ·have:=(wi.1 cC).2.1; cases this
 ·unfold gw;have:=List.length_filter_le (fun i=>!DB (Array.replicate ops.size false) i) (List.range ops.size)
  simpa using this
end
open Go Go.RowKit
inductive n4 where
 | leaf
 | br (i:Nat) (sub rest:n4)
def n4.alts:n4→List Nat
 | .leaf=>[]
 | .br i _ rest=>i::rest.alts
def uk (ops:Array Oper):n4→Nat→Bool→Array Bool→Bool
 | .leaf,_,true,l=>(Region.ready .any ops l).isEmpty
 | .leaf,_,false,_=>true
 | .br _ _ _,0,_,_=>false
 | .br i sub rest,n+1,first,l=>(!first || (Region.ready .any ops l == (n4.br i sub rest).alts)) && uk ops sub n true (l.setIfInBounds i true) && uk ops rest (n+1) false l
def HP:List Oper→Nat→(Oper→Prop)→Prop
 | [],_,_=>False
 | o::_,0,k=>k o
 | _::l,i+1,k=>HP l i k
theorem Lx:∀ {l:List Oper} {i:Nat} {k:Oper→Prop},HP l i k→∃ o,l[i]?=some o∧k o
 | [],i,k,h=>h.elim
 | o::_,0,k,h=>⟨o,rfl,h⟩
 | _::l,i+1,k,h=>by
  obtain ⟨o,h1,J⟩:=Lx (l:=l) h;exact ⟨o,by simpa using h1,J⟩
def Cu (E:Env) (ops:List Oper):n4→Bool→List Value→aw→SK→Prop
 | .leaf,true,t,H,k=>k t H
 | .leaf,false,_,_,_=>True
 | .br i sub rest,_,t,H,k=>(HP ops i fun o=>xo E ops o t H fun t' H'=>Cu E ops sub true t' H' k)∧Cu E ops rest false t H k
def cL (E:Env) (ops:List Oper) (t:List Value) (H:aw) (k:SK):Prop :=
 Ok E ops t H k∨(∃ T:n4,uk ops.toArray T ops.length true (Array.replicate ops.length false)=true∧Cu E ops T true t H k)∨Ol E ops t H k∨Om E ops t H k
section
variable {P:Program} {E:Env} {r:Option Nat} {n:Nat} {F:Fr}
theorem Se (hE:j4 P E) (bM:lE F E) {ops:Array Oper} {Q:Exit→Act→World→Prop} {k:SK} (hk:∀ ν t' H' a' w',bw F ν t' H' a' w'→k t' H'→Q .normal a' w') :
  ∀ (T:n4) (fuel:Nat) (first:Bool) (aA:Array Bool) (ν:Nu) (t:List Value) (H:aw) (a:Act) (w:World),uk ops T fuel first aA=true→bw F ν t H a w→Cu E ops.toList T first t H k →
  (first=true→wpAnyIn (WF r) n P .any ops Q fuel aA a w)∧(first=false→∀ m,fuel=m+1→∀ i∈T.alts,wpOpIn (WF r) n P ops Q i (wpAnyIn (WF r) n P .any ops Q m (aA.setIfInBounds i true)) a w):=by
 intro T
 induction T with
 | leaf =>
  intro fuel first aA ν t H a w ba hi h;cases first with
  | true =>
   refine ⟨fun _=>?_,fun h=>by cases h⟩
   have hr:Region.ready .any ops aA=[]:=by
    have:(Region.ready .any ops aA).isEmpty=true:=by simpa [uk] using ba
    simpa using this
   have hq:Q .normal a w:=hk _ _ _ _ _ hi h;cases fuel with
   | zero=>exact ⟨hr,hq⟩
   | succ f=>exact ⟨fun _=>hq,fun i aP=>by rw [hr] at aP; cases aP⟩
  | false=>exact ⟨(fun h=>by cases h),fun _ m _ i aP=>by cases aP⟩
 | br j sub rest ihs ihr =>
  intro fuel first aA ν t H a w ba hi h;cases fuel with
  | zero=>simp [uk] at ba
  | succ f =>
   simp only [uk,Bool.and_eq_true,Bool.or_eq_true] at ba;obtain ⟨⟨h1,J⟩,h3⟩:=ba;obtain ⟨hs,y8⟩:=h;have cW:∀ i∈(n4.br j sub rest).alts,wpOpIn (WF r) n P ops Q i (wpAnyIn (WF r) n P .any ops Q f (aA.setIfInBounds i true)) a w:=by
    intro i aP;simp only [n4.alts,List.mem_cons] at aP;rcases aP with rfl | aP
    ·obtain ⟨o,ho,hs⟩:=Lx hs;unfold wpOpIn;have IQ:ops[i]?=some o:=by simpa using ho
     rw [IQ];exact Ew hE bM hi hs (fun ν t' H' a' w' gY h'=>(ihs f true _ ν t' H' a' w' J gY h').1 rfl)
    ·exact (ihr (f+1) false aA ν t H a w h3 hi y8).2 rfl f rfl i aP
   refine ⟨fun hf=>?_,fun _ m hm=>?_⟩
   ·subst hf;have hr:Region.ready .any ops aA=(n4.br j sub rest).alts:=by
     rcases h1 with h1 | h1
     ·cases h1
     ·exact eq_of_beq h1
    refine ⟨(fun hn=>by rw [hr] at hn; cases hn),fun i aP=>cW i (by rw [← hr]; exact aP)⟩
   ·have:f=m:=by omega
    subst this;exact cW
theorem UJ (hm:P.follows .mixedOrders=true):nF P cL:=by
 intro E hE r n F bM ops Q id ν tmps H a w k hi h hk;rcases h with h | ⟨T,ba,h⟩ | h | h
 ·exact UE hm E hE r n F bM ops Q id ν tmps H a w k hi h hk
 ·refine wpIn_region_any hm ?_;have k9:Below w.heap.size w { w with drawn:=w.drawn+1 }:=⟨rfl,rfl,rfl,Nat.le_refl _,fun _ _=>rfl⟩
  have gY:bw F ν tmps H a { w with drawn:=w.drawn+1 }:=⟨hi.tm,hi.df.below k9,hi.hp.below k9,hi.fr,hi.kp.below k9,hi.own,hi.mono⟩
  have:=(Se (r:=r) (n:=n) hE bM (ops:=ops) hk T ops.toList.length true _ ν tmps H a _ (by simpa using ba) gY h).1 rfl
  simpa using this
 ·exact UH hm E hE r n F bM ops Q id ν tmps H a w k hi h hk
 ·exact UI hm E hE r n F bM ops Q id ν tmps H a w k hi h hk
end
open Go Go.RowKit
inductive eZ:Value→Value→Prop
 | refl (v:Value):eZ v v
 | cap (a:Addr) (n c:Nat) (h:a.spot=none):eZ (.slice (some a) n c) (.slice (some a) n aK)
 | two {x y x' y':Value} (h:eZ x x') (hs:eZ y y'):eZ (.tuple ⟨[x,y]⟩) (.tuple ⟨[x',y']⟩)
 | three {x y z x' y' z':Value} (h:eZ x x') (hs:eZ y y') (hz:eZ z z'):eZ (.tuple ⟨[x,y,z]⟩) (.tuple ⟨[x',y',z']⟩)
theorem aq.P3 {ν:Nu} {xs ys:List Value} (h:bc ν xs ys):aq ν (.tuple ⟨xs⟩) (.tuple ⟨ys⟩):=.tuple _ _ h.1 h.2
theorem aq.HQ {ν:Nu} {v v':Value} (h:eZ v v'):∀ {r},aq ν v r→aq ν v' r:=by
 induction h with
 | refl v=>exact fun h=>h
 | cap a n c hs =>
  intro r hr;obtain ⟨b,o,sp⟩:=a;have hs:sp=none:=hs;subst hs;cases hr with
  | slice _ _ _ _ c' l h hc hn hr=>exact .slice _ _ _ _ c' l h (.inr rfl) hn hr
  | void _ _ _ a hc=>exact .void _ _ _ a (.inr rfl)
 | two h hs i1 i2 =>
  intro r hr;obtain ⟨ys,rfl,hy⟩:=hr.nT;obtain ⟨a,ys,rfl,k1,hy⟩:=hy.jl;obtain ⟨b,ys,rfl,k2,hy⟩:=hy.jl;rw [hy.iP];exact .P3 (.cons (i1 k1) (.cons (i2 k2) (.nil ν)))
 | three h hs hz i1 i2 i3 =>
  intro r hr;obtain ⟨ys,rfl,hy⟩:=hr.nT;obtain ⟨a,ys,rfl,k1,hy⟩:=hy.jl;obtain ⟨b,ys,rfl,k2,hy⟩:=hy.jl;obtain ⟨c,ys,rfl,k3,hy⟩:=hy.jl;rw [hy.iP];exact .P3 (.cons (i1 k1) (.cons (i2 k2) (.cons (i3 k3) (.nil ν))))
def iV (S:cI) (i:S.ι) (v:Value) (H:aw):Prop :=
 match S.new i with
 | none=>∃ v',cQ (List.range (S.aj i).length) 3 (S.val i)=some v'∧eZ v v'
 | some b=>∃ p,gG H p fun c=>(c.own=true∧aO b c)∧∃ v',cQ (List.range (S.aj i).length++[p]) 3 (S.val i)=some v'∧eZ v v'
section
variable {P:Program} {E:Env} {D:Env→List Oper→List Value→aw→SK→Prop}
theorem tC {l:List ah} {id:Nat} {b:ah} (h:(l.map some)[id]?=some (some b)):l[id]?=some b:=by
 rw [List.getElem?_map] at h;cases e:l[id]? with
 | none=>rw [e] at h; cases h
 | some b'=>rw [e] at h; simp at h; rw [h]
theorem Tz {m p j:Nat} (h:j < m):(List.range m++[p])[j]?=some j:=by
 rw [List.getElem?_append_left (by simpa using h),List.getElem?_range h]
theorem eg {S:cI} (hE:EnvOk P E) (hD:nF P D) {f:FuncId} {fn:Func} (hf:P.funcs[f]?=some fn) (oi:∀ args w,(callFunc f args).run P w=.ok (.enter f args) w)
  (nG:∀ i b,b∈S.aj i→b.own=false) (sZ:∀ i b,S.new i=some b→b.jR=true)
  (h:∀ i,S.pre i→ck E D fn (S.args i) ((S.aj i).map some) (iV S i))
  (hI:gL P E:=by exact gL.none rfl) (hy:E.ys=[]:=by rfl) (hu:E.nu=(fun _=>none):=by rfl):dc P f S:=by
 refine ⟨oi,nG,sZ,fun i hp ν as w n has hH gl=>?_⟩
 refine yn (O:=fun _=>False) (ν:=ν) (hE.x hI hy) hD hf (h i hp) has hH (fun id bn=>gl id (by simpa using bn)) (fun id b l hb ho=>?_) (BH hu) ?_
 ·rw [nG i b (List.mem_of_getElem? (tC hb))] at ho; cases ho
 intro ai v v' t H' a w' hi hk hv;have hb:Below w.heap.size w w':=⟨hi.kp.os,hi.kp.tape,hi.kp.output,hi.kp.size,fun k hk=>hi.kp.aG k hk (fun h=>h)⟩
 unfold iV at hk
 split at hk
 ·rename_i dt;obtain ⟨v2,n8,z9⟩:=hk;have h1:=wu 3 _ _ _ n8 (aq.HQ z9 hv);refine ⟨v',ν,rfl,⟨ν.le_refl,fun _ _=>rfl,h1.mono (fun j lj hj=>?_),hb,fun _=>rfl,(fun b hb=>by rw [dt] at hb; cases hb)⟩⟩
  unfold Nu.comp at hj;by_cases ak:j < (S.aj i).length
  ·rw [List.getElem?_range ak] at hj;have hj:ai j=some lj:=hj;obtain ⟨l0,e1,_⟩:=hH.aG j ((S.aj i)[j]) (by simp [ak])
   have:=hi.mono j l0 e1;rw [hj] at this; cases this;exact e1
  ·have:(List.range (S.aj i).length)[j]?=none:=List.getElem?_eq_none (by simp; omega)
   rw [this] at hj; cases hj
 ·rename_i b dt;obtain ⟨p,hk⟩:=hk;obtain ⟨c,hc,⟨ho,hle⟩,v2,n8,z9⟩:=gB hk;obtain ⟨l,hl,hB⟩:=hi.hp.aG p c hc;have vx:ν (S.aj i).length=none:=gl _ (Nat.le_refl _);refine ⟨v',ν.add (S.aj i).length l,rfl,⟨Nu.kl vx,fun id bn=>Nu.iQ bn,?_,hb,(fun h=>by rw [dt] at h; cases h),(fun b' bF=>?_)⟩⟩
  ·have h1:=wu 3 _ _ _ n8 (aq.HQ z9 hv);refine h1.mono (fun j lj hj=>?_)
   unfold Nu.comp at hj;rcases Nat.lt_trichotomy j (S.aj i).length with ak | he | PA
   ·rw [Tz ak] at hj;have hj:ai j=some lj:=hj;obtain ⟨l0,e1,_⟩:=hH.aG j ((S.aj i)[j]) (by simp [ak])
    have:=hi.mono j l0 e1;rw [hj] at this; cases this;rw [Nu.iQ (by omega)]; exact e1
   ·subst he;have:(List.range (S.aj i).length++[p])[(S.aj i).length]?=some p:=by simp
    rw [this] at hj;have hj:ai p=some lj:=hj;rw [hl] at hj; cases hj;exact Nu.add_same
   ·have:(List.range (S.aj i).length++[p])[j]?=none:=List.getElem?_eq_none (by simp; omega)
    rw [this] at hj; cases hj
  ·rw [dt] at bF; cases bF;refine ⟨l,Nu.add_same,hB.le ⟨hle,by have:=sZ i b dt; cases b <;> first | rfl | cases this⟩,?_⟩
   rcases hi.own p c l hc ho hl with h | h
   ·exact h.elim
   ·exact h
structure y9 where
 ι:Type
 args:ι→List Value
 aj:ι→List ah
 pre:ι→Prop
 val:ι→Value
 post:ι→List ah
 new:ι→List ah
def xq (H:aw):List Nat→List ah→List ah→(aw→Prop)→Prop
 | [],[],[],k=>k H
 | s::σ,b::bs,p::ps,k=>match b.own with
  | true=>match p with
   | .b9 _=>False
   | p=>jv H s (some p) fun H'=>xq H' σ bs ps k
  | false=>xq H σ bs ps k
 | _,_,_,_=>False
def BJ (H:aw):List ah→(aw→Prop)→Prop
 | [],k=>k H
 | b::bs,k=>match b with
  | .b9 _=>False
  | b=>o8 H (some b) fun H'=>BJ H' bs k
def w6:Nat→Nat→List Nat
 | _,0=>[]
 | a,n+1=>a::w6 (a+1) n
def CW:List ah→Nat
 | []=>0
 | _::l=>CW l+1
def Aa (S:y9):FT:=fun args H K=>∃ (i:S.ι) (σ:List Nat),mE σ 3 (S.args i)=some args∧S.pre i∧σ.Nodup∧yV H σ (S.aj i) (jw H fun n0=>xq H σ (S.aj i) (S.post i) fun H1=>BJ H1 (S.new i) fun H2 =>
 ∃ v,cQ (σ++w6 n0 (CW (S.new i))) 3 (S.val i)=some v∧qj v fun v=>K v H2)
def zt (S:y9) (i:S.ι) (v:Value) (H:aw):Prop :=
 ∃ ps:List Nat,ps.Nodup∧(∀ p∈ps,(S.aj i).length≤p)∧ps.length=(S.new i).length ∧
  (∀ (j:Nat) (b q:ah),(S.aj i)[j]?=some b→(S.post i)[j]?=some q→b.own=true→∃ c,H[j]?=some (some c)∧c.own=true∧aO q c) ∧
  (∀ (j p:Nat) (b:ah),ps[j]?=some p→(S.new i)[j]?=some b→∃ c,H[p]?=some (some c)∧c.own=true∧aO b c) ∧
  ∃ v',cQ (List.range (S.aj i).length++ps) 3 (S.val i)=some v'∧eZ v v'
theorem KO:∀ {n a j:Nat},(w6 a n)[j]?=if j < n then some (a+j) else none
 | 0,a,j=>by simp [w6]
 | n+1,a,0=>by simp [w6]
 | n+1,a,j+1=>by
  have:=KO (n:=n) (a:=a+1) (j:=j);simp only [w6,List.getElem?_cons_succ,this];by_cases h:j < n
  ·rw [if_pos h,if_pos (by omega)]; congr 1; omega
  ·rw [if_neg h,if_neg (by omega)]
theorem M4:∀ {l:List ah},CW l=l.length
 | []=>rfl
 | _::l=>by simp [CW,M4 (l:=l)]
theorem JZ:∀ {bs:List ah} {H:aw} {k:aw→Prop},BJ H bs k→k (H++bs.map some)∧∀ b∈bs,b.rc=none
 | [],H,k,h=>by
  have h:k H:=h;exact ⟨by simpa using h,fun b hb=>by cases hb⟩
 | b::bs,H,k,h=>by
  have h:b.rc=none∧o8 H (some b) fun H'=>BJ H' bs k:=by
   cases b with
   | aL o e r=>exact ⟨rfl,h⟩
   | flat o n e g=>exact ⟨rfl,h⟩
   | b9 r=>exact h.elim
  have:=JZ (bs:=bs) (x9 h.2);refine ⟨by simpa using this.1,fun c hc=>?_⟩
  rcases List.mem_cons.1 hc with rfl | hc
  ·exact h.1
  ·exact this.2 c hc
theorem Ez:∀ {σ:List Nat} {bs ps:List ah} {H:aw} {k:aw→Prop},σ.Nodup→xq H σ bs ps k→∃ H1,k H1∧H1.length=H.length∧(∀ id,id ∉ σ→H1[id]?=H[id]?) ∧
  ∀ (j s:Nat) (b:ah),σ[j]?=some s→bs[j]?=some b→(b.own=true→∃ p,ps[j]?=some p∧H1[s]?=some (some p)∧p.rc=none)∧(b.own=false→H1[s]?=H[s]?)
 | [],[],[],H,k,_,h=>⟨H,h,rfl,fun _ _=>rfl,fun j s b hj=>by simp at hj⟩
 | s::σ,b::bs,p::ps,H,k,hn,h=>by
  obtain ⟨hs,hn⟩:=List.nodup_cons.1 hn;unfold xq at h
  split at h
  ·rename_i ho;have IS:p.rc=none∧jv H s (some p) fun H'=>xq H' σ bs ps k:=by
    cases p with
    | aL o e r=>exact ⟨rfl,h⟩
    | flat o n e g=>exact ⟨rfl,h⟩
    | b9 r=>exact h.elim
   obtain ⟨IS,h⟩:=IS;obtain ⟨ak,h⟩:=mq h;obtain ⟨H1,h1,J,h3,h4⟩:=Ez hn h;refine ⟨H1,h1,by rw [J]; simp,fun id bn=>?_,fun j s' b' hj hb=>?_⟩
   ·rw [List.mem_cons,not_or] at bn;rw [h3 id bn.2,List.getElem?_set_ne (Ne.symm bn.1)]
   ·cases j with
    | zero =>
     simp at hj hb; subst hj; subst hb;refine ⟨fun _=>⟨p,rfl,?_,IS⟩,(fun h=>by rw [ho] at h; cases h)⟩
     rw [h3 s hs,List.getElem?_set_self ak]
    | succ j =>
     obtain ⟨h5,h6⟩:=h4 j s' b' (by simpa using hj) (by simpa using hb)
     refine ⟨fun h=>by simpa using h5 h,fun h=>?_⟩
     rw [h6 h,List.getElem?_set_ne];intro e;subst e;exact hs (List.mem_of_getElem? (by simpa using hj))
  ·rename_i ho;obtain ⟨H1,h1,J,h3,h4⟩:=Ez hn h;refine ⟨H1,h1,J,fun id bn=>?_,fun j s' b' hj hb=>?_⟩
   ·rw [List.mem_cons,not_or] at bn;exact h3 id bn.2
   ·cases j with
    | zero =>
     simp at hj hb; subst hj; subst hb;exact ⟨(fun h=>by rw [ho] at h; cases h),fun _=>h3 s hs⟩
    | succ j=>simpa using h4 j s' b' (by simpa using hj) (by simpa using hb)
 | [],_::_,_,H,k,_,h=>by cases h
 | [],[],_::_,H,k,_,h=>by cases h
 | _::_,[],_,H,k,_,h=>by cases h
 | _::_,_::_,[],H,k,_,h=>by cases h
theorem NI {S:y9} (hE:EnvOk P E) (hD:nF P D) {f:FuncId} {fn:Func} (hf:P.funcs[f]?=some fn) (oi:∀ args w,(callFunc f args).run P w=.ok (.enter f args) w)
  (h:∀ i,S.pre i→ck E D fn (S.args i) ((S.aj i).map some) (zt S i))
  (hI:gL P E:=by exact gL.none rfl) (hy:E.ys=[]:=by rfl) (hu:E.nu=(fun _=>none):=by rfl):gi P f (Aa S):=by
 refine ⟨oi,fun args H K hFT ν as w n O has hH gl kB=>?_⟩
 obtain ⟨i,σ,n8,hp,mN,oh⟩:=hFT;obtain ⟨hlen,hσ,oh⟩:=Es oh;obtain ⟨H1,oh,me,ac3,O8⟩:=Ez mN (mr oh);obtain ⟨⟨v2,On,hK⟩,ac4⟩:=JZ oh;have hK:=vS hK;rw [M4] at On;have n3:=tP (wu (ν:=ν) 3) n8 has
 -- the callee's blocks
 let Oc:Nat→Prop:=fun x=>∃ (j s:Nat) (b:ah) (l:Loc),σ[j]?=some s∧(S.aj i)[j]?=some b∧b.own=true∧ν s=some l∧x=l.aG
 have sP:∀ (j:Nat) (b:ah),(S.aj i)[j]?=some b→∃ s,σ[j]?=some s∧∃ c l,H[s]?=some (some c)∧B0 b c∧ν s=some l∧bP ν l c w:=by
  intro j b hb;have ak:j < σ.length:=by rw [hlen]; exact (List.getElem?_eq_some_iff.1 hb).1
  obtain ⟨c,h1,J⟩:=hσ j _ b (List.getElem?_eq_getElem ak) hb;obtain ⟨l,h3,h4⟩:=hH.aG _ _ h1;exact ⟨_,List.getElem?_eq_getElem ak,c,l,h1,J,h3,h4⟩
 have ni:∀ (j s:Nat),σ[j]?=some s→(ν.comp σ) j=ν s:=fun j s hj=>by simp [Nu.comp,hj]
 have IT:bU (ν.comp σ) ((S.aj i).map some) w:=by
  refine ⟨fun j b hj=>?_,fun j q bj bq lj lq hj hq aH ho e1 e2=>?_⟩
  ·obtain ⟨s,h1,c,l,J,h3,h4,h5⟩:=sP j b (tC hj);exact ⟨l,by rw [ni j s h1,h4],h5.le h3⟩
  ·obtain ⟨s,h1,c,l,J,h3,h4,h5⟩:=sP j bj (tC hj);obtain ⟨s',eI,c',l',j9,ta,rh,Ab⟩:=sP q bq (tC hq);rw [ni j s h1,h4] at e1; obtain rfl:=Option.some.inj e1;rw [ni q s' eI,rh] at e2; obtain rfl:=Option.some.inj e2;refine hH.sep s s' c c' _ _ J j9 (fun e=>aH ?_) (ah.cU (h3.own ho).1).1 h4 rh
   subst e;exact (List.getElem?_inj (List.getElem?_eq_some_iff.1 h1).1 mN).1 (h1.trans eI.symm)
 have ac5:∀ id,((S.aj i).map some).length≤id→(ν.comp σ) id=none:=by
  intro id bn;rw [List.length_map] at bn;simp [Nu.comp,List.getElem?_eq_none (show σ.length≤id by omega)]
 have abr:∀ id b l,((S.aj i).map some)[id]?=some (some b)→b.own=true→(ν.comp σ) id=some l→Oc l.aG:=by
  intro id b l hb ho hl;obtain ⟨s,h1,c,l',J,h3,h4,h5⟩:=sP id b (tC hb);rw [ni id s h1,h4] at hl; obtain rfl:=Option.some.inj hl;exact ⟨id,s,b,_,h1,tC hb,ho,h4,rfl⟩
 have rf:∀ x,Oc x→O x:=by
  rintro x ⟨j,s,b,l,h1,J,h3,h4,rfl⟩
  obtain ⟨s',eI,c,l',j9,ta,rh,_⟩:=sP j b J;rw [h1] at eI; cases eI;exact kB s c l j9 (ah.cU (ta.own h3).1).1 h4
 refine yn (O:=Oc) (ν:=ν.comp σ) (hE.x hI hy) hD hf (h i hp) n3 IT ac5 abr (BH hu) ?_;intro gm v v' t H' a w' hi hk hv;obtain ⟨ps,hpn,ac6,lG,abt,dt,v3,abu,z9⟩:=hk;have sO:(ν.comp σ).le gm:=hi.mono
 let ai:Nu:=fun id=>if id < H.length then ν id else (ps[id - H.length]?).bind gm
 have um:∀ id,id < H.length→ai id=ν id:=fun id h=>by simp only [ai]; rw [if_pos h]
 have sf:∀ j p,ps[j]?=some p→ai (H.length+j)=gm p:=fun j p h=>by
  simp only [ai]; rw [if_neg (by omega),Nat.add_sub_cancel_left,h]; rfl
 have He:ν.le ai:=by
  intro id l bn;have:id < H.length:=by
   rcases Nat.lt_or_ge id H.length with h | h
   ·exact h
   ·rw [gl id h] at bn; cases bn
  rw [um id this]; exact bn
 -- own blocks of the arguments, behind the call
 have Oo:∀ (j s:Nat) (b:ah) (l:Loc),σ[j]?=some s→(S.aj i)[j]?=some b→b.own=true→ν s=some l→∃ q c,(S.post i)[j]?=some q∧H1[s]?=some (some q)∧H'[j]?=some (some c)∧c.own=true∧B0 q c∧gm j=some l:=by
  intro j s b l h1 J h3 h4;obtain ⟨q,h5,h6,h60⟩:=(O8 j s b h1 J).1 h3;obtain ⟨c,h7,h8,h9⟩:=abt j b q J h5 h3;exact ⟨q,c,h5,h6,h7,h8,⟨h9,h60⟩,sO j l (by rw [ni j s h1]; exact h4)⟩
 -- a block that the callee does not own has not turned
 have Hc:∀ (id:Nat) (b:ah) (l:Loc),H[id]?=some (some b)→ν id=some l→(∀ (j:Nat) (c:ah),σ[j]?=some id→(S.aj i)[j]?=some c→c.own=false)→¬ Oc l.aG∧w'.heap[l.aG]?=w.heap[l.aG]?:=by
  intro id b l hb hl fH;obtain ⟨l0,e1,hB⟩:=hH.aG id b hb;rw [hl] at e1; cases e1;have P4:¬ Oc l.aG:=by
   rintro ⟨j,s,bj,lj,h1,J,h3,h4,h5⟩
   obtain ⟨s',eI,c,l',j9,ta,rh,_⟩:=sP j bj J;rw [h1] at eI; cases eI;have aH:s≠id:=by
    intro e;subst e;have:=fH j bj h1 J;rw [h3] at this; cases this
   exact hH.sep s id c b lj l j9 hb aH (ah.cU (ta.own h3).1).1 h4 hl h5.symm
  exact ⟨P4,hi.kp.aG _ hB.live P4⟩
 -- the callee's new blocks
 have abv:∀ (j p:Nat) (b:ah),ps[j]?=some p→(S.new i)[j]?=some b→∃ c l,H'[p]?=some (some c)∧c.own=true∧aO b c∧gm p=some l∧bP gm l c w'∧w.heap.size≤l.aG:=by
  intro j p b h1 J;obtain ⟨c,h3,h4,h5⟩:=dt j p b h1 J;obtain ⟨l,h6,h7⟩:=hi.hp.aG p c h3;refine ⟨c,l,h3,h4,h5,h6,h7,?_⟩;rcases hi.own p c l h3 h4 h6 with ⟨j',s,b',l',k1,k2,k3,k4,k5⟩ | h
  ·obtain ⟨q,c',_,_,k6,k7,_,k8⟩:=Oo j' s b' l' k1 k2 k3 k4;have ak:j' < (S.aj i).length:=(List.getElem?_eq_some_iff.1 k2).1;have:=ac6 p (List.mem_of_getElem? h1);exact absurd k5 (hi.hp.sep p j' c c' l l' h3 k6 (by omega) h4 h6 k8)
  ·exact h
 -- which blocks there are behind the call
 have xn:∀ (id:Nat) (b:ah),(H1++(S.new i).map some)[id]?=some (some b)→
   (id < H.length∧∃ b0 l,H[id]?=some (some b0)∧ν id=some l∧(b.own=true→b0.own=true)∧bP ai l b w'∧((∃ (j:Nat) (bj:ah),σ[j]?=some id∧(S.aj i)[j]?=some bj∧bj.own=true)∨(¬ Oc l.aG∧l.aG < w.heap.size))) ∨
   (∃ (j p:Nat) (c:ah) (l:Loc),id=H.length+j∧ps[j]?=some p∧(S.new i)[j]?=some b∧H'[p]?=some (some c)∧c.own=true∧gm p=some l∧bP ai l b w'∧w.heap.size≤l.aG):=by
  intro id b hb;rw [List.getElem?_append] at hb
  split at hb
  ·rename_i ak;rw [me] at ak;refine .inl ⟨ak,?_⟩;by_cases gH:∃ (j:Nat) (bj:ah),σ[j]?=some id∧(S.aj i)[j]?=some bj∧bj.own=true
   ·obtain ⟨j,bj,h1,J,h3⟩:=gH;obtain ⟨s',eI,c,l,h4,h5,h6,h7⟩:=sP j bj J;rw [h1] at eI; cases eI;obtain ⟨q,c',h8,h9,IU,h11,h12,h13⟩:=Oo j id bj l h1 J h3 h6;rw [h9] at hb; cases hb;obtain ⟨l',P5,h15⟩:=hi.hp.aG j c' IU;rw [h13] at P5; cases P5;exact ⟨c,l,h4,h6,fun _=>(ah.cU (h5.own h3).1).1,h15.le h12,.inl ⟨j,bj,h1,J,h3⟩⟩
   ·have fH:∀ (j:Nat) (c:ah),σ[j]?=some id→(S.aj i)[j]?=some c→c.own=false:=by
     intro j c h1 J;cases h:c.own with
     | false=>rfl
     | true=>exact absurd ⟨j,c,h1,J,h⟩ gH
    have IW:H[id]?=some (some b):=by
     by_cases mc:id∈σ
     ·obtain ⟨j,hj⟩:=List.getElem?_of_mem mc;have Ig:j < (S.aj i).length:=by rw [← hlen]; exact (List.getElem?_eq_some_iff.1 hj).1
      have:=(O8 j id _ hj (List.getElem?_eq_getElem Ig)).2 (fH j _ hj (List.getElem?_eq_getElem Ig));rw [← this]; exact hb
     ·rw [← ac3 id mc]; exact hb
    obtain ⟨l,h1,J⟩:=hH.aG id b IW;obtain ⟨h3,h4⟩:=Hc id b l IW h1 fH;exact ⟨b,l,IW,h1,fun h=>h,(J.same h4 hi.kp.size).mono He,.inr ⟨h3,J.live⟩⟩
  ·rename_i dZ;rw [me] at hb dZ;have hb:=tC hb;have ak:id - H.length < ps.length:=by rw [lG]; exact (List.getElem?_eq_some_iff.1 hb).1
   obtain ⟨c,l,h1,J,h3,h4,h5,h6⟩:=abv _ _ b (List.getElem?_eq_getElem ak) hb;exact .inr ⟨id - H.length,_,c,l,by omega,List.getElem?_eq_getElem ak,hb,h1,J,h4,h5.le ⟨h3,ac4 b (List.mem_of_getElem? hb)⟩,h6⟩
 have adP:∀ (j p:Nat),ps[j]?=some p→ai (H.length+j)=gm p:=sf;refine ⟨v2,v',ai,H1++(S.new i).map some,rfl,hK,?_,He,⟨fun id b hb=>?_,fun p q bp bq lp lq Ik Iq aH ho e1 e2=>?_⟩,fun id bn=>?_,⟨hi.kp.os,hi.kp.tape,hi.kp.output,hi.kp.size,fun b h1 J=>hi.kp.aG b h1 (fun h=>J (rf b h))⟩,fun id b l hb ho hl=>?_⟩
 ·have h1:=wu 3 _ _ _ abu (aq.HQ z9 hv);refine Fp 3 _ _ _ On (h1.mono (fun j lj hj=>?_))
  unfold Nu.comp at hj ⊢;by_cases ak:j < (S.aj i).length
  ·rw [List.getElem?_append_left (by simpa using ak),List.getElem?_range ak] at hj
   have hj:gm j=some lj:=hj;obtain ⟨s,J,c,l,h3,h4,h5,_⟩:=sP j _ (List.getElem?_eq_getElem ak);have:=sO j l (by rw [ni j s J]; exact h5)
   rw [hj] at this; cases this;rw [List.getElem?_append_left (List.getElem?_eq_some_iff.1 J).1,J];exact He s lj h5
  ·rw [List.getElem?_append_right (by simp; omega)] at hj
   rw [List.length_range] at hj;rw [List.getElem?_append_right (by omega),KO,hlen]
   cases s7:ps[j - (S.aj i).length]? with
   | none=>rw [s7] at hj; cases hj
   | some p =>
    rw [s7] at hj;have hj:gm p=some lj:=hj;have:=(List.getElem?_eq_some_iff.1 s7).1;rw [if_pos (by omega)]
    show ai (H.length+(j - (S.aj i).length))=_
    rw [sf _ _ s7]; exact hj
 ·rcases xn id b hb with ⟨ak,b0,l,h1,J,_,h3,_⟩ | ⟨j,p,c,l,rfl,h1,J,h3,h4,h5,h6,h7⟩
  ·exact ⟨l,by rw [um id ak]; exact J,h3⟩
  ·exact ⟨l,by rw [sf j p h1]; exact h5,h6⟩
 ·rcases xn p bp Ik with ⟨ak,b0,l,h1,J,h3,h4,h5⟩ | ⟨j,pp,c,l,rfl,h1,J,h3,h4,h5,h6,h7⟩ <;>
   rcases xn q bq Iq with ⟨qQ,P6,l',eI,j9,ta,rh,Ab⟩ | ⟨j',pp',c',l',rfl,eI,j9,ta,rh,Ab,h6',h7'⟩
  ·rw [um p ak,J] at e1; cases e1;rw [um q qQ,j9] at e2; cases e2;exact hH.sep p q b0 P6 _ _ h1 eI aH (h3 ho) J j9
  ·rw [um p ak,J] at e1; cases e1;rw [sf _ _ eI,Ab] at e2; cases e2;have:=(hH.aG p b0 h1);obtain ⟨l0,e3,e4⟩:=this;rw [J] at e3; cases e3;have:=e4.live;omega
  ·rw [sf _ _ h1,h5] at e1; cases e1;rw [um q qQ,j9] at e2; cases e2;obtain ⟨l0,e3,e4⟩:=hH.aG q P6 eI;rw [j9] at e3; cases e3;have:=e4.live;omega
  ·rw [sf _ _ h1,h5] at e1; cases e1;rw [sf _ _ eI,Ab] at e2; cases e2;refine hi.hp.sep pp pp' c c' _ _ h3 ta (fun e=>aH ?_) h4 h5 Ab
   subst e;rw [(List.getElem?_inj (List.getElem?_eq_some_iff.1 h1).1 hpn).1 (h1.trans eI.symm)]
 ·rw [List.length_append,List.length_map,me] at bn;simp only [ai];rw [if_neg (by omega),List.getElem?_eq_none (by omega)]
  rfl
 ·rcases xn id b hb with ⟨ak,b0,l',h1,J,h3,_⟩ | ⟨j,p,c,l',rfl,h1,J,h3,h4,h5,h6,h7⟩
  ·rw [um id ak,J] at hl; cases hl;exact .inl (kB id b0 _ h1 (h3 ho) J)
  ·rw [sf j p h1,h5] at hl; cases hl;exact .inr h7
end
open Go Go.RowKit
def BK (P:Program) (g:TypeId→Option (Bool × List Value)):Nat→List Field→Option (List Value)
 | _,[]=>some []
 | o, f :: l => match Nat.beq f.offset o && (f.name != "_"), g f.type, P.info? f.type, P.underlying f.type with
  | true,some (b,z),some i,some d=>match Nat.beq i.size z.length && (uh d == b) && Nat.ble 1 z.length with
   | true=>match BK P g (o+z.length) l with
    | some zs=>some (z++zs)
    | none=>none
   | false=>none
  | _,_,_,_=>none
def xr (P:Program):Nat→TypeId→Option (Bool × List Value)
 | 0,_=>none
 | d+1,t=>match P.underlying t with
  | some .bool=>some (false,[.bool false])
  | some (.int q)=>some (false,[.int q 0])
  | some .string=>some (false,[.string ⟨#[]⟩])
  | some (.struct fs)=>match P.stoodInHeld t with
   | true=>none
   | false=>match BK P (xr P d) 0 fs.toList with
    | some z=>some (true,z)
    | none=>none
  | _=>none
theorem rI:∀ {l m:List Value},eW l m=true→l.length=m.length
 | [],[],_=>rfl
 | .bool _::l,.bool _::m,h=>by simp [rI (l:=l) (m:=m) h]
 | .int q _::l,.int q' _::m,h=>by
  simp only [eW,Bool.and_eq_true] at h;simp [rI (l:=l) (m:=m) h.2]
 | .string _::l,.string _::m,h=>by simp [rI (l:=l) (m:=m) h]
def IX (x v:Value):Prop:=(∃ a b,x=.bool a∧v=.bool b)∨(∃ q a b,x=.int q a∧v=.int q b)∨∃ a b,x=.string a∧v=.string b
theorem B9 {xs z:List Value} {v:Value} (h:eW xs (v::z)=true):∃ x l,xs=x::l∧IX x v∧eW l z=true:=by
 generalize e:v::z=w at h;unfold eW at h
 split at h
 ·cases e
 ·cases e; exact ⟨_,_,rfl,.inl ⟨_,_,rfl,rfl⟩,h⟩
 ·cases e;simp only [Bool.and_eq_true,decide_eq_true_eq] at h;obtain ⟨rfl,h⟩:=h;exact ⟨_,_,rfl,.inr (.inl ⟨_,_,_,rfl,rfl⟩),h⟩
 ·cases e; exact ⟨_,_,rfl,.inr (.inr ⟨_,_,rfl,rfl⟩),h⟩
 ·cases h
theorem GC {xs:List Value} (h:eW xs []=true):xs=[]:=List.length_eq_zero_iff.1 (rI h)
theorem V9 {x v:Value} {l z:List Value} (h:IX x v) (J:eW l z=true):eW (x::l) (v::z)=true:=by
 rcases h with ⟨a,b,rfl,rfl⟩ | ⟨q,a,b,rfl,rfl⟩ | ⟨a,b,rfl,rfl⟩
 ·exact J
 ·simp only [eW,decide_true,Bool.true_and]; exact J
 ·exact J
theorem DQ:∀ {z xs zs:List Value},eW xs (z++zs)=true→∃ x1 x2,xs=x1++x2∧eW x1 z=true∧eW x2 zs=true
 | [],xs,zs,h=>⟨[],xs,rfl,rfl,h⟩
 | v::z,xs,zs,h=>by
  obtain ⟨x,l,rfl,h1,J⟩:=B9 (z:=z++zs) h;obtain ⟨x1,x2,rfl,h3,h4⟩:=DQ J;exact ⟨x::x1,x2,rfl,V9 h1 h3,h4⟩
theorem JJ:∀ {z x1 y1 x2 y2:List Value},eW x1 z=true→eW y1 z=true→bz (x1++x2) (y1++y2)=(bz x1 y1 && bz x2 y2)
 | [],x1,y1,x2,y2,h1,J=>by
  rw [GC h1,GC J];simp [bz]
 | v::z,x1,y1,x2,y2,h1,J=>by
  obtain ⟨x,l,rfl,a1,a2⟩:=B9 h1;obtain ⟨y,m,rfl,b1,b2⟩:=B9 J;have ih:=JJ (x2:=x2) (y2:=y2) a2 b2;rcases a1 with ⟨p,_,rfl,rfl⟩ | ⟨q,p,_,rfl,rfl⟩ | ⟨p,_,rfl,rfl⟩
  all_goals
   rcases b1 with ⟨r,_,rfl,e⟩ | ⟨q',r,_,rfl,e⟩ | ⟨r,_,rfl,e⟩
  all_goals first | (cases e; done) | skip
  all_goals
   simp only [List.cons_append,bz,ih,Bool.and_assoc]
theorem w8 {xs:List Value} {v:Value} (h:eW xs [v]=true):∃ x,xs=[x]∧IX x v:=by
 obtain ⟨x,l,rfl,h1,J⟩:=B9 h;rw [GC J];exact ⟨x,rfl,h1⟩
def toV (b:Bool) (xs:List Value):Value:=if b then .agg ⟨xs⟩ else xs.getD 0 undef
theorem J0 {P:Program} {d:Nat} (ih:∀ t b z,xr P d t=some (b,z)→∀ n xs ys w,eW xs z=true→eW ys z=true→(Op.equalIn (n+d) t (toV b xs) (toV b ys)).run P w=.ok (bz xs ys) w) (n:Nat) (w:World) (XS YS:List Value) :
  ∀ (l:List Field) (o:Nat) (z:List Value),BK P (xr P d) o l=some z→∀ xs ys,eW xs z=true→eW ys z=true→(∀ j v,xs[j]?=some v→XS[o+j]?=some v)→(∀ j v,ys[j]?=some v→YS[o+j]?=some v) →
   (Op.eqFields (n+d) ⟨XS⟩ ⟨YS⟩ l).run P w=.ok (bz xs ys) w
 | [],o,z,h,xs,ys,h1,J,_,_=>by
  cases h;have e1:=rI h1;have e2:=rI J;have e1:xs=[]:=List.length_eq_zero_iff.1 e1;have e2:ys=[]:=List.length_eq_zero_iff.1 e2;subst e1; subst e2
  rfl
 | f::l,o,z,h,xs,ys,h1,J,hx,hy=>by
  unfold BK at h
  split at h
  ·rename_i b z1 i dd hb hg hi hu
   split at h
   ·rename_i hc
    split at h
    ·rename_i zs hz;cases h;simp only [Bool.and_eq_true] at hb hc;obtain ⟨⟨c1,c2⟩,c3⟩:=hc;obtain ⟨x1,x2,rfl,xJ,q7⟩:=DQ h1;obtain ⟨y1,y2,rfl,pI,q8⟩:=DQ J;have lx:=rI xJ;have ly:=rI pI;have aU:=Nat.eq_of_beq_eq_true c1;have P7:yw P f (o,z1.length,b):=⟨Nat.eq_of_beq_eq_true hb.1,Nat.le_of_ble_eq_true c3,⟨i,hi,aU⟩,dd,hu,by simpa using c2⟩
     have p1:=Fm P7 (cs:=XS) (vs:=x1) lx (fun j v hv=>hx j v (by rw [List.getElem?_append_left (by rw [List.getElem?_eq_some_iff] at hv; exact hv.1)]; exact hv)) w
     have p2:=Fm P7 (cs:=YS) (vs:=y1) ly (fun j v hv=>hy j v (by rw [List.getElem?_append_left (by rw [List.getElem?_eq_some_iff] at hv; exact hv.1)]; exact hv)) w
     have p3:=ih f.type b z1 hg n x1 y1 w xJ pI;have p4:=J0 ih n w XS YS l (o+z1.length) zs hz x2 y2 q7 q8
      (fun j v hv=>by
       rw [Nat.add_assoc];refine hx _ v ?_;rw [List.getElem?_append_right (by omega),← lx,Nat.add_sub_cancel_left]
       exact hv)
      (fun j v hv=>by
       rw [Nat.add_assoc];refine hy _ v ?_;rw [List.getElem?_append_right (by omega),← ly,Nat.add_sub_cancel_left]
       exact hv)
     have aH : f.name ≠ "_" := by simpa using hb.2
     unfold Op.eqFields;rw [if_pos aH];unfold toV at p3;simp only [Sem.run_bind,p1,p2,Result.andThen_ok];rw [p3];simp only [Result.andThen_ok];rw [JJ xJ pI];cases bz x1 y1
     ·rfl
     ·simpa using p4
    ·cases h
   ·cases h
  ·cases h
theorem KP {P:Program}:∀ (d:Nat) (t:TypeId) (b:Bool) (z:List Value),xr P d t=some (b,z)→∀ (n:Nat) (xs ys:List Value) (w:World),eW xs z=true→eW ys z=true →
  (Op.equalIn (n+d) t (toV b xs) (toV b ys)).run P w=.ok (bz xs ys) w
 | 0,t,b,z,h=>by cases h
 | d+1,t,b,z,h=>by
  intro n xs ys w h1 J;unfold xr at h
  split at h
  ·rename_i hu;cases h;obtain ⟨x,rfl,a1⟩:=w8 h1;obtain ⟨y,rfl,a2⟩:=w8 J;rcases a1 with ⟨x,_,rfl,e⟩ | ⟨_,x,_,rfl,e⟩ | ⟨x,_,rfl,e⟩
   all_goals first | (cases e; done) | skip
   rcases a2 with ⟨y,_,rfl,e⟩ | ⟨_,y,_,rfl,e⟩ | ⟨y,_,rfl,e⟩
   all_goals first | (cases e; done) | skip
   ·skip
    rw [show toV false [Value.bool x]=.bool x from rfl,show toV false [Value.bool y]=.bool y from rfl]
    rw [show n+(d+1)=(n+d)+1 from rfl,run_equalIn_bool' w (n+d) t x y hu]
    simp [bz]
  ·rename_i q hu;cases h;obtain ⟨x,rfl,a1⟩:=w8 h1;obtain ⟨y,rfl,a2⟩:=w8 J;rcases a1 with ⟨x,_,rfl,e⟩ | ⟨q1,x,_,rfl,e⟩ | ⟨x,_,rfl,e⟩
   all_goals first | (cases e; done) | skip
   cases e;rcases a2 with ⟨y,_,rfl,e⟩ | ⟨q2,y,_,rfl,e⟩ | ⟨y,_,rfl,e⟩
   all_goals first | (cases e; done) | skip
   cases e
   ·skip
    rw [show toV false [Value.int q x]=.int q x from rfl,show toV false [Value.int q y]=.int q y from rfl]
    rw [show n+(d+1)=(n+d)+1 from rfl,run_equalIn_int w (n+d) t q q x y hu]
    simp [bz]
  ·rename_i hu;cases h;obtain ⟨x,rfl,a1⟩:=w8 h1;obtain ⟨y,rfl,a2⟩:=w8 J;rcases a1 with ⟨x,_,rfl,e⟩ | ⟨_,x,_,rfl,e⟩ | ⟨x,_,rfl,e⟩
   all_goals first | (cases e; done) | skip
   rcases a2 with ⟨y,_,rfl,e⟩ | ⟨_,y,_,rfl,e⟩ | ⟨y,_,rfl,e⟩
   all_goals first | (cases e; done) | skip
   ·skip
    rw [show toV false [Value.string x]=.string x from rfl,show toV false [Value.string y]=.string y from rfl]
    rw [show n+(d+1)=(n+d)+1 from rfl,run_equalIn_string w (n+d) t x y hu]
    simp [bz]
  ·rename_i fs hu
   split at h
   ·cases h
   ·rename_i ao
    split at h
    ·rename_i z0 hz;cases h;have vB:P.fieldsOf t=fs:=by unfold Program.fieldsOf; rw [hu]
     show (Op.equalIn (n+(d+1)) t (.agg ⟨xs⟩) (.agg ⟨ys⟩)).run P w=_
     rw [show n+(d+1)=(n+d)+1 from rfl,run_equalIn_struct w (n+d) t ⟨xs⟩ ⟨ys⟩ (by rw [vB]; exact hu) ao,vB]
     exact J0 (KP d) n w xs ys fs.toList 0 _ hz xs ys h1 J (fun j v hv=>by rw [Nat.zero_add]; exact hv) (fun j v hv=>by rw [Nat.zero_add]; exact hv)
    ·cases h
  ·cases h
theorem ac7 {P:Program} {t:TypeId} {z:List Value} (h:xr P 5 t=some (true,z)) (hg:P.eqGuardType P.depth t=false):xD P t z:=by
 intro xs ys w h1 J;refine ⟨?_,fun x y op=>run_eqGuard_agg w op t x y ⟨xs⟩ ⟨ys⟩ hg⟩
 exact KP 5 t true z h 9995 xs ys w h1 J
open Go Go.RowKit
def uG:Code→Option (Array Nat × Code × Code)
 | .rangeFunc _ ps a b=>some (ps,a,b)
 | .seq a b=>match uG a with
  | some x=>some x
  | none=>uG b
 | .block _ c=>uG c
 | .loop c=>uG c
 | .cond _ a b=>match uG a with
  | some x=>some x
  | none=>uG b
 | _=>none
def qR (f:Func) (fn:FuncId) (tm:Array Value) (df:Nat):Loop :=
 match f.body with
 | some c=>match uG c with
  | some (ps,a,b)=>⟨.ready,none,fn,tm,ps,a,b,df⟩
  | none=>⟨.ready,none,fn,tm,#[],.skip,.skip,df⟩
 | none=>⟨.ready,none,fn,tm,#[],.skip,.skip,df⟩
def eK (id:Nat):Nat→Value
 | 0=>.slice none 0 0
 | q+1=>.slice (some ⟨id,0,none⟩) (q+1) aK
def zu (e:Nat) (F:Nat→List Value):Nat→aw
 | 0=>[]
 | q+1=>[some (.flat true (q+1) e F)]
end Go.Ae
