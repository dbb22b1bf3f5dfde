import Derived.Laws.StructEq
import Derived.Test.YtppeponndkfbkaaGreatSB
set_option linter.unusedVariables false
set_option linter.unusedSimpArgs false
/- Regions that draw their order, in which slices grow: the evaluation, and that the machine's choice does not matter. -/
namespace Go.Ae
open Go Go.RowKit
/-- Whether one that has gone eats block i. -/
def eaten (es:List (Option Nat)) (D:Nat→Bool) (i:Nat):Bool:=(List.range es.length).any fun p=>D p && (es.getD p none == some i)
theorem eaten_iff {es:List (Option Nat)} {D:Nat→Bool} {i:Nat}:eaten es D i=true↔∃ p,D p=true∧es[p]?=some (some i):=by
 unfold eaten
 rw [List.any_eq_true]
 constructor
 ·rintro ⟨p,hp,h⟩
  rw [Bool.and_eq_true,beq_iff_eq,List.getD_eq_getElem?_getD,List.getElem?_eq_getElem (List.mem_range.1 hp)] at h
  exact ⟨p,h.1,by rw [List.getElem?_eq_getElem (List.mem_range.1 hp)]; exact congrArg some h.2⟩
 ·rintro ⟨p,h1,h2⟩
  have hlt:=(List.getElem?_eq_some_iff.1 h2).1
  refine ⟨p,List.mem_range.2 hlt,?_⟩
  rw [h1,List.getD_eq_getElem?_getD,h2]
  simp
def viewE (es:List (Option Nat)) (rs:List Res) (D:Nat→Bool) (m:Nat):List (Option Blk):=(List.range m).map fun i=>if D i && !eaten es D i then (rs[i]?).bind (·.nb) else none
theorem viewE_get {es:List (Option Nat)} {rs:List Res} {D:Nat→Bool} {m i:Nat} {b:Blk}:(viewE es rs D m)[i]?=some (some b)↔i < m∧D i=true∧eaten es D i=false∧(rs[i]?).bind (·.nb)=some b:=by
 unfold viewE
 rw [List.getElem?_map]
 by_cases h:i < m
 ·simp only [List.getElem?_range h,Option.map_some,Option.some.injEq]
  cases D i <;> cases eaten es D i <;> simp [h]
 ·rw [List.getElem?_eq_none (by simp; omega)]
  simp [h]
theorem viewE_length (es:List (Option Nat)) (rs:List Res) (D:Nat→Bool) (m:Nat):(viewE es rs D m).length=m:=by simp [viewE]
/-- The blocks when all of the list have gone. -/
def liveE (es:List (Option Nat)) (rs:List Res):List (Option Blk):=viewE es rs (fun i=>decide (i < rs.length)) rs.length
def eatOk (ms:List (List Nat)) (j i:Nat):Bool :=
 decide (i < j) && (ms.getD j []).contains i && (List.range ms.length).all fun q=>q == j || !((ms.getD q []).contains i) || (ms.getD j []).contains q
theorem eatOk_spec {ms:List (List Nat)} {j i:Nat} (h:eatOk ms j i=true):i < j∧i∈ms.getD j []∧∀ q,q≠j→i∈ms.getD q []→q∈ms.getD j []:=by
 unfold eatOk at h
 simp only [Bool.and_eq_true,decide_eq_true_eq,List.contains_iff_mem,List.all_eq_true,List.mem_range,Bool.or_eq_true,beq_iff_eq,Bool.not_eq_true'] at h
 refine ⟨h.1.1,h.1.2,fun q hq hi=>?_⟩
 have hlt:q < ms.length:=by
  rcases Nat.lt_or_ge q ms.length with h' | h'
  ·exact h'
  ·rw [List.getD_eq_getElem?_getD,List.getElem?_eq_none h'] at hi; cases hi
 rcases h.2 q hlt with (h' | h') | h'
 ·exact absurd h' hq
 ·rw [List.contains_iff_mem.2 hi] at h'; cases h'
 ·exact h'
def headE (E:Env) (ops:List Oper) (ms0:List (List Nat)) (H:Heap) (n0:Nat):List Oper→List (List Nat)→Nat→List Value→List (Option Blk)→(List Value→List (Option Blk)→Prop)→Prop
 | [],_,_,t,S,k=>k t S
 | o::l,mask::masks,j,t,S,k =>
  match o.guard with
  | none=>match isApp o.op with
   | some (ty,x,y)=>maskK S 0 mask fun Sm=>apH H Sm fun G=>eatK E t G n0 (n0+j) ty x y fun v eat nb=>match eat with
    | some i=>eatOk ms0 j i=true∧dstK t o.dst v fun t'=>setB S i none fun S1=>snocB S1 nb fun S'=>headE E ops ms0 H n0 l masks (j+1) t' S' k
    | none=>dstK t o.dst v fun t'=>snocB S nb fun S'=>headE E ops ms0 H n0 l masks (j+1) t' S' k
   | none=>maskK S 0 mask fun Sm=>apH H Sm fun G=>opQ E o.op t G (n0+j) fun v nb=>dstK t o.dst v fun t'=>snocB S nb fun S'=>headE E ops ms0 H n0 l masks (j+1) t' S' k
  | some (g,want)=>match (ops[g]?).bind (·.dst) with
   | some d=>getT t d fun v=>match v with
    | .bool b=>br (b == want)
      (maskK S 0 mask fun Sm=>apH H Sm fun G=>opQ E o.op t G (n0+j) fun v nb=>dstK t o.dst v fun t'=>snocB S nb fun S'=>headE E ops ms0 H n0 l masks (j+1) t' S' k)
      (dstK t o.dst undef fun t'=>snocB S none fun S'=>headE E ops ms0 H n0 l masks (j+1) t' S' k)
    | .tuple _=>dstK t o.dst undef fun t'=>snocB S none fun S'=>headE E ops ms0 H n0 l masks (j+1) t' S' k
    | _=>False
   | none=>False
 | _::_,[],_,_,_,_=>False
/-- A region that draws, with growing slices ahead of its last operations. -/
def drawE (E:Env) (ops:List Oper) (t:List Value) (H:Heap) (k:SK):Prop :=
 ∃ (m:Nat) (masks:List (List Nat)),drawOk ops m masks=true∧lenK H fun n0=>takeO ops m fun hd tl=>headE E ops masks H n0 hd masks 0 t [] fun t' S=>apH H S fun G=>opsK E ops tl t' G k
structure HeadE (P:Program) (ops:List Oper) (t0:List Value) (H:Heap) (masks:List (List Nat)) (rs:List Res) (es:List (Option Nat)) (j:Nat):Prop where
 ok:∃ o r eat,ops[j]?=some o∧rs[j]?=some r∧es[j]?=some eat∧(∀ d,o.dst=some d→d < t0.length) ∧
  ((∃ G:Heap,(∀ id b,G[id]?=some (some b)→(id < H.length∧H[id]?=some (some b))∨(∃ i,id=H.length+i∧i < j∧i∈masks.getD j []∧(rs[i]?).bind (·.nb)=some b)) ∧
    (∀ i,eat=some i→i < j∧i∈masks.getD j []∧(∀ q,q≠j→i∈masks.getD q []→q∈masks.getD j [])∧∃ b,G[H.length+i]?=some (some b)∧b.own=true) ∧
    (∀ (ν:Nu) (a:Act) (w:World) (q:Option Nat) (n:Nat),(∀ x∈o.op.operands,OpRel ν (viewT ops rs (fun i=>decide (i < j)) t0 j) a x)→HRel ν G w→ν (H.length+j)=none →
     ∀ next Q,(∀ v' w' ν',EPost ν ν' (H.length+j) (eat.bind fun i=>ν (H.length+i)) w w' r.v v' r.nb→next (a.put o.dst v') w')→o.wpIn (WF q) n P a w next Q) ∧
    (o.guard=none∨∃ g want d b,o.guard=some (g,want)∧dstOf ops g=some d∧(viewT ops rs (fun i=>decide (i < j)) t0 j)[d]?=some (.bool b)∧(b == want)=true)) ∨
    (eat=none∧r.v=undef∧r.nb=none∧∃ g want d v,o.guard=some (g,want)∧dstOf ops g=some d∧(viewT ops rs (fun i=>decide (i < j)) t0 j)[d]?=some v∧((∃ b,v=.bool b∧(b == want)=false)∨∃ vs,v=.tuple vs)))
theorem HeadE.more {P:Program} {ops:List Oper} {t0:List Value} {H:Heap} {masks:List (List Nat)} {rs:List Res} {es:List (Option Nat)} {j:Nat} (h:HeadE P ops t0 H masks rs es j) (hj:j < rs.length) (hj2:j < es.length) (r:Res) (e:Option Nat):HeadE P ops t0 H masks (rs++[r]) (es++[e]) j:=by
 have he:∀ i,i≤j→(rs++[r])[i]?=rs[i]?:=fun i hi=>by rw [List.getElem?_append_left (by omega)]
 have hv:∀ D,viewT ops (rs++[r]) D t0 j=viewT ops rs D t0 j:=fun D=>viewT_congr (fun i hi=>he i (by omega))
 obtain ⟨o,q,eat,h1,h2,h2',h3,h4⟩:=h.ok
 refine ⟨⟨o,q,eat,h1,by rw [he j (Nat.le_refl _)]; exact h2,by rw [List.getElem?_append_left hj2]; exact h2',h3,?_⟩⟩
 rw [hv]
 rcases h4 with ⟨G,g1,g2,g3,g4⟩ | h4
 ·exact .inl ⟨G,fun id b hb=>(g1 id b hb).imp (fun x=>x) (fun ⟨i,k1,k2,k3,k4⟩=>⟨i,k1,k2,k3,by rw [he i (by omega)]; exact k4⟩),g2,g3,g4⟩
 ·exact .inr h4
def killI (S:List (Option Blk)):Option Nat→List (Option Blk)
 | some i=>S.set i none
 | none=>S
theorem liveE_get {es:List (Option Nat)} {rs:List Res} {i:Nat} {b:Blk} (h:(liveE es rs)[i]?=some (some b)):(rs[i]?).bind (·.nb)=some b:=(viewE_get.1 h).2.2.2
theorem liveE_snoc {es:List (Option Nat)} {rs:List Res} (hl:es.length=rs.length) (hlt:∀ (p i:Nat),es[p]?=some (some i)→i < p) (r:Res) (e:Option Nat) (he:∀ i,e=some i→i < rs.length) :
  liveE (es++[e]) (rs++[r])=killI (liveE es rs) e++[r.nb]:=by
 have hD:∀ i,i < rs.length+1→decide (i < (rs++[r]).length)=true:=fun i hi=>by simp; omega
 have hea:∀ i,eaten (es++[e]) (fun i=>decide (i < (rs++[r]).length)) i=(eaten es (fun i=>decide (i < rs.length)) i || e == some i):=fun i=>by
  rw [Bool.eq_iff_iff,Bool.or_eq_true,eaten_iff,eaten_iff,beq_iff_eq]
  constructor
  ·rintro ⟨p,_,h2⟩
   rw [List.getElem?_append] at h2
   split at h2
   ·rename_i hp
    exact .inl ⟨p,by simp; omega,h2⟩
   ·right
    have:p - es.length=0:=by
     rcases Nat.eq_zero_or_pos (p - es.length) with h | h
     ·exact h
     ·rw [List.getElem?_eq_none (by simp; omega)] at h2; cases h2
    rw [this] at h2
    simpa using h2
  ·rintro (⟨p,h1,h2⟩ | h2)
   ·have:=(List.getElem?_eq_some_iff.1 h2).1
    exact ⟨p,by simp at h1 ⊢; omega,by rw [List.getElem?_append_left this]; exact h2⟩
   ·exact ⟨es.length,by simp; omega,by rw [List.getElem?_append_right (Nat.le_refl _)]; simp [h2]⟩
 apply List.ext_getElem?
 intro x
 have hlen:(killI (liveE es rs) e).length=rs.length:=by
  cases e <;> simp [killI,liveE,viewE_length]
 unfold liveE viewE
 rw [List.getElem?_map]
 by_cases hx:x < rs.length
 ·rw [List.getElem?_range (by simp; omega),List.getElem?_append_left (by cases e <;> simp [killI] <;> omega)]
  simp only [Option.map_some]
  simp only [hea x,hD x (by omega)]
  rw [List.getElem?_append_left hx]
  unfold killI
  cases e with
  | none =>
   dsimp only
   rw [List.getElem?_map,List.getElem?_range hx]
   simp [hx]
  | some i =>
   dsimp only
   by_cases hix:i=x
   ·subst hix
    rw [List.getElem?_set_self (by simpa using hx)]
    simp
   ·rw [List.getElem?_set_ne hix,List.getElem?_map,List.getElem?_range hx]
    have:(some i == some x)=false:=by simp [hix]
    rw [this]
    simp [hx]
 ·by_cases hx2:x=rs.length
  ·subst hx2
   rw [List.getElem?_range (by simp),List.getElem?_append_right (by cases e <;> simp [killI])]
   have hne:eaten es (fun i=>decide (i < rs.length)) rs.length=false:=by
    cases h:eaten es (fun i=>decide (i < rs.length)) rs.length with
    | false=>rfl
    | true =>
     obtain ⟨p,h1,h2⟩:=eaten_iff.1 h
     have:=hlt p _ h2
     have:=of_decide_eq_true h1
     omega
   have hne2:(e == some rs.length)=false:=by
    cases e with
    | none=>rfl
    | some i=>have:=he i rfl; simp; omega
   simp only [Option.map_some]
   simp only [hea,hD _ (Nat.lt_succ_self _),hne,hne2]
   cases e <;> simp [killI]
  ·rw [List.getElem?_eq_none (by simp; omega),List.getElem?_eq_none (by cases e <;> simp [killI] <;> omega)]; rfl
theorem head_specE {P:Program} {E:Env} (hE:EnvOk P E) {ops:List Oper} {t0:List Value} {H:Heap} {masks:List (List Nat)} {k:List Value→List (Option Blk)→Prop} :
  ∀ {l:List Oper} {ms:List (List Nat)} {j:Nat} {rs:List Res} {es:List (Option Nat)},rs.length=j→es.length=j→(∀ (p i:Nat),es[p]?=some (some i)→i < p)→(∀ (i:Nat) o,l[i]?=some o→ops[j+i]?=some o)→(∀ i,i < l.length→ms.getD i []=masks.getD (j+i) []) →
  (∀ i,i < j→HeadE P ops t0 H masks rs es i)→headE E ops masks H H.length l ms j (viewT ops rs (fun i=>decide (i < j)) t0 j) (liveE es rs) k →
  ∃ (rs':List Res) (es':List (Option Nat)),rs'.length=j+l.length∧es'.length=j+l.length∧(∀ i,i < j+l.length→HeadE P ops t0 H masks rs' es' i)∧k (viewT ops rs' (fun i=>decide (i < j+l.length)) t0 (j+l.length)) (liveE es' rs')
 | [],ms,j,rs,es,hl,hl2,_,_,_,hok,h=>⟨rs,es,hl,hl2,hok,h⟩
 | o::l,[],j,rs,es,hl,hl2,_,_,_,hok,h=>h.elim
 | o::l,mask::ms,j,rs,es,hl,hl2,hlt,ho,hm,hok,h=>by
  have hoj:ops[j]?=some o:=by have:=ho 0 o rfl; simpa using this
  have hmask:mask=masks.getD j []:=by have:=hm 0 (by simp); simpa using this
  -- the next step, whatever this one's result
  have next:∀ (r:Res) (e:Option Nat) t',(t'=match o.dst with | some d=>(viewT ops rs (fun i=>decide (i < j)) t0 j).set d r.v | none=>viewT ops rs (fun i=>decide (i < j)) t0 j)→(∀ i,e=some i→i < j) →
    (HeadE P ops t0 H masks (rs++[r]) (es++[e]) j)→headE E ops masks H H.length l ms (j+1) t' (killI (liveE es rs) e++[r.nb]) k →
    ∃ (rs':List Res) (es':List (Option Nat)),rs'.length=j+(o::l).length∧es'.length=j+(o::l).length∧(∀ i,i < j+(o::l).length→HeadE P ops t0 H masks rs' es' i)∧k (viewT ops rs' (fun i=>decide (i < j+(o::l).length)) t0 (j+(o::l).length)) (liveE es' rs'):=by
   intro r e t' ht' hei hj h'
   have hv:viewT ops (rs++[r]) (fun i=>decide (i < j+1)) t0 (j+1)=t':=by
    have hr:(rs++[r])[j]?=some r:=by rw [← hl]; simp
    have hd:dstOf ops j=o.dst:=by simp [dstOf,hoj]
    have hrest:viewT ops (rs++[r]) (fun i=>decide (i < j+1)) t0 j=viewT ops rs (fun i=>decide (i < j)) t0 j:=by
     rw [viewT_congr (rs':=rs) (fun i hi=>by rw [List.getElem?_append_left (by omega)])]
     exact viewT_congrD (fun i hi=>by simp; omega)
    have hdec:decide (j < j+1)=true:=by simp
    rw [ht',viewT_succ,hr,hd,hrest,hdec]
    cases o.dst <;> rfl
   rw [← hv,← liveE_snoc (hl2.trans hl.symm) hlt r e (fun i hi=>by rw [hl]; exact hei i hi)] at h'
   obtain ⟨rs',es',k1,k1',k2,k3⟩:=head_specE hE (l:=l) (ms:=ms) (j:=j+1) (rs:=rs++[r]) (es:=es++[e]) (by simp [hl]) (by simp [hl2]) (fun p i hp=>by
     rw [List.getElem?_append] at hp
     split at hp
     ·exact hlt p i hp
     ·rename_i hge
      have:p - es.length=0:=by
       rcases Nat.eq_zero_or_pos (p - es.length) with h | h
       ·exact h
       ·rw [List.getElem?_eq_none (by simp; omega)] at hp; cases hp
      rw [this] at hp
      have:=hei i (by simpa using hp)
      omega) (fun i p hp=>by have:=ho (i+1) p (by simpa using hp); rwa [show j+1+i=j+(i+1) by omega])
    (fun i hi=>by have:=hm (i+1) (by simp; omega); rw [show j+1+i=j+(i+1) by omega]; simpa using this)
    (fun i hi=>by
     by_cases e':i=j
     ·subst e'; exact hj
     ·exact (hok i (by omega)).more (by omega) (by omega) r e) h'
   have e2:j+1+l.length=j+(o::l).length:=by simp; omega
   rw [e2] at k1 k1' k2 k3
   exact ⟨rs',es',k1,k1',k2,k3⟩
  have hvj:∀ r:Res,viewT ops (rs++[r]) (fun i=>decide (i < j)) t0 j=viewT ops rs (fun i=>decide (i < j)) t0 j:=fun r=>viewT_congr (fun i hi=>by rw [List.getElem?_append_left (by omega)])
  have hrj:∀ r:Res,(rs++[r])[j]?=some r:=fun r=>by rw [← hl]; simp
  have hej:∀ e:Option Nat,(es++[e])[j]?=some e:=fun e=>by rw [← hl2]; simp
  -- what is seen of the blocks
  have seen:∀ {Sm:List (Option Blk)} (r:Res),(∀ jj b,Sm[jj]?=some (some b)→(liveE es rs)[jj]?=some (some b)∧(0+jj)∈mask)→∀ id b,(H++Sm)[id]?=some (some b) →
    (id < H.length∧H[id]?=some (some b))∨(∃ i,id=H.length+i∧i < j∧i∈masks.getD j []∧((rs++[r])[i]?).bind (·.nb)=some b):=by
   intro Sm r h3 id b hb
   rw [List.getElem?_append] at hb
   split at hb
   ·exact .inl ⟨by assumption,hb⟩
   ·rename_i hge
    obtain ⟨q1,q2⟩:=h3 _ b hb
    have hltl:id - H.length < rs.length:=by
     have:=(List.getElem?_eq_some_iff.1 q1).1
     rwa [liveE,viewE_length] at this
    refine .inr ⟨id - H.length,by omega,by omega,by rw [← hmask]; simpa using q2,?_⟩
    rw [List.getElem?_append_left hltl]
    exact liveE_get q1
  have dsts:∀ {v:Value} {kk:List Value→Prop},dstK (viewT ops rs (fun i=>decide (i < j)) t0 j) o.dst v kk→∃ t',(t'=match o.dst with | some d=>(viewT ops rs (fun i=>decide (i < j)) t0 j).set d v | none=>viewT ops rs (fun i=>decide (i < j)) t0 j)∧(∀ d,o.dst=some d→d < t0.length)∧kk t':=by
   intro v kk hk
   cases hd:o.dst with
   | none=>rw [hd] at hk; exact ⟨_,rfl,(fun d hd=>by cases hd),hk⟩
   | some d =>
    rw [hd] at hk
    obtain ⟨k1,k2⟩:=setT_spec hk
    rw [viewT_length] at k1
    exact ⟨_,rfl,(fun d' hd'=>by cases hd'; exact k1),k2⟩
  have run:(o.guard=none∨∃ g want d b,o.guard=some (g,want)∧dstOf ops g=some d∧(viewT ops rs (fun i=>decide (i < j)) t0 j)[d]?=some (.bool b)∧(b == want)=true) →
    (maskK (liveE es rs) 0 mask fun Sm=>apH H Sm fun G=>opQ E o.op (viewT ops rs (fun i=>decide (i < j)) t0 j) G (H.length+j) fun v nb=>dstK (viewT ops rs (fun i=>decide (i < j)) t0 j) o.dst v fun t'=>snocB (liveE es rs) nb fun S'=>headE E ops masks H H.length l ms (j+1) t' S' k) →
    ∃ (rs':List Res) (es':List (Option Nat)),rs'.length=j+(o::l).length∧es'.length=j+(o::l).length∧(∀ i,i < j+(o::l).length→HeadE P ops t0 H masks rs' es' i)∧k (viewT ops rs' (fun i=>decide (i < j+(o::l).length)) t0 (j+(o::l).length)) (liveE es' rs'):=by
   intro hg h
   obtain ⟨Sm,h1,h2,h3⟩:=maskK_spec h
   have h1:=apH_spec h1
   obtain ⟨v,nb,hk,hq⟩:=opQ_sound (P:=P) hE h1
   obtain ⟨t',e1,e2,e3⟩:=dsts hk
   refine next ⟨v,nb,true⟩ none t' e1 (fun i hi=>by cases hi) ⟨⟨o,⟨v,nb,true⟩,none,hoj,hrj _,hej _,e2,.inl ⟨H++Sm,seen _ h3,(fun i hi=>by cases hi),?_,?_⟩⟩⟩ (snocB_spec e3)
   ·rw [hvj]
    exact fun ν a w q n ha hH hn next Q hN=>hq o ν a w q n rfl ha hH hn next Q (fun v' w' ν' hp=>hN v' w' ν' (hp.e _))
   ·rw [hvj]; exact hg
  have skip:(∃ g want d v,o.guard=some (g,want)∧dstOf ops g=some d∧(viewT ops rs (fun i=>decide (i < j)) t0 j)[d]?=some v∧((∃ b,v=.bool b∧(b == want)=false)∨∃ vs,v=.tuple vs)) →
    (dstK (viewT ops rs (fun i=>decide (i < j)) t0 j) o.dst undef fun t'=>snocB (liveE es rs) none fun S'=>headE E ops masks H H.length l ms (j+1) t' S' k) →
    ∃ (rs':List Res) (es':List (Option Nat)),rs'.length=j+(o::l).length∧es'.length=j+(o::l).length∧(∀ i,i < j+(o::l).length→HeadE P ops t0 H masks rs' es' i)∧k (viewT ops rs' (fun i=>decide (i < j+(o::l).length)) t0 (j+(o::l).length)) (liveE es' rs'):=by
   intro hg hk
   obtain ⟨t',e1,e2,e3⟩:=dsts hk
   exact next ⟨undef,none,false⟩ none t' e1 (fun i hi=>by cases hi) ⟨⟨o,⟨undef,none,false⟩,none,hoj,hrj _,hej _,e2,.inr ⟨rfl,rfl,rfl,by rw [hvj]; exact hg⟩⟩⟩ (snocB_spec e3)
  unfold headE at h
  split at h
  ·rename_i hg
   split at h
   ·rename_i ty x y happ
    obtain ⟨Sm,h1,h2,h3⟩:=maskK_spec h
    have h1:=apH_spec h1
    obtain ⟨v,eat,nb,hk,hown,hq⟩:=eat_sound (P:=P) hE h1
    obtain ⟨c,hc1,hc2,hc3,hc4⟩:=isApp_spec happ
    -- what the step gives
    have step:∀ (ν:Nu) (a:Act) (w:World) (q:Option Nat) (n:Nat),(∀ x∈o.op.operands,OpRel ν (viewT ops rs (fun i=>decide (i < j)) t0 j) a x)→HRel ν (H++Sm) w→ν (H.length+j)=none →
      ∀ next Q,(∀ v' w' ν',EPost ν ν' (H.length+j) (eat.bind fun i=>ν (H.length+i)) w w' v v' nb→next (a.put o.dst v') w')→o.wpIn (WF q) n P a w next Q:=by
     intro ν a w q n ha hH hn next Q hN
     have hmem:∀ z,z∈[x,y]→z∈o.op.operands:=fun z hz=>by
      rw [hc1]
      simp only [List.mem_cons,List.mem_nil_iff,or_false] at hz
      rcases hz with rfl | rfl <;> simp [Op.operands,Call.operands,hc3]
     obtain ⟨v',w',ν',hrun,hp⟩:=hq ν a w o.type (ha x (hmem x (by simp))) (ha y (hmem y (by simp))) hH hn
     exact wpIn_of_run (by simp [hc1]) (by simp [execOp,hc1,resolve,hc2,hc3,hc4,invoke,builtin,hrun]) next Q (hN _ _ _ hp)
    cases eat with
    | none =>
     obtain ⟨t',e1,e2,e3⟩:=dsts hk
     exact next ⟨v,nb,true⟩ none t' e1 (fun i hi=>by cases hi) ⟨⟨o,⟨v,nb,true⟩,none,hoj,hrj _,hej _,e2,.inl ⟨H++Sm,seen _ h3,(fun i hi=>by cases hi),by rw [hvj]; exact step,.inl hg⟩⟩⟩ (snocB_spec e3)
    | some i =>
     obtain ⟨hok2,hk⟩:=hk
     obtain ⟨hij,him,hiq⟩:=eatOk_spec hok2
     obtain ⟨t',e1,e2,e3⟩:=dsts hk
     obtain ⟨_,e3⟩:=setB_spec e3
     exact next ⟨v,nb,true⟩ (some i) t' e1 (fun i' hi=>by cases hi; exact hij) ⟨⟨o,⟨v,nb,true⟩,some i,hoj,hrj _,hej _,e2,.inl ⟨H++Sm,seen _ h3,(fun i' hi=>by cases hi; exact ⟨hij,him,hiq,hown i rfl⟩),by rw [hvj]; exact step,.inl hg⟩⟩⟩ (snocB_spec e3)
   ·exact run (.inl hg) h
  ·rename_i g want hg
   split at h
   ·rename_i d hd
    obtain ⟨v,hv,h⟩:=getT_spec h
    split at h
    ·rename_i b
     cases hb:(b == want) with
     | true=>exact run (.inr ⟨g,want,d,b,hg,hd,hv,hb⟩) (br_true h hb)
     | false=>exact skip ⟨g,want,d,_,hg,hd,hv,.inl ⟨b,rfl,hb⟩⟩ (br_false h hb)
    ·exact skip ⟨g,want,d,_,hg,hd,hv,.inr ⟨_,rfl⟩⟩ h
    ·exact h.elim
   ·exact h.elim
section
variable {P:Program} {E:Env} {r:Option Nat} {n:Nat} {F:Fr} {ops:Array Oper} {Q:Exit→Act→World→Prop} {m:Nat} {masks:List (List Nat)} {k:SK}
theorem head_gameE (hc:Order ops.toList masks) (hsize:m≤ops.size)
  (hapart:∀ j o i p d,j < m→i < m→i≠j→ops.toList[j]?=some o→ops.toList[i]?=some p→p.dst=some d→o.dst≠some d∧(d ∉ readsOf ops.toList o∨i∈masks.getD j []∨j∈masks.getD i []))
  (hlate:∀ j,j < ops.size→m≤j→∀ i,i < m→i∈masks.getD j [])
  {t0:List Value} {H:Heap} {rs:List Res} {es:List (Option Nat)} (hel:es.length=m) (hh:∀ i,i < m→HeadE P ops.toList t0 H masks rs es i)
  (hend:∀ (fuel:Nat) (listed:Array Bool) (ν:Nu) (a:Act) (w:World),listed.size=ops.size→Closed ops.toList (DB listed)→(∀ i,DB listed i=true→i < m)→(∀ i,i < m→DB listed i=true) →
   SInv F ν (viewT ops.toList rs (DB listed) t0 m) (H++viewE es rs (DB listed) m) a w→undone (DB listed) ops.size≤fuel→wpAnyIn (WF r) n P .any ops Q fuel listed a w) :
  ∀ (fuel:Nat) (listed:Array Bool) (ν:Nu) (a:Act) (w:World),listed.size=ops.size→Closed ops.toList (DB listed)→(∀ i,DB listed i=true→i < m) →
  SInv F ν (viewT ops.toList rs (DB listed) t0 m) (H++viewE es rs (DB listed) m) a w→(∀ i,i < m→DB listed i=false→ν (H.length+i)=none)→undone (DB listed) ops.size≤fuel →
  wpAnyIn (WF r) n P .any ops Q fuel listed a w:=by
 have hdst:∀ i d,i < m→dstOf ops.toList i=some d→d < t0.length:=by
  intro i d hi hd
  obtain ⟨o,q,_,h1,h2,_,h3,_⟩:=(hh i hi).ok
  unfold dstOf at hd
  rw [h1] at hd
  exact h3 d hd
 have hap:Apart ops.toList m:=by
  intro i j d hi hj h1 h2
  rcases Nat.decEq i j with hne | he
  ·obtain ⟨o,q,_,k1,_⟩:=(hh i hi).ok
   obtain ⟨p,q',_,k2,_⟩:=(hh j hj).ok
   unfold dstOf at h1 h2
   rw [k1] at h1; rw [k2] at h2
   exact absurd h1 (hapart i o j p d hi hj (Ne.symm hne) k1 k2 h2).1
  ·exact he
 intro fuel
 induction fuel with
 | zero =>
  intro listed ν a w hs hcl hlt hi hfr hu
  have hall:∀ i,i < ops.size→DB listed i=true:=fun i hi'=>by
   cases hd:DB listed i with
   | true=>rfl
   | false=>have:=undone_pos hi' hd; omega
  exact hend 0 listed ν a w hs hcl hlt (fun i hi'=>hall i (by omega)) hi hu
 | succ fuel ih =>
  intro listed ν a w hs hcl hlt hi hfr hu
  by_cases hdone:∀ i,i < m→DB listed i=true
  ·exact hend (fuel+1) listed ν a w hs hcl hlt hdone hi hu
  ·-- something of the head has not gone: the least such one may go
   have hex:∃ i,i < m∧DB listed i=false:=by
    refine Classical.byContradiction fun hne=>hdone fun i hi'=>?_
    cases hd:DB listed i with
    | true=>rfl
    | false=>exact absurd ⟨i,hi',hd⟩ hne
   obtain ⟨i1,hi1,hd1⟩:=hex
   obtain ⟨i0,hi01,hd0,hb0⟩:=least_undone hd1
   have hi0:i0 < m:=by omega
   have hr:=least_ready hc hs (by omega:i0 < ops.size) hd0 hb0
   refine ⟨(fun hn=>by rw [hn] at hr; cases hr),fun j hj=>?_⟩
   rw [mem_ready] at hj
   obtain ⟨h1,o,ho,he⟩:=hj
   have hjs:j < ops.size:=(Array.getElem?_eq_some_iff.1 ho).1
   rw [DB_getD (by omega)] at h1
   have hol:ops.toList[j]?=some o:=by simpa using ho
   have hmk:=closed_mask hc hcl j o hol (fun e' he' hb'=>he e' he' hb')
   have hjm:j < m:=by
    rcases Nat.lt_or_ge j m with h | h
    ·exact h
    ·have:=hmk i1 (hlate j hjs h i1 hi1)
     rw [hd1] at this; cases this
   obtain ⟨o',q,eat,g1,g2,g2e,g3,g4⟩:=(hh j hjm).ok
   rw [hol] at g1; cases g1
   have hdj:dstOf ops.toList j=o.dst:=by simp [dstOf,hol]
   -- what it reads stands as the text's order has it
   have hread:∀ d,d∈readsOf ops.toList o→(viewT ops.toList rs (DB listed) t0 m)[d]?=(viewT ops.toList rs (fun i=>decide (i < j)) t0 j)[d]?:=by
    intro d hd
    rw [← viewT_cut (j:=j) (m:=m) (by omega) (fun i h1 h2=>by simp; omega)]
    refine viewT_same hap hdst (fun i hi' hdi=>?_)
    by_cases e:i=j
    ·subst e; rw [h1]; simp
    ·obtain ⟨p,q',_,k1,_⟩:=(hh i hi').ok
     have hpd:p.dst=some d:=by unfold dstOf at hdi; rw [k1] at hdi; exact hdi
     rcases (hapart j o i p d hjm hi' e hol k1 hpd).2 with h | h | h
     ·exact absurd hd h
     ·rw [hmk i h]
      have:=(hc.mask j o hol i h).1
      simp [this]
     ·have hji:=(hc.mask i p k1 j h).1
      have:DB listed i=false:=by
       cases hd':DB listed i with
       | false=>rfl
       | true =>
        have:=closed_mask hc hcl i p k1 (hcl i p hd' k1) j h
        rw [h1] at this; cases this
      rw [this]; simp; omega
   have hset:∀ i,DB (listed.setIfInBounds j true) i=(DB listed i || i == j):=fun i=>DB_set (by omega) i
   have hcl':Closed ops.toList (DB (listed.setIfInBounds j true)):=by
    intro i p hi' hp e' he' hb'
    rw [hset] at hi' ⊢
    by_cases e:i=j
    ·subst e
     rw [hol] at hp; cases hp
     have:DB listed e'.on=true:=he e' he' hb'
     rw [this]; rfl
    ·have e2:(i == j)=false:=by simp [e]
     rw [e2,Bool.or_false] at hi'
     rw [hcl i p hi' hp e' he' hb']; rfl
   have hlt':∀ i,DB (listed.setIfInBounds j true) i=true→i < m:=fun i hi'=>by
    rw [hset] at hi'
    by_cases e:i=j
    ·subst e; exact hjm
    ·have e2:(i == j)=false:=by simp [e]
     rw [e2,Bool.or_false] at hi'
     exact hlt i hi'
   have hu':undone (DB (listed.setIfInBounds j true)) ops.size≤fuel:=by
    have:=undone_set hset h1 ops.size
    rw [if_pos hjs] at this; omega
   have hstep:=viewT_step (D:=DB listed) (D':=DB (listed.setIfInBounds j true)) hap hdst hjm h1 hset g2
   rw [hdj] at hstep
   have hat:∀ p i,es[p]?=some (some i)→p < m∧i < p∧i∈masks.getD p []∧∀ q,q≠p→i∈masks.getD q []→q∈masks.getD p []:=by
    intro p i hp
    have hpm:p < m:=by have:=(List.getElem?_eq_some_iff.1 hp).1; omega
    obtain ⟨_,_,e',_,_,k3,_,k4⟩:=(hh p hpm).ok
    rw [hp] at k3; cases k3
    rcases k4 with ⟨_,_,k5,_⟩ | ⟨k5,_⟩
    ·obtain ⟨y1,y2,y3,_⟩:=k5 i rfl
     exact ⟨hpm,y1,y2,y3⟩
    ·cases k5
   -- what this one sees has not been eaten
   have fresh:∀ i,i∈masks.getD j []→eaten es (DB listed) i=false:=by
    intro i hi'
    cases he':eaten es (DB listed) i with
    | false=>rfl
    | true =>
     obtain ⟨p,hp1,hp2⟩:=eaten_iff.1 he'
     obtain ⟨hpm,_,_,y3⟩:=hat p i hp2
     have hpj:j≠p:=fun e=>by rw [← e,h1] at hp1; cases hp1
     have hjp:=y3 j hpj hi'
     obtain ⟨op,_,_,k1,_⟩:=(hh p hpm).ok
     have:=closed_mask hc hcl p op k1 (hcl p op hp1 k1) j hjp
     rw [h1] at this; cases this
   have hvs:∀ (id:Nat) (c:Blk),(H++viewE es rs (DB (listed.setIfInBounds j true)) m)[id]?=some (some c) →
     ((H++viewE es rs (DB listed) m)[id]?=some (some c)∧∀ i,eat=some i→id≠H.length+i)∨(id=H.length+j∧q.nb=some c):=by
    intro id c
    by_cases hid:id < H.length
    ·rw [List.getElem?_append_left hid,List.getElem?_append_left hid]
     exact fun h=>.inl ⟨h,fun i _=>by omega⟩
    ·rw [List.getElem?_append_right (by omega),List.getElem?_append_right (by omega),viewE_get,viewE_get]
     rintro ⟨k1,k2,k3,k4⟩
     rw [hset] at k2
     by_cases e:id - H.length=j
     ·refine .inr ⟨by omega,?_⟩
      rw [e,g2] at k4; exact k4
     ·have e2:(id - H.length == j)=false:=by simp [e]
      rw [e2,Bool.or_false] at k2
      refine .inl ⟨⟨k1,k2,?_,k4⟩,fun i hi' hid'=>?_⟩
      ·cases he':eaten es (DB listed) (id - H.length) with
       | false=>rfl
       | true =>
        obtain ⟨p,hp1,hp2⟩:=eaten_iff.1 he'
        rw [eaten_iff.2 ⟨p,by rw [hset,hp1]; rfl,hp2⟩] at k3; cases k3
      ·have hx:id - H.length=i:=by omega
       rw [hx,eaten_iff.2 ⟨j,by rw [hset]; simp,by rw [g2e,hi']⟩] at k3; cases k3
   have hnone:ν (H.length+j)=none:=hfr j hjm h1
   have hlenS:(H++viewE es rs (DB listed) m).length=H.length+m:=by rw [List.length_append,viewE_length]
   have hlenS':(H++viewE es rs (DB (listed.setIfInBounds j true)) m).length=H.length+m:=by rw [List.length_append,viewE_length]
   have hG:∀ {G:Heap},(∀ (id:Nat) (b:Blk),G[id]?=some (some b)→(id < H.length∧H[id]?=some (some b))∨(∃ i,id=H.length+i∧i < j∧i∈masks.getD j []∧(rs[i]?).bind (·.nb)=some b)) →
     ∀ (id:Nat) (b:Blk),G[id]?=some (some b)→(H++viewE es rs (DB listed) m)[id]?=some (some b):=by
    intro G q1 id b hb
    rcases q1 id b hb with ⟨h3,h4⟩ | ⟨i,h3,h4,h5,h6⟩
    ·rw [List.getElem?_append_left h3]; exact h4
    ·subst h3
     rw [List.getElem?_append_right (by omega)]
     rw [show H.length+i - H.length=i by omega,viewE_get]
     exact ⟨by omega,hmk i h5,fresh i h5,h6⟩
   have heat:∀ i,eat=some i→∃ bi,(H++viewE es rs (DB listed) m)[H.length+i]?=some (some bi)∧bi.own=true:=by
    intro i hi'
    rcases g4 with ⟨G,q1,q2,_⟩ | ⟨q1,_⟩
    ·obtain ⟨_,_,_,bi,y1,y2⟩:=q2 i hi'
     exact ⟨bi,hG q1 _ _ y1,y2⟩
    ·rw [hi'] at q1; cases q1
   -- the state behind it
   have after:∀ v' w' ν',EPost ν ν' (H.length+j) (eat.bind fun i=>ν (H.length+i)) w w' q.v v' q.nb→wpAnyIn (WF r) n P .any ops Q fuel (listed.setIfInBounds j true) (a.put o.dst v') w':=by
    intro v' w' ν' hp
    have hold:∀ lo,(eat.bind fun i=>ν (H.length+i))=some lo→∃ i bi,eat=some i∧ν (H.length+i)=some lo∧(H++viewE es rs (DB listed) m)[H.length+i]?=some (some bi)∧bi.own=true:=by
     intro lo hlo
     cases he':eat with
     | none=>rw [he'] at hlo; cases hlo
     | some i =>
      rw [he'] at hlo
      obtain ⟨bi,y1,y2⟩:=heat i he'
      exact ⟨i,bi,rfl,hlo,y1,y2⟩
    have hnew:∀ (id:Nat) (c:Blk),(H++viewE es rs (DB listed) m)[id]?=some (some c)→id≠H.length+j:=fun id c h e=>by
     obtain ⟨l',hl',_⟩:=hi.hp.blk id c h
     rw [e,hnone] at hl'; cases hl'
    have hsize:w.heap.size≤w'.heap.size:=by
     rcases hp.chg with hb | ⟨_,_,_,_,h,_⟩
     ·exact hb.size
     ·exact h
    have hkp:Kept F.O F.W w':=by
     rcases hp.chg with hb | ⟨lo,hlo,_,h2,h3,h4,h5,h6⟩
     ·exact hi.kp.below hb
     ·obtain ⟨i,bi,y1,y2,y3,y4⟩:=hold lo hlo
      refine ⟨h4.trans hi.kp.os,h5.trans hi.kp.tape,h6.trans hi.kp.output,Nat.le_trans hi.kp.size h3,fun x hx hO=>(h2 x fun e=>?_).trans (hi.kp.blk x hx hO)⟩
      subst e
      rcases hi.own _ bi lo y3 y4 y2 with h | h
      ·exact hO h
      ·omega
    have hblk:∀ (id:Nat) (c:Blk) (l:Loc),(H++viewE es rs (DB listed) m)[id]?=some (some c)→(∀ i,eat=some i→id≠H.length+i)→ν id=some l→BRel ν l c w→BRel ν l c w':=by
     intro id c l h hne hl hB
     rcases hp.chg with hb | ⟨lo,hlo,_,h2,h3,_⟩
     ·exact hB.below hb
     ·obtain ⟨i,bi,y1,y2,y3,y4⟩:=hold lo hlo
      exact hB.same (h2 _ (Ne.symm (hi.hp.sep _ id bi c lo l y3 h (Ne.symm (hne i y1)) y4 y2 hl))) h3
    have hapart2:∀ (id:Nat) (c:Blk) (l l2:Loc),(H++viewE es rs (DB listed) m)[id]?=some (some c)→(∀ i,eat=some i→id≠H.length+i)→ν id=some l→(w.heap.size≤l2.blk∨∃ lo,(eat.bind fun i=>ν (H.length+i))=some lo∧l2.blk=lo.blk)→l2.blk≠l.blk:=by
     intro id c l l2 h hne hl h2
     rcases h2 with h2 | ⟨lo,hlo,h2⟩
     ·obtain ⟨l',hl',hB⟩:=hi.hp.blk id c h
      rw [hl] at hl'; cases hl'
      have:=hB.live
      omega
     ·obtain ⟨i,bi,y1,y2,y3,y4⟩:=hold lo hlo
      rw [h2]
      exact hi.hp.sep _ id bi c lo l y3 h (Ne.symm (hne i y1)) y4 y2 hl
    refine ih _ ν' _ w' (by simp [hs]) hcl' hlt' ⟨?_,?_,⟨fun id c hc'=>?_,fun x y bx bY lx ly hx hy hne ho' e1 e2=>?_⟩,fun id hid=>?_,hkp,fun id c lc hc' hoc hlc=>?_,Nu.le_trans hi.mono hp.le⟩ (fun i hi' hd'=>?_) hu'
    ·rw [hstep]
     cases hd:o.dst with
     | none=>exact hi.tm.mono hp.le
     | some d=>rw [put_tmps]; exact (hi.tm.mono hp.le).set hp.val d
    ·rcases hp.chg with hb | ⟨lo,hlo,⟨cur,t,hcur⟩,h2,h3,_⟩
     ·cases o.dst <;> exact hi.df.below hb
     ·cases o.dst <;> exact hi.df.turn hcur h2
    ·rcases hvs id c hc' with ⟨h,hne⟩ | ⟨h3,h4⟩
     ·obtain ⟨l,hl,hB⟩:=hi.hp.blk id c h
      exact ⟨l,hp.le _ _ hl,(hblk id c l h hne hl hB).mono hp.le⟩
     ·obtain ⟨l,hl,hB,_⟩:=hp.isS c h4
      exact ⟨l,by rw [h3]; exact hl,hB⟩
    ·rcases hvs x bx hx with ⟨h,hnx⟩ | ⟨h3,h4⟩
     ·rw [hp.only x (hnew x bx h)] at e1
      rcases hvs y bY hy with ⟨g,hny⟩ | ⟨g3,g4⟩
      ·rw [hp.only y (hnew y bY g)] at e2
       exact hi.hp.sep x y bx bY lx ly h g hne ho' e1 e2
      ·obtain ⟨l,hl,_,hle⟩:=hp.isS bY g4
       rw [g3,hl] at e2; cases e2
       exact Ne.symm (hapart2 x bx lx _ h hnx e1 hle)
     ·obtain ⟨l,hl,_,hle⟩:=hp.isS bx h4
      rw [h3,hl] at e1; cases e1
      rcases hvs y bY hy with ⟨g,hny⟩ | ⟨g3,g4⟩
      ·rw [hp.only y (hnew y bY g)] at e2
       exact hapart2 y bY ly _ g hny e2 hle
      ·exact absurd (h3.trans g3.symm) hne
    ·rw [hlenS'] at hid
     rw [hp.only id (by omega)]
     exact hi.fr id (by rw [hlenS]; exact hid)
    ·rcases hvs id c hc' with ⟨h,_⟩ | ⟨h3,h4⟩
     ·rw [hp.only id (hnew id c h)] at hlc
      exact hi.own id c lc h hoc hlc
     ·obtain ⟨l,hl,_,hle⟩:=hp.isS c h4
      rw [h3,hl] at hlc; cases hlc
      rcases hle with hle | ⟨lo,hlo,hle⟩
      ·exact .inr (Nat.le_trans hi.kp.size hle)
      ·obtain ⟨i,bi,y1,y2,y3,y4⟩:=hold lo hlo
       rw [hle]
       exact hi.own _ bi lo y3 y4 y2
    ·have hne:i≠j:=fun e=>by subst e; rw [hset] at hd'; simp at hd'
     rw [hp.only _ (by omega)]
     refine hfr i hi' ?_
     rw [hset] at hd'
     simp only [Bool.or_eq_false_iff] at hd'
     exact hd'.1
   unfold wpOpIn
   rw [ho]
   dsimp only
   have hrd:∀ d,d∈readsOf ops.toList o→∀ v,(viewT ops.toList rs (fun i=>decide (i < j)) t0 j)[d]?=some v→∃ v',a.tmps[d]?=some v'∧VRel ν v v':=by
    intro d hd v hv
    rw [← hread d hd] at hv
    obtain ⟨v',k1,k2⟩:=hi.tm.get hv
    exact ⟨v',by simpa using k1,k2⟩
   rcases g4 with ⟨G,q1,_,q2,q3⟩ | ⟨q0,q1,q2,g,want,d,v,q3,q4,q5,q6⟩
   ·have hw:Region.wanted o (yielded ops a.tmps)=true:=by
     rcases q3 with hg | ⟨g,want,d,b,hg,hd,hv,hb⟩
     ·simp [Region.wanted,hg]
     ·obtain ⟨v',k1,k2⟩:=hrd d (readsOf_guard hg hd) _ hv
      rw [k2.to_bool] at k1
      have hy:=yielded_of (ops:=ops) (tmps:=a.tmps) (j:=g) (d:=d) (by simpa [dstOf] using hd)
      rw [k1] at hy
      simp only [Region.wanted,hg,hy]
      rw [← hb]
      cases b <;> cases want <;> rfl
    rw [if_pos hw]
    refine q2 ν a w r n (fun x hx t ht v hv=>hrd t ?_ v hv) (hi.hp.fewer fun id b hb=>?_) hnone _ Q after
    ·unfold readsOf
     exact List.mem_append_left _ (opTmps_mem (by rw [ht] at hx; simpa using hx))
    ·exact hG q1 id b hb
   ·have hw:Region.wanted o (yielded ops a.tmps)=false:=by
     obtain ⟨v',k1,k2⟩:=hrd d (readsOf_guard q3 q4) _ q5
     have hy:=yielded_of (ops:=ops) (tmps:=a.tmps) (j:=g) (d:=d) (by simpa [dstOf] using q4)
     rw [k1] at hy
     rcases q6 with ⟨b,rfl,hb⟩ | ⟨vs,rfl⟩
     ·rw [k2.to_bool] at hy
      simp only [Region.wanted,q3,hy]
      rw [← hb]
      cases b <;> cases want <;> rfl
     ·obtain ⟨ys,rfl,_⟩:=VRel.to_tuple (xs:=vs.toList) k2
      simp only [Region.wanted,q3,hy]
      rfl
    rw [if_neg (by rw [hw]; simp)]
    refine ⟨fun _ _=>trivial,after undef w ν ⟨ν.le_refl,fun _ _=>rfl,by rw [q1]; exact .undef ν,.inl (Below.refl _ _),fun _=>rfl,(fun b hb=>by rw [q2] at hb; cases hb)⟩⟩
/-- **Whatever order is drawn.** -/
theorem drawE_ok (hm:P.follows .mixedOrders=true):DOk P drawE:=by
 intro E hE r n F hn0 ops Q id ν tmps H a w k hi h hk
 obtain ⟨m,masks,hok,h⟩:=h
 have h:=lenK_spec h
 obtain ⟨hmle,h⟩:=takeO_spec h
 have hc:=drawOk_spec hok
 obtain ⟨rs,es,hrs,hes,hhead,hfin⟩:=head_specE (P:=P) hE.toEnvOk (ops:=ops.toList) (t0:=tmps) (H:=H) (masks:=masks) (l:=ops.toList.take m) (ms:=masks) (j:=0) (rs:=[]) (es:=[]) rfl rfl (fun p i hp=>by simp at hp)
  (fun i o ho=>by
   rw [List.getElem?_take] at ho
   split at ho
   ·simpa using ho
   ·cases ho)
  (fun i _=>by simp) (fun i hi=>by omega) h
 have hfin:=apH_spec hfin
 have hlen:0+(ops.toList.take m).length=m:=by rw [List.length_take]; omega
 rw [hlen] at hrs hes hhead hfin
 refine wpIn_region_any hm ?_
 have hD:DB (Array.replicate ops.size false)=fun _=>false:=by
  funext i
  unfold DB
  by_cases h:i < ops.size <;> simp [h]
 refine head_gameE (F:=F) hc.toOrder (by have:=hc.le; simpa using this) hc.apart (fun j hj hm i hi=>hc.tail j (by simpa using hj) hm i (by omega)) hes hhead ?_ ops.size _ ν a _ (by simp) (fun j o hj=>by rw [hD] at hj; cases hj) (fun i hi'=>by rw [hD] at hi'; cases hi') ?_ (fun i _ _=>hi.fr _ (by omega)) ?_
 ·intro fuel listed ν a w hs hcl hlt hall hi hu
  have hle:m≤ops.size:=by have:=hc.le; simpa using this
  have hD:∀ i,DB listed i=decide (i < m):=fun i=>by
   by_cases h:i < m
   ·rw [hall i h]; simp [h]
   ·cases hd:DB listed i with
    | true=>exact absurd (hlt i hd) h
    | false=>simp [h]
  have e1:viewT ops.toList rs (DB listed) tmps m=viewT ops.toList rs (fun i=>decide (i < m)) tmps m:=viewT_congrD (fun i _=>hD i)
  have e2:viewE es rs (DB listed) m=liveE es rs:=by
   unfold liveE
   rw [hrs]
   rw [show DB listed=fun i=>decide (i < m) from funext hD]
  rw [e1,e2] at hi
  exact tail_game hE hn0 hc.toOrder hc.tail hk fuel listed m ν _ _ a w hs hD (Nat.le_refl _) hle hi hfin (by
   have:=undone_first hD ops.size hle; omega)
 ·rw [hD]
  have e1:viewT ops.toList rs (fun _=>false) tmps m=tmps:=viewT_cut (j:=0) (by omega) (fun _ _ _=>rfl)
  rw [e1]
  have hdrew:Below w.heap.size w { w with drawn:=w.drawn+1 }:=⟨rfl,rfl,rfl,Nat.le_refl _,fun _ _=>rfl⟩
  refine ⟨hi.tm,hi.df.below hdrew,(hi.hp.below hdrew).fewer (fun id c hc'=>?_),fun id hid=>hi.fr id (by rw [List.length_append] at hid; omega),hi.kp.below hdrew,fun id c lc hc' hoc hlc=>?_,hi.mono⟩
  ·rw [List.getElem?_append] at hc'
   split at hc'
   ·exact hc'
   ·have:=(viewE_get.1 hc').2.1; cases this
  ·rw [List.getElem?_append] at hc'
   split at hc'
   ·exact hi.own id c lc hc' hoc hlc
   ·have:=(viewE_get.1 hc').2.1; cases this
 ·unfold undone
  have:=List.length_filter_le (fun i=>!DB (Array.replicate ops.size false) i) (List.range ops.size)
  simpa using this
end
end Go.Ae
/- A region that draws, order by order. -/
namespace Go.Ae
open Go Go.RowKit
/-- The orders, as a tree: an operation, what comes behind it, and the other choices beside it. -/
inductive OTree where
 | leaf
 | br (i:Nat) (sub rest:OTree)
def OTree.alts:OTree→List Nat
 | .leaf=>[]
 | .br i _ rest=>i::rest.alts
def treeOk (ops:Array Oper):OTree→Nat→Bool→Array Bool→Bool
 | .leaf,_,true,l=>(Region.ready .any ops l).isEmpty
 | .leaf,_,false,_=>true
 | .br _ _ _,0,_,_=>false
 | .br i sub rest,n+1,first,l=>(!first || (Region.ready .any ops l == (OTree.br i sub rest).alts)) && treeOk ops sub n true (l.setIfInBounds i true) && treeOk ops rest (n+1) false l
def getO:List Oper→Nat→(Oper→Prop)→Prop
 | [],_,_=>False
 | o::_,0,k=>k o
 | _::l,i+1,k=>getO l i k
theorem getO_spec:∀ {l:List Oper} {i:Nat} {k:Oper→Prop},getO l i k→∃ o,l[i]?=some o∧k o
 | [],i,k,h=>h.elim
 | o::_,0,k,h=>⟨o,rfl,h⟩
 | _::l,i+1,k,h=>by
  obtain ⟨o,h1,h2⟩:=getO_spec (l:=l) h
  exact ⟨o,by simpa using h1,h2⟩
def treeK (E:Env) (ops:List Oper):OTree→Bool→List Value→Heap→SK→Prop
 | .leaf,true,t,H,k=>k t H
 | .leaf,false,_,_,_=>True
 | .br i sub rest,_,t,H,k=>(getO ops i fun o=>stepK E ops o t H fun t' H'=>treeK E ops sub true t' H' k)∧treeK E ops rest false t H k
def drawT (E:Env) (ops:List Oper) (t:List Value) (H:Heap) (k:SK):Prop :=
 drawK E ops t H k∨(∃ T:OTree,treeOk ops.toArray T ops.length true (Array.replicate ops.length false)=true∧treeK E ops T true t H k)∨drawF E ops t H k∨drawE E ops t H k
section
variable {P:Program} {E:Env} {r:Option Nat} {n:Nat} {F:Fr}
theorem tree_sound (hE:EnvX P E) (hn0:FrE F E) {ops:Array Oper} {Q:Exit→Act→World→Prop} {k:SK} (hk:∀ ν t' H' a' w',SInv F ν t' H' a' w'→k t' H'→Q .normal a' w') :
  ∀ (T:OTree) (fuel:Nat) (first:Bool) (listed:Array Bool) (ν:Nu) (t:List Value) (H:Heap) (a:Act) (w:World),treeOk ops T fuel first listed=true→SInv F ν t H a w→treeK E ops.toList T first t H k →
  (first=true→wpAnyIn (WF r) n P .any ops Q fuel listed a w)∧(first=false→∀ m,fuel=m+1→∀ i∈T.alts,wpOpIn (WF r) n P ops Q i (wpAnyIn (WF r) n P .any ops Q m (listed.setIfInBounds i true)) a w):=by
 intro T
 induction T with
 | leaf =>
  intro fuel first listed ν t H a w hok hi h
  cases first with
  | true =>
   refine ⟨fun _=>?_,fun h=>by cases h⟩
   have hr:Region.ready .any ops listed=[]:=by
    have:(Region.ready .any ops listed).isEmpty=true:=by simpa [treeOk] using hok
    simpa using this
   have hq:Q .normal a w:=hk _ _ _ _ _ hi h
   cases fuel with
   | zero=>exact ⟨hr,hq⟩
   | succ f=>exact ⟨fun _=>hq,fun i hi'=>by rw [hr] at hi'; cases hi'⟩
  | false=>exact ⟨(fun h=>by cases h),fun _ m _ i hi'=>by cases hi'⟩
 | br j sub rest ihs ihr =>
  intro fuel first listed ν t H a w hok hi h
  cases fuel with
  | zero=>simp [treeOk] at hok
  | succ f =>
   simp only [treeOk,Bool.and_eq_true,Bool.or_eq_true] at hok
   obtain ⟨⟨h1,h2⟩,h3⟩:=hok
   obtain ⟨hs,hrest⟩:=h
   have hall:∀ i∈(OTree.br j sub rest).alts,wpOpIn (WF r) n P ops Q i (wpAnyIn (WF r) n P .any ops Q f (listed.setIfInBounds i true)) a w:=by
    intro i hi'
    simp only [OTree.alts,List.mem_cons] at hi'
    rcases hi' with rfl | hi'
    ·obtain ⟨o,ho,hs⟩:=getO_spec hs
     unfold wpOpIn
     have ho':ops[i]?=some o:=by simpa using ho
     rw [ho']
     exact step_sound hE hn0 hi hs (fun ν t' H' a' w' hi2 h'=>(ihs f true _ ν t' H' a' w' h2 hi2 h').1 rfl)
    ·exact (ihr (f+1) false listed ν t H a w h3 hi hrest).2 rfl f rfl i hi'
   refine ⟨fun hf=>?_,fun _ m hm=>?_⟩
   ·subst hf
    have hr:Region.ready .any ops listed=(OTree.br j sub rest).alts:=by
     rcases h1 with h1 | h1
     ·cases h1
     ·exact eq_of_beq h1
    refine ⟨(fun hn=>by rw [hr] at hn; cases hn),fun i hi'=>hall i (by rw [← hr]; exact hi')⟩
   ·have:f=m:=by omega
    subst this
    exact hall
/-- **Whatever order is drawn.** -/
theorem drawT_ok (hm:P.follows .mixedOrders=true):DOk P drawT:=by
 intro E hE r n F hn0 ops Q id ν tmps H a w k hi h hk
 rcases h with h | ⟨T,hok,h⟩ | h | h
 ·exact drawK_ok hm E hE r n F hn0 ops Q id ν tmps H a w k hi h hk
 ·refine wpIn_region_any hm ?_
  have hdrew:Below w.heap.size w { w with drawn:=w.drawn+1 }:=⟨rfl,rfl,rfl,Nat.le_refl _,fun _ _=>rfl⟩
  have hi2:SInv F ν tmps H a { w with drawn:=w.drawn+1 }:=⟨hi.tm,hi.df.below hdrew,hi.hp.below hdrew,hi.fr,hi.kp.below hdrew,hi.own,hi.mono⟩
  have:=(tree_sound (r:=r) (n:=n) hE hn0 (ops:=ops) hk T ops.toList.length true _ ν tmps H a _ (by simpa using hok) hi2 h).1 rfl
  simpa using this
 ·exact drawF_ok hm E hE r n F hn0 ops Q id ν tmps H a w k hi h hk
 ·exact drawE_ok hm E hE r n F hn0 ops Q id ν tmps H a w k hi h hk
end
end Go.Ae
/- Contracts with blocks out of the evaluation of a function's body. -/
namespace Go.Ae
open Go Go.RowKit
/-- The same value, of whose capacities less is known. -/
inductive VLe:Value→Value→Prop
 | refl (v:Value):VLe v v
 | cap (a:Addr) (n c:Nat) (h:a.spot=none):VLe (.slice (some a) n c) (.slice (some a) n capU)
 | two {x y x' y':Value} (h:VLe x x') (hs:VLe y y'):VLe (.tuple ⟨[x,y]⟩) (.tuple ⟨[x',y']⟩)
 | three {x y z x' y' z':Value} (h:VLe x x') (hs:VLe y y') (hz:VLe z z'):VLe (.tuple ⟨[x,y,z]⟩) (.tuple ⟨[x',y',z']⟩)
theorem VRel.tup {ν:Nu} {xs ys:List Value} (h:LRel ν xs ys):VRel ν (.tuple ⟨xs⟩) (.tuple ⟨ys⟩):=.tuple _ _ h.1 h.2
theorem VRel.weak {ν:Nu} {v v':Value} (h:VLe v v'):∀ {r},VRel ν v r→VRel ν v' r:=by
 induction h with
 | refl v=>exact fun h=>h
 | cap a n c hs =>
  intro r hr
  obtain ⟨b,o,sp⟩:=a
  have hs:sp=none:=hs
  subst hs
  cases hr with
  | slice _ _ _ _ c' l h hc hn hr=>exact .slice _ _ _ _ c' l h (.inr rfl) hn hr
  | void _ _ _ a hc=>exact .void _ _ _ a (.inr rfl)
 | two h hs i1 i2 =>
  intro r hr
  obtain ⟨ys,rfl,hy⟩:=hr.to_tuple
  obtain ⟨a,ys,rfl,k1,hy⟩:=hy.uncons
  obtain ⟨b,ys,rfl,k2,hy⟩:=hy.uncons
  rw [hy.nil_inv]
  exact .tup (.cons (i1 k1) (.cons (i2 k2) (.nil ν)))
 | three h hs hz i1 i2 i3 =>
  intro r hr
  obtain ⟨ys,rfl,hy⟩:=hr.to_tuple
  obtain ⟨a,ys,rfl,k1,hy⟩:=hy.uncons
  obtain ⟨b,ys,rfl,k2,hy⟩:=hy.uncons
  obtain ⟨c,ys,rfl,k3,hy⟩:=hy.uncons
  rw [hy.nil_inv]
  exact .tup (.cons (i1 k1) (.cons (i2 k2) (.cons (i3 k3) (.nil ν))))
def qRes (S:QSpec) (i:S.ι) (v:Value) (H:Heap):Prop :=
 match S.new i with
 | none=>∃ v',renV (List.range (S.blks i).length) 3 (S.val i)=some v'∧VLe v v'
 | some b=>∃ p,blkK H p fun c=>(c.own=true∧BlkLe b c)∧∃ v',renV (List.range (S.blks i).length++[p]) 3 (S.val i)=some v'∧VLe v v'
section
variable {P:Program} {E:Env} {D:Env→List Oper→List Value→Heap→SK→Prop}
theorem map_some_get {l:List Blk} {id:Nat} {b:Blk} (h:(l.map some)[id]?=some (some b)):l[id]?=some b:=by
 rw [List.getElem?_map] at h
 cases e:l[id]? with
 | none=>rw [e] at h; cases h
 | some b'=>rw [e] at h; simp at h; rw [h]
theorem range_get {m p j:Nat} (h:j < m):(List.range m++[p])[j]?=some j:=by
 rw [List.getElem?_append_left (by simpa using h),List.getElem?_range h]
/-- A contract with blocks that are read. -/
theorem qsnd_of {S:QSpec} (hE:EnvOk P E) (hD:DOk P D) {f:FuncId} {fn:Func} (hf:P.funcs[f]?=some fn) (hen:∀ args w,(callFunc f args).run P w=.ok (.enter f args) w)
  (hro:∀ i b,b∈S.blks i→b.own=false) (hfl:∀ i b,S.new i=some b→b.isFlat=true)
  (h:∀ i,S.pre i→fnK E D fn (S.args i) ((S.blks i).map some) (qRes S i))
  (hI:ItsOk P E:=by exact ItsOk.none rfl) (hy:E.ys=[]:=by rfl) (hu:E.nu=(fun _=>none):=by rfl):QSnd P f S:=by
 refine ⟨hen,hro,hfl,fun i hp ν as w n has hH hfr=>?_⟩
 refine fn_sound (O:=fun _=>False) (ν:=ν) (hE.x hI hy) hD hf (h i hp) has hH (fun id hid=>hfr id (by simpa using hid)) (fun id b l hb ho=>?_) (nu_none hu) ?_
 ·rw [hro i b (List.mem_of_getElem? (map_some_get hb))] at ho; cases ho
 intro ν' v v' t H' a w' hi hk hv
 have hb:Below w.heap.size w w':=⟨hi.kp.os,hi.kp.tape,hi.kp.output,hi.kp.size,fun k hk=>hi.kp.blk k hk (fun h=>h)⟩
 unfold qRes at hk
 split at hk
 ·rename_i hnew
  obtain ⟨v2,hren,hvl⟩:=hk
  have h1:=renV_fwd 3 _ _ _ hren (VRel.weak hvl hv)
  refine ⟨v',ν,rfl,⟨ν.le_refl,fun _ _=>rfl,h1.mono (fun j lj hj=>?_),hb,fun _=>rfl,(fun b hb=>by rw [hnew] at hb; cases hb)⟩⟩
  unfold Nu.comp at hj
  by_cases hlt:j < (S.blks i).length
  ·rw [List.getElem?_range hlt] at hj
   have hj:ν' j=some lj:=hj
   obtain ⟨l0,e1,_⟩:=hH.blk j ((S.blks i)[j]) (by simp [hlt])
   have:=hi.mono j l0 e1
   rw [hj] at this; cases this
   exact e1
  ·have:(List.range (S.blks i).length)[j]?=none:=List.getElem?_eq_none (by simp; omega)
   rw [this] at hj; cases hj
 ·rename_i b hnew
  obtain ⟨p,hk⟩:=hk
  obtain ⟨c,hc,⟨ho,hle⟩,v2,hren,hvl⟩:=blkK_spec hk
  obtain ⟨l,hl,hB⟩:=hi.hp.blk p c hc
  have hnm:ν (S.blks i).length=none:=hfr _ (Nat.le_refl _)
  refine ⟨v',ν.add (S.blks i).length l,rfl,⟨Nu.le_add hnm,fun id hid=>Nu.add_ne hid,?_,hb,(fun h=>by rw [hnew] at h; cases h),(fun b' hb'=>?_)⟩⟩
  ·have h1:=renV_fwd 3 _ _ _ hren (VRel.weak hvl hv)
   refine h1.mono (fun j lj hj=>?_)
   unfold Nu.comp at hj
   rcases Nat.lt_trichotomy j (S.blks i).length with hlt | he | hgt
   ·rw [range_get hlt] at hj
    have hj:ν' j=some lj:=hj
    obtain ⟨l0,e1,_⟩:=hH.blk j ((S.blks i)[j]) (by simp [hlt])
    have:=hi.mono j l0 e1
    rw [hj] at this; cases this
    rw [Nu.add_ne (by omega)]; exact e1
   ·subst he
    have:(List.range (S.blks i).length++[p])[(S.blks i).length]?=some p:=by simp
    rw [this] at hj
    have hj:ν' p=some lj:=hj
    rw [hl] at hj; cases hj
    exact Nu.add_same
   ·have:(List.range (S.blks i).length++[p])[j]?=none:=List.getElem?_eq_none (by simp; omega)
    rw [this] at hj; cases hj
  ·rw [hnew] at hb'; cases hb'
   refine ⟨l,Nu.add_same,hB.le ⟨hle,by have:=hfl i b hnew; cases b <;> first | rfl | cases this⟩,?_⟩
   rcases hi.own p c l hc ho hl with h | h
   ·exact h.elim
   ·exact h
/-! ### Functions that write, or give several blocks -/
structure WSpec where
 ι:Type
 args:ι→List Value
 blks:ι→List Blk
 pre:ι→Prop
 val:ι→Value
 post:ι→List Blk
 new:ι→List Blk
def wputK (H:Heap):List Nat→List Blk→List Blk→(Heap→Prop)→Prop
 | [],[],[],k=>k H
 | s::σ,b::bs,p::ps,k=>match b.own with
  | true=>match p with
   | .lrec _=>False
   | p=>setB H s (some p) fun H'=>wputK H' σ bs ps k
  | false=>wputK H σ bs ps k
 | _,_,_,_=>False
def pushesK (H:Heap):List Blk→(Heap→Prop)→Prop
 | [],k=>k H
 | b::bs,k=>match b with
  | .lrec _=>False
  | b=>pushB H (some b) fun H'=>pushesK H' bs k
def upFrom:Nat→Nat→List Nat
 | _,0=>[]
 | a,n+1=>a::upFrom (a+1) n
def lenB:List Blk→Nat
 | []=>0
 | _::l=>lenB l+1
def wFT (S:WSpec):FT:=fun args H K=>∃ (i:S.ι) (σ:List Nat),renL σ 3 (S.args i)=some args∧S.pre i∧σ.Nodup∧blksK H σ (S.blks i) (lenK H fun n0=>wputK H σ (S.blks i) (S.post i) fun H1=>pushesK H1 (S.new i) fun H2 =>
 ∃ v,renV (σ++upFrom n0 (lenB (S.new i))) 3 (S.val i)=some v∧forceK v fun v=>K v H2)
/-- What the function's own evaluation must come to: ps are the places of the new blocks. -/
def wRes (S:WSpec) (i:S.ι) (v:Value) (H:Heap):Prop :=
 ∃ ps:List Nat,ps.Nodup∧(∀ p∈ps,(S.blks i).length≤p)∧ps.length=(S.new i).length ∧
  (∀ (j:Nat) (b q:Blk),(S.blks i)[j]?=some b→(S.post i)[j]?=some q→b.own=true→∃ c,H[j]?=some (some c)∧c.own=true∧BlkLe q c) ∧
  (∀ (j p:Nat) (b:Blk),ps[j]?=some p→(S.new i)[j]?=some b→∃ c,H[p]?=some (some c)∧c.own=true∧BlkLe b c) ∧
  ∃ v',renV (List.range (S.blks i).length++ps) 3 (S.val i)=some v'∧VLe v v'
theorem upFrom_get:∀ {n a j:Nat},(upFrom a n)[j]?=if j < n then some (a+j) else none
 | 0,a,j=>by simp [upFrom]
 | n+1,a,0=>by simp [upFrom]
 | n+1,a,j+1=>by
  have:=upFrom_get (n:=n) (a:=a+1) (j:=j)
  simp only [upFrom,List.getElem?_cons_succ,this]
  by_cases h:j < n
  ·rw [if_pos h,if_pos (by omega)]; congr 1; omega
  ·rw [if_neg h,if_neg (by omega)]
theorem lenB_eq:∀ {l:List Blk},lenB l=l.length
 | []=>rfl
 | _::l=>by simp [lenB,lenB_eq (l:=l)]
theorem pushesK_spec:∀ {bs:List Blk} {H:Heap} {k:Heap→Prop},pushesK H bs k→k (H++bs.map some)∧∀ b∈bs,b.rc=none
 | [],H,k,h=>by
  have h:k H:=h
  exact ⟨by simpa using h,fun b hb=>by cases hb⟩
 | b::bs,H,k,h=>by
  have h:b.rc=none∧pushB H (some b) fun H'=>pushesK H' bs k:=by
   cases b with
   | expl o e r=>exact ⟨rfl,h⟩
   | flat o n e g=>exact ⟨rfl,h⟩
   | lrec r=>exact h.elim
  have:=pushesK_spec (bs:=bs) (pushB_spec h.2)
  refine ⟨by simpa using this.1,fun c hc=>?_⟩
  rcases List.mem_cons.1 hc with rfl | hc
  ·exact h.1
  ·exact this.2 c hc
theorem wputK_spec:∀ {σ:List Nat} {bs ps:List Blk} {H:Heap} {k:Heap→Prop},σ.Nodup→wputK H σ bs ps k→∃ H1,k H1∧H1.length=H.length∧(∀ id,id ∉ σ→H1[id]?=H[id]?) ∧
  ∀ (j s:Nat) (b:Blk),σ[j]?=some s→bs[j]?=some b→(b.own=true→∃ p,ps[j]?=some p∧H1[s]?=some (some p)∧p.rc=none)∧(b.own=false→H1[s]?=H[s]?)
 | [],[],[],H,k,_,h=>⟨H,h,rfl,fun _ _=>rfl,fun j s b hj=>by simp at hj⟩
 | s::σ,b::bs,p::ps,H,k,hn,h=>by
  obtain ⟨hs,hn⟩:=List.nodup_cons.1 hn
  unfold wputK at h
  split at h
  ·rename_i ho
   have hp0:p.rc=none∧setB H s (some p) fun H'=>wputK H' σ bs ps k:=by
    cases p with
    | expl o e r=>exact ⟨rfl,h⟩
    | flat o n e g=>exact ⟨rfl,h⟩
    | lrec r=>exact h.elim
   obtain ⟨hp0,h⟩:=hp0
   obtain ⟨hlt,h⟩:=setB_spec h
   obtain ⟨H1,h1,h2,h3,h4⟩:=wputK_spec hn h
   refine ⟨H1,h1,by rw [h2]; simp,fun id hid=>?_,fun j s' b' hj hb=>?_⟩
   ·rw [List.mem_cons,not_or] at hid
    rw [h3 id hid.2,List.getElem?_set_ne (Ne.symm hid.1)]
   ·cases j with
    | zero =>
     simp at hj hb; subst hj; subst hb
     refine ⟨fun _=>⟨p,rfl,?_,hp0⟩,(fun h=>by rw [ho] at h; cases h)⟩
     rw [h3 s hs,List.getElem?_set_self hlt]
    | succ j =>
     obtain ⟨h5,h6⟩:=h4 j s' b' (by simpa using hj) (by simpa using hb)
     refine ⟨fun h=>by simpa using h5 h,fun h=>?_⟩
     rw [h6 h,List.getElem?_set_ne]
     intro e
     subst e
     exact hs (List.mem_of_getElem? (by simpa using hj))
  ·rename_i ho
   obtain ⟨H1,h1,h2,h3,h4⟩:=wputK_spec hn h
   refine ⟨H1,h1,h2,fun id hid=>?_,fun j s' b' hj hb=>?_⟩
   ·rw [List.mem_cons,not_or] at hid
    exact h3 id hid.2
   ·cases j with
    | zero =>
     simp at hj hb; subst hj; subst hb
     exact ⟨(fun h=>by rw [ho] at h; cases h),fun _=>h3 s hs⟩
    | succ j=>simpa using h4 j s' b' (by simpa using hj) (by simpa using hb)
 | [],_::_,_,H,k,_,h=>by cases h
 | [],[],_::_,H,k,_,h=>by cases h
 | _::_,[],_,H,k,_,h=>by cases h
 | _::_,_::_,[],H,k,_,h=>by cases h
theorem wft_of {S:WSpec} (hE:EnvOk P E) (hD:DOk P D) {f:FuncId} {fn:Func} (hf:P.funcs[f]?=some fn) (hen:∀ args w,(callFunc f args).run P w=.ok (.enter f args) w)
  (h:∀ i,S.pre i→fnK E D fn (S.args i) ((S.blks i).map some) (wRes S i))
  (hI:ItsOk P E:=by exact ItsOk.none rfl) (hy:E.ys=[]:=by rfl) (hu:E.nu=(fun _=>none):=by rfl):FTOk P f (wFT S):=by
 refine ⟨hen,fun args H K hFT ν as w n O has hH hfr hown=>?_⟩
 obtain ⟨i,σ,hren,hp,hnd,hbl⟩:=hFT
 obtain ⟨hlen,hσ,hbl⟩:=blksK_spec hbl
 obtain ⟨H1,hbl,hH1,hH1o,hH1s⟩:=wputK_spec hnd (lenK_spec hbl)
 obtain ⟨⟨v2,hren2,hK⟩,hnrc⟩:=pushesK_spec hbl
 have hK:=forceK_spec hK
 rw [lenB_eq] at hren2
 have hargs:=renL_fwd (renV_fwd (ν:=ν) 3) hren has
 -- the callee's blocks
 let Oc:Nat→Prop:=fun x=>∃ (j s:Nat) (b:Blk) (l:Loc),σ[j]?=some s∧(S.blks i)[j]?=some b∧b.own=true∧ν s=some l∧x=l.blk
 have hσb:∀ (j:Nat) (b:Blk),(S.blks i)[j]?=some b→∃ s,σ[j]?=some s∧∃ c l,H[s]?=some (some c)∧BlkLe' b c∧ν s=some l∧BRel ν l c w:=by
  intro j b hb
  have hlt:j < σ.length:=by rw [hlen]; exact (List.getElem?_eq_some_iff.1 hb).1
  obtain ⟨c,h1,h2⟩:=hσ j _ b (List.getElem?_eq_getElem hlt) hb
  obtain ⟨l,h3,h4⟩:=hH.blk _ _ h1
  exact ⟨_,List.getElem?_eq_getElem hlt,c,l,h1,h2,h3,h4⟩
 have hcomp:∀ (j s:Nat),σ[j]?=some s→(ν.comp σ) j=ν s:=fun j s hj=>by simp [Nu.comp,hj]
 have hH0:HRel (ν.comp σ) ((S.blks i).map some) w:=by
  refine ⟨fun j b hj=>?_,fun j q bj bq lj lq hj hq hne ho e1 e2=>?_⟩
  ·obtain ⟨s,h1,c,l,h2,h3,h4,h5⟩:=hσb j b (map_some_get hj)
   exact ⟨l,by rw [hcomp j s h1,h4],h5.le h3⟩
  ·obtain ⟨s,h1,c,l,h2,h3,h4,h5⟩:=hσb j bj (map_some_get hj)
   obtain ⟨s',h1',c',l',h2',h3',h4',h5'⟩:=hσb q bq (map_some_get hq)
   rw [hcomp j s h1,h4] at e1; obtain rfl:=Option.some.inj e1
   rw [hcomp q s' h1',h4'] at e2; obtain rfl:=Option.some.inj e2
   refine hH.sep s s' c c' _ _ h2 h2' (fun e=>hne ?_) (Blk.ownC_spec (h3.own ho).1).1 h4 h4'
   subst e
   exact (List.getElem?_inj (List.getElem?_eq_some_iff.1 h1).1 hnd).1 (h1.trans h1'.symm)
 have hfr0:∀ id,((S.blks i).map some).length≤id→(ν.comp σ) id=none:=by
  intro id hid
  rw [List.length_map] at hid
  simp [Nu.comp,List.getElem?_eq_none (show σ.length≤id by omega)]
 have hown0:∀ id b l,((S.blks i).map some)[id]?=some (some b)→b.own=true→(ν.comp σ) id=some l→Oc l.blk:=by
  intro id b l hb ho hl
  obtain ⟨s,h1,c,l',h2,h3,h4,h5⟩:=hσb id b (map_some_get hb)
  rw [hcomp id s h1,h4] at hl; obtain rfl:=Option.some.inj hl
  exact ⟨id,s,b,_,h1,map_some_get hb,ho,h4,rfl⟩
 have hOc:∀ x,Oc x→O x:=by
  rintro x ⟨j,s,b,l,h1,h2,h3,h4,rfl⟩
  obtain ⟨s',h1',c,l',h2',h3',h4',_⟩:=hσb j b h2
  rw [h1] at h1'; cases h1'
  exact hown s c l h2' (Blk.ownC_spec (h3'.own h3).1).1 h4
 refine fn_sound (O:=Oc) (ν:=ν.comp σ) (hE.x hI hy) hD hf (h i hp) hargs hH0 hfr0 hown0 (nu_none hu) ?_
 intro ν1 v v' t H' a w' hi hk hv
 obtain ⟨ps,hpn,hpge,hpl,hpost,hnew,v3,hren3,hvl⟩:=hk
 have hle1:(ν.comp σ).le ν1:=hi.mono
 let ν':Nu:=fun id=>if id < H.length then ν id else (ps[id - H.length]?).bind ν1
 have hν'lo:∀ id,id < H.length→ν' id=ν id:=fun id h=>by simp only [ν']; rw [if_pos h]
 have hν'hi:∀ j p,ps[j]?=some p→ν' (H.length+j)=ν1 p:=fun j p h=>by
  simp only [ν']; rw [if_neg (by omega),Nat.add_sub_cancel_left,h]; rfl
 have hleν:ν.le ν':=by
  intro id l hid
  have:id < H.length:=by
   rcases Nat.lt_or_ge id H.length with h | h
   ·exact h
   ·rw [hfr id h] at hid; cases hid
  rw [hν'lo id this]; exact hid
 -- own blocks of the arguments, behind the call
 have hargo:∀ (j s:Nat) (b:Blk) (l:Loc),σ[j]?=some s→(S.blks i)[j]?=some b→b.own=true→ν s=some l→∃ q c,(S.post i)[j]?=some q∧H1[s]?=some (some q)∧H'[j]?=some (some c)∧c.own=true∧BlkLe' q c∧ν1 j=some l:=by
  intro j s b l h1 h2 h3 h4
  obtain ⟨q,h5,h6,h60⟩:=(hH1s j s b h1 h2).1 h3
  obtain ⟨c,h7,h8,h9⟩:=hpost j b q h2 h5 h3
  exact ⟨q,c,h5,h6,h7,h8,⟨h9,h60⟩,hle1 j l (by rw [hcomp j s h1]; exact h4)⟩
 -- a block that the callee does not own has not turned
 have hsame:∀ (id:Nat) (b:Blk) (l:Loc),H[id]?=some (some b)→ν id=some l→(∀ (j:Nat) (c:Blk),σ[j]?=some id→(S.blks i)[j]?=some c→c.own=false)→¬ Oc l.blk∧w'.heap[l.blk]?=w.heap[l.blk]?:=by
  intro id b l hb hl hno
  obtain ⟨l0,e1,hB⟩:=hH.blk id b hb
  rw [hl] at e1; cases e1
  have hnO:¬ Oc l.blk:=by
   rintro ⟨j,s,bj,lj,h1,h2,h3,h4,h5⟩
   obtain ⟨s',h1',c,l',h2',h3',h4',_⟩:=hσb j bj h2
   rw [h1] at h1'; cases h1'
   have hne:s≠id:=by
    intro e
    subst e
    have:=hno j bj h1 h2
    rw [h3] at this; cases this
   exact hH.sep s id c b lj l h2' hb hne (Blk.ownC_spec (h3'.own h3).1).1 h4 hl h5.symm
  exact ⟨hnO,hi.kp.blk _ hB.live hnO⟩
 -- the callee's new blocks
 have hnewl:∀ (j p:Nat) (b:Blk),ps[j]?=some p→(S.new i)[j]?=some b→∃ c l,H'[p]?=some (some c)∧c.own=true∧BlkLe b c∧ν1 p=some l∧BRel ν1 l c w'∧w.heap.size≤l.blk:=by
  intro j p b h1 h2
  obtain ⟨c,h3,h4,h5⟩:=hnew j p b h1 h2
  obtain ⟨l,h6,h7⟩:=hi.hp.blk p c h3
  refine ⟨c,l,h3,h4,h5,h6,h7,?_⟩
  rcases hi.own p c l h3 h4 h6 with ⟨j',s,b',l',k1,k2,k3,k4,k5⟩ | h
  ·obtain ⟨q,c',_,_,k6,k7,_,k8⟩:=hargo j' s b' l' k1 k2 k3 k4
   have hlt:j' < (S.blks i).length:=(List.getElem?_eq_some_iff.1 k2).1
   have:=hpge p (List.mem_of_getElem? h1)
   exact absurd k5 (hi.hp.sep p j' c c' l l' h3 k6 (by omega) h4 h6 k8)
  ·exact h
 -- which blocks there are behind the call
 have hcase:∀ (id:Nat) (b:Blk),(H1++(S.new i).map some)[id]?=some (some b)→
   (id < H.length∧∃ b0 l,H[id]?=some (some b0)∧ν id=some l∧(b.own=true→b0.own=true)∧BRel ν' l b w'∧((∃ (j:Nat) (bj:Blk),σ[j]?=some id∧(S.blks i)[j]?=some bj∧bj.own=true)∨(¬ Oc l.blk∧l.blk < w.heap.size))) ∨
   (∃ (j p:Nat) (c:Blk) (l:Loc),id=H.length+j∧ps[j]?=some p∧(S.new i)[j]?=some b∧H'[p]?=some (some c)∧c.own=true∧ν1 p=some l∧BRel ν' l b w'∧w.heap.size≤l.blk):=by
  intro id b hb
  rw [List.getElem?_append] at hb
  split at hb
  ·rename_i hlt
   rw [hH1] at hlt
   refine .inl ⟨hlt,?_⟩
   by_cases hmem:∃ (j:Nat) (bj:Blk),σ[j]?=some id∧(S.blks i)[j]?=some bj∧bj.own=true
   ·obtain ⟨j,bj,h1,h2,h3⟩:=hmem
    obtain ⟨s',h1',c,l,h4,h5,h6,h7⟩:=hσb j bj h2
    rw [h1] at h1'; cases h1'
    obtain ⟨q,c',h8,h9,h10,h11,h12,h13⟩:=hargo j id bj l h1 h2 h3 h6
    rw [h9] at hb; cases hb
    obtain ⟨l',h14,h15⟩:=hi.hp.blk j c' h10
    rw [h13] at h14; cases h14
    exact ⟨c,l,h4,h6,fun _=>(Blk.ownC_spec (h5.own h3).1).1,h15.le h12,.inl ⟨j,bj,h1,h2,h3⟩⟩
   ·have hno:∀ (j:Nat) (c:Blk),σ[j]?=some id→(S.blks i)[j]?=some c→c.own=false:=by
     intro j c h1 h2
     cases h:c.own with
     | false=>rfl
     | true=>exact absurd ⟨j,c,h1,h2,h⟩ hmem
    have hHb:H[id]?=some (some b):=by
     by_cases hin:id∈σ
     ·obtain ⟨j,hj⟩:=List.getElem?_of_mem hin
      have hjl:j < (S.blks i).length:=by rw [← hlen]; exact (List.getElem?_eq_some_iff.1 hj).1
      have:=(hH1s j id _ hj (List.getElem?_eq_getElem hjl)).2 (hno j _ hj (List.getElem?_eq_getElem hjl))
      rw [← this]; exact hb
     ·rw [← hH1o id hin]; exact hb
    obtain ⟨l,h1,h2⟩:=hH.blk id b hHb
    obtain ⟨h3,h4⟩:=hsame id b l hHb h1 hno
    exact ⟨b,l,hHb,h1,fun h=>h,(h2.same h4 hi.kp.size).mono hleν,.inr ⟨h3,h2.live⟩⟩
  ·rename_i hge
   rw [hH1] at hb hge
   have hb:=map_some_get hb
   have hlt:id - H.length < ps.length:=by rw [hpl]; exact (List.getElem?_eq_some_iff.1 hb).1
   obtain ⟨c,l,h1,h2,h3,h4,h5,h6⟩:=hnewl _ _ b (List.getElem?_eq_getElem hlt) hb
   exact .inr ⟨id - H.length,_,c,l,by omega,List.getElem?_eq_getElem hlt,hb,h1,h2,h4,h5.le ⟨h3,hnrc b (List.mem_of_getElem? hb)⟩,h6⟩
 have hlocs:∀ (j p:Nat),ps[j]?=some p→ν' (H.length+j)=ν1 p:=hν'hi
 refine ⟨v2,v',ν',H1++(S.new i).map some,rfl,hK,?_,hleν,⟨fun id b hb=>?_,fun p q bp bq lp lq hp' hq' hne ho e1 e2=>?_⟩,fun id hid=>?_,⟨hi.kp.os,hi.kp.tape,hi.kp.output,hi.kp.size,fun b h1 h2=>hi.kp.blk b h1 (fun h=>h2 (hOc b h))⟩,fun id b l hb ho hl=>?_⟩
 ·have h1:=renV_fwd 3 _ _ _ hren3 (VRel.weak hvl hv)
  refine renV_bwd 3 _ _ _ hren2 (h1.mono (fun j lj hj=>?_))
  unfold Nu.comp at hj ⊢
  by_cases hlt:j < (S.blks i).length
  ·rw [List.getElem?_append_left (by simpa using hlt),List.getElem?_range hlt] at hj
   have hj:ν1 j=some lj:=hj
   obtain ⟨s,h2,c,l,h3,h4,h5,_⟩:=hσb j _ (List.getElem?_eq_getElem hlt)
   have:=hle1 j l (by rw [hcomp j s h2]; exact h5)
   rw [hj] at this; cases this
   rw [List.getElem?_append_left (List.getElem?_eq_some_iff.1 h2).1,h2]
   exact hleν s lj h5
  ·rw [List.getElem?_append_right (by simp; omega)] at hj
   rw [List.length_range] at hj
   rw [List.getElem?_append_right (by omega),upFrom_get,hlen]
   cases hps:ps[j - (S.blks i).length]? with
   | none=>rw [hps] at hj; cases hj
   | some p =>
    rw [hps] at hj
    have hj:ν1 p=some lj:=hj
    have:=(List.getElem?_eq_some_iff.1 hps).1
    rw [if_pos (by omega)]
    show ν' (H.length+(j - (S.blks i).length))=_
    rw [hν'hi _ _ hps]; exact hj
 ·rcases hcase id b hb with ⟨hlt,b0,l,h1,h2,_,h3,_⟩ | ⟨j,p,c,l,rfl,h1,h2,h3,h4,h5,h6,h7⟩
  ·exact ⟨l,by rw [hν'lo id hlt]; exact h2,h3⟩
  ·exact ⟨l,by rw [hν'hi j p h1]; exact h5,h6⟩
 ·rcases hcase p bp hp' with ⟨hlt,b0,l,h1,h2,h3,h4,h5⟩ | ⟨j,pp,c,l,rfl,h1,h2,h3,h4,h5,h6,h7⟩ <;>
   rcases hcase q bq hq' with ⟨hlt',b0',l',h1',h2',h3',h4',h5'⟩ | ⟨j',pp',c',l',rfl,h1',h2',h3',h4',h5',h6',h7'⟩
  ·rw [hν'lo p hlt,h2] at e1; cases e1
   rw [hν'lo q hlt',h2'] at e2; cases e2
   exact hH.sep p q b0 b0' _ _ h1 h1' hne (h3 ho) h2 h2'
  ·rw [hν'lo p hlt,h2] at e1; cases e1
   rw [hν'hi _ _ h1',h5'] at e2; cases e2
   have:=(hH.blk p b0 h1)
   obtain ⟨l0,e3,e4⟩:=this
   rw [h2] at e3; cases e3
   have:=e4.live
   omega
  ·rw [hν'hi _ _ h1,h5] at e1; cases e1
   rw [hν'lo q hlt',h2'] at e2; cases e2
   obtain ⟨l0,e3,e4⟩:=hH.blk q b0' h1'
   rw [h2'] at e3; cases e3
   have:=e4.live
   omega
  ·rw [hν'hi _ _ h1,h5] at e1; cases e1
   rw [hν'hi _ _ h1',h5'] at e2; cases e2
   refine hi.hp.sep pp pp' c c' _ _ h3 h3' (fun e=>hne ?_) h4 h5 h5'
   subst e
   rw [(List.getElem?_inj (List.getElem?_eq_some_iff.1 h1).1 hpn).1 (h1.trans h1'.symm)]
 ·rw [List.length_append,List.length_map,hH1] at hid
  simp only [ν']
  rw [if_neg (by omega),List.getElem?_eq_none (by omega)]
  rfl
 ·rcases hcase id b hb with ⟨hlt,b0,l',h1,h2,h3,_⟩ | ⟨j,p,c,l',rfl,h1,h2,h3,h4,h5,h6,h7⟩
  ·rw [hν'lo id hlt,h2] at hl; cases hl
   exact .inl (hown id b0 _ h1 (h3 ho) h2)
  ·rw [hν'hi j p h1,h5] at hl; cases hl
   exact .inr h7
end
end Go.Ae
/- '==' of structs of plain cells, checked by evaluation of the types. -/
namespace Go.Ae
open Go Go.RowKit
def fieldsZ (P:Program) (g:TypeId→Option (Bool × List Value)):Nat→List Field→Option (List Value)
 | _,[]=>some []
 | o, f :: l => match Nat.beq f.offset o && (f.name != "_"), g f.type, P.info? f.type, P.underlying f.type with
  | true,some (b,z),some i,some d=>match Nat.beq i.size z.length && (isAggD d == b) && Nat.ble 1 z.length with
   | true=>match fieldsZ P g (o+z.length) l with
    | some zs=>some (z++zs)
    | none=>none
   | false=>none
  | _,_,_,_=>none
/-- The cells of a type whose '==' is that of its cells; whether it is an aggregate. -/
def typeZ (P:Program):Nat→TypeId→Option (Bool × List Value)
 | 0,_=>none
 | d+1,t=>match P.underlying t with
  | some .bool=>some (false,[.bool false])
  | some (.int q)=>some (false,[.int q 0])
  | some .string=>some (false,[.string ⟨#[]⟩])
  | some (.struct fs)=>match P.stoodInHeld t with
   | true=>none
   | false=>match fieldsZ P (typeZ P d) 0 fs.toList with
    | some z=>some (true,z)
    | none=>none
  | _=>none
theorem sameKinds_len:∀ {l m:List Value},sameKinds l m=true→l.length=m.length
 | [],[],_=>rfl
 | .bool _::l,.bool _::m,h=>by simp [sameKinds_len (l:=l) (m:=m) h]
 | .int q _::l,.int q' _::m,h=>by
  simp only [sameKinds,Bool.and_eq_true] at h
  simp [sameKinds_len (l:=l) (m:=m) h.2]
 | .string _::l,.string _::m,h=>by simp [sameKinds_len (l:=l) (m:=m) h]
/-- One cell of the same kind. -/
def SK1 (x v:Value):Prop:=(∃ a b,x=.bool a∧v=.bool b)∨(∃ q a b,x=.int q a∧v=.int q b)∨∃ a b,x=.string a∧v=.string b
theorem sk_inv {xs z:List Value} {v:Value} (h:sameKinds xs (v::z)=true):∃ x l,xs=x::l∧SK1 x v∧sameKinds l z=true:=by
 generalize e:v::z=w at h
 unfold sameKinds at h
 split at h
 ·cases e
 ·cases e; exact ⟨_,_,rfl,.inl ⟨_,_,rfl,rfl⟩,h⟩
 ·cases e
  simp only [Bool.and_eq_true,decide_eq_true_eq] at h
  obtain ⟨rfl,h⟩:=h
  exact ⟨_,_,rfl,.inr (.inl ⟨_,_,_,rfl,rfl⟩),h⟩
 ·cases e; exact ⟨_,_,rfl,.inr (.inr ⟨_,_,rfl,rfl⟩),h⟩
 ·cases h
theorem sk_nil {xs:List Value} (h:sameKinds xs []=true):xs=[]:=List.length_eq_zero_iff.1 (sameKinds_len h)
theorem sk_cons {x v:Value} {l z:List Value} (h:SK1 x v) (h2:sameKinds l z=true):sameKinds (x::l) (v::z)=true:=by
 rcases h with ⟨a,b,rfl,rfl⟩ | ⟨q,a,b,rfl,rfl⟩ | ⟨a,b,rfl,rfl⟩
 ·exact h2
 ·simp only [sameKinds,decide_true,Bool.true_and]; exact h2
 ·exact h2
theorem sameKinds_split:∀ {z xs zs:List Value},sameKinds xs (z++zs)=true→∃ x1 x2,xs=x1++x2∧sameKinds x1 z=true∧sameKinds x2 zs=true
 | [],xs,zs,h=>⟨[],xs,rfl,rfl,h⟩
 | v::z,xs,zs,h=>by
  obtain ⟨x,l,rfl,h1,h2⟩:=sk_inv (z:=z++zs) h
  obtain ⟨x1,x2,rfl,h3,h4⟩:=sameKinds_split h2
  exact ⟨x::x1,x2,rfl,sk_cons h1 h3,h4⟩
theorem eqCells_append:∀ {z x1 y1 x2 y2:List Value},sameKinds x1 z=true→sameKinds y1 z=true→eqCells (x1++x2) (y1++y2)=(eqCells x1 y1 && eqCells x2 y2)
 | [],x1,y1,x2,y2,h1,h2=>by
  rw [sk_nil h1,sk_nil h2]
  simp [eqCells]
 | v::z,x1,y1,x2,y2,h1,h2=>by
  obtain ⟨x,l,rfl,a1,a2⟩:=sk_inv h1
  obtain ⟨y,m,rfl,b1,b2⟩:=sk_inv h2
  have ih:=eqCells_append (x2:=x2) (y2:=y2) a2 b2
  rcases a1 with ⟨p,_,rfl,rfl⟩ | ⟨q,p,_,rfl,rfl⟩ | ⟨p,_,rfl,rfl⟩
  all_goals
   rcases b1 with ⟨r,_,rfl,e⟩ | ⟨q',r,_,rfl,e⟩ | ⟨r,_,rfl,e⟩
  all_goals first | (cases e; done) | skip
  all_goals
   simp only [List.cons_append,eqCells,ih,Bool.and_assoc]
theorem sk_one {xs:List Value} {v:Value} (h:sameKinds xs [v]=true):∃ x,xs=[x]∧SK1 x v:=by
 obtain ⟨x,l,rfl,h1,h2⟩:=sk_inv h
 rw [sk_nil h2]
 exact ⟨x,rfl,h1⟩
def toV (b:Bool) (xs:List Value):Value:=if b then .agg ⟨xs⟩ else xs.getD 0 undef
theorem fieldsZ_spec {P:Program} {d:Nat} (ih:∀ t b z,typeZ P d t=some (b,z)→∀ n xs ys w,sameKinds xs z=true→sameKinds ys z=true→(Op.equalIn (n+d) t (toV b xs) (toV b ys)).run P w=.ok (eqCells xs ys) w) (n:Nat) (w:World) (XS YS:List Value) :
  ∀ (l:List Field) (o:Nat) (z:List Value),fieldsZ P (typeZ P d) o l=some z→∀ xs ys,sameKinds xs z=true→sameKinds ys z=true→(∀ j v,xs[j]?=some v→XS[o+j]?=some v)→(∀ j v,ys[j]?=some v→YS[o+j]?=some v) →
   (Op.eqFields (n+d) ⟨XS⟩ ⟨YS⟩ l).run P w=.ok (eqCells xs ys) w
 | [],o,z,h,xs,ys,h1,h2,_,_=>by
  cases h
  have e1:=sameKinds_len h1
  have e2:=sameKinds_len h2
  have e1:xs=[]:=List.length_eq_zero_iff.1 e1
  have e2:ys=[]:=List.length_eq_zero_iff.1 e2
  subst e1; subst e2
  rfl
 | f::l,o,z,h,xs,ys,h1,h2,hx,hy=>by
  unfold fieldsZ at h
  split at h
  ·rename_i b z1 i dd hb hg hi hu
   split at h
   ·rename_i hc
    split at h
    ·rename_i zs hz
     cases h
     simp only [Bool.and_eq_true] at hb hc
     obtain ⟨⟨c1,c2⟩,c3⟩:=hc
     obtain ⟨x1,x2,rfl,hx1,hx2⟩:=sameKinds_split h1
     obtain ⟨y1,y2,rfl,hy1,hy2⟩:=sameKinds_split h2
     have lx:=sameKinds_len hx1
     have ly:=sameKinds_len hy1
     have hsz:=Nat.eq_of_beq_eq_true c1
     have hfo:FieldOk P f (o,z1.length,b):=⟨Nat.eq_of_beq_eq_true hb.1,Nat.le_of_ble_eq_true c3,⟨i,hi,hsz⟩,dd,hu,by simpa using c2⟩
     have p1:=run_part hfo (cs:=XS) (vs:=x1) lx (fun j v hv=>hx j v (by rw [List.getElem?_append_left (by rw [List.getElem?_eq_some_iff] at hv; exact hv.1)]; exact hv)) w
     have p2:=run_part hfo (cs:=YS) (vs:=y1) ly (fun j v hv=>hy j v (by rw [List.getElem?_append_left (by rw [List.getElem?_eq_some_iff] at hv; exact hv.1)]; exact hv)) w
     have p3:=ih f.type b z1 hg n x1 y1 w hx1 hy1
     have p4:=fieldsZ_spec ih n w XS YS l (o+z1.length) zs hz x2 y2 hx2 hy2
      (fun j v hv=>by
       rw [Nat.add_assoc]
       refine hx _ v ?_
       rw [List.getElem?_append_right (by omega),← lx,Nat.add_sub_cancel_left]
       exact hv)
      (fun j v hv=>by
       rw [Nat.add_assoc]
       refine hy _ v ?_
       rw [List.getElem?_append_right (by omega),← ly,Nat.add_sub_cancel_left]
       exact hv)
     have hne : f.name ≠ "_" := by simpa using hb.2
     unfold Op.eqFields
     rw [if_pos hne]
     unfold toV at p3
     simp only [Sem.run_bind,p1,p2,Result.andThen_ok]
     rw [p3]
     simp only [Result.andThen_ok]
     rw [eqCells_append hx1 hy1]
     cases eqCells x1 y1
     ·rfl
     ·simpa using p4
    ·cases h
   ·cases h
  ·cases h
theorem typeZ_spec {P:Program}:∀ (d:Nat) (t:TypeId) (b:Bool) (z:List Value),typeZ P d t=some (b,z)→∀ (n:Nat) (xs ys:List Value) (w:World),sameKinds xs z=true→sameKinds ys z=true →
  (Op.equalIn (n+d) t (toV b xs) (toV b ys)).run P w=.ok (eqCells xs ys) w
 | 0,t,b,z,h=>by cases h
 | d+1,t,b,z,h=>by
  intro n xs ys w h1 h2
  unfold typeZ at h
  split at h
  ·rename_i hu
   cases h
   obtain ⟨x,rfl,a1⟩:=sk_one h1
   obtain ⟨y,rfl,a2⟩:=sk_one h2
   rcases a1 with ⟨x,_,rfl,e⟩ | ⟨_,x,_,rfl,e⟩ | ⟨x,_,rfl,e⟩
   all_goals first | (cases e; done) | skip
   rcases a2 with ⟨y,_,rfl,e⟩ | ⟨_,y,_,rfl,e⟩ | ⟨y,_,rfl,e⟩
   all_goals first | (cases e; done) | skip
   ·skip
    rw [show toV false [Value.bool x]=.bool x from rfl,show toV false [Value.bool y]=.bool y from rfl]
    rw [show n+(d+1)=(n+d)+1 from rfl,run_equalIn_bool' w (n+d) t x y hu]
    simp [eqCells]
  ·rename_i q hu
   cases h
   obtain ⟨x,rfl,a1⟩:=sk_one h1
   obtain ⟨y,rfl,a2⟩:=sk_one h2
   rcases a1 with ⟨x,_,rfl,e⟩ | ⟨q1,x,_,rfl,e⟩ | ⟨x,_,rfl,e⟩
   all_goals first | (cases e; done) | skip
   cases e
   rcases a2 with ⟨y,_,rfl,e⟩ | ⟨q2,y,_,rfl,e⟩ | ⟨y,_,rfl,e⟩
   all_goals first | (cases e; done) | skip
   cases e
   ·skip
    rw [show toV false [Value.int q x]=.int q x from rfl,show toV false [Value.int q y]=.int q y from rfl]
    rw [show n+(d+1)=(n+d)+1 from rfl,run_equalIn_int w (n+d) t q q x y hu]
    simp [eqCells]
  ·rename_i hu
   cases h
   obtain ⟨x,rfl,a1⟩:=sk_one h1
   obtain ⟨y,rfl,a2⟩:=sk_one h2
   rcases a1 with ⟨x,_,rfl,e⟩ | ⟨_,x,_,rfl,e⟩ | ⟨x,_,rfl,e⟩
   all_goals first | (cases e; done) | skip
   rcases a2 with ⟨y,_,rfl,e⟩ | ⟨_,y,_,rfl,e⟩ | ⟨y,_,rfl,e⟩
   all_goals first | (cases e; done) | skip
   ·skip
    rw [show toV false [Value.string x]=.string x from rfl,show toV false [Value.string y]=.string y from rfl]
    rw [show n+(d+1)=(n+d)+1 from rfl,run_equalIn_string w (n+d) t x y hu]
    simp [eqCells]
  ·rename_i fs hu
   split at h
   ·cases h
   ·rename_i hst
    split at h
    ·rename_i z0 hz
     cases h
     have hfs:P.fieldsOf t=fs:=by unfold Program.fieldsOf; rw [hu]
     show (Op.equalIn (n+(d+1)) t (.agg ⟨xs⟩) (.agg ⟨ys⟩)).run P w=_
     rw [show n+(d+1)=(n+d)+1 from rfl,run_equalIn_struct w (n+d) t ⟨xs⟩ ⟨ys⟩ (by rw [hfs]; exact hu) hst,hfs]
     exact fieldsZ_spec (typeZ_spec d) n w xs ys fs.toList 0 _ hz xs ys h1 h2 (fun j v hv=>by rw [Nat.zero_add]; exact hv) (fun j v hv=>by rw [Nat.zero_add]; exact hv)
    ·cases h
  ·cases h
theorem eqTy {P:Program} {t:TypeId} {z:List Value} (h:typeZ P 5 t=some (true,z)) (hg:P.eqGuardType P.depth t=false):EqTy P t z:=by
 intro xs ys w h1 h2
 refine ⟨?_,fun x y op=>run_eqGuard_agg w op t x y ⟨xs⟩ ⟨ys⟩ hg⟩
 exact typeZ_spec 5 t true z h 9995 xs ys w h1 h2
end Go.Ae
/- A function called with a block of which less is known. -/
namespace Go.Ae
open Go Go.RowKit
def weakFT (F:FT):FT:=fun args H K=>∃ (id:Nat) (b':Blk),blkK H id fun b=>(BlkLe b' b∧b'.rc=none)∧setB H id (some b') fun H'=>F args H' K
theorem weak_ft {P:Program} {f:FuncId} {F:FT} (h:FTOk P f F):FTOk P f (weakFT F):=by
 refine ⟨h.enters,fun args H K hF ν as w n O has hH hfr hown=>?_⟩
 obtain ⟨id,b',hF⟩:=hF
 obtain ⟨b,hb,⟨hle,hrc⟩,hF⟩:=blkK_spec hF
 obtain ⟨hlt,hF⟩:=setB_spec hF
 have hle':BlkLe' b' b:={ toBlkLe:=hle,rc:=hrc }
 have hset:∀ (j:Nat) (c:Blk),(H.set id (some b'))[j]?=some (some c)→(j=id∧c=b')∨(j≠id∧H[j]?=some (some c)):=fun j c hj=>by
  by_cases e:j=id
  ·subst e; rw [List.getElem?_set_self hlt] at hj; cases hj; exact .inl ⟨rfl,rfl⟩
  ·rw [List.getElem?_set_ne (Ne.symm e)] at hj; exact .inr ⟨e,hj⟩
 have hback:∀ (j:Nat) (c:Blk),(H.set id (some b'))[j]?=some (some c)→∃ c0,H[j]?=some (some c0)∧(c.own=true→c0.own=true):=fun j c hj=>by
  rcases hset j c hj with ⟨rfl,rfl⟩ | ⟨_,hj⟩
  ·exact ⟨b,hb,fun ho=>(Blk.ownC_spec (hle.own ho).1).1⟩
  ·exact ⟨c,hj,fun h=>h⟩
 refine h.calls args _ K hF ν as w n O has ⟨fun j c hj=>?_,fun i j bi bj li lj h1 h2 hne ho e1 e2=>?_⟩ (fun j hj=>hfr j (by simpa using hj)) (fun j c l hj ho hl=>?_)
 ·rcases hset j c hj with ⟨rfl,rfl⟩ | ⟨_,hj⟩
  ·obtain ⟨l,h1,h2⟩:=hH.blk _ _ hb
   exact ⟨l,h1,h2.le hle'⟩
  ·exact hH.blk j c hj
 ·obtain ⟨ci,q1,q2⟩:=hback i bi h1
  obtain ⟨cj,p1,p2⟩:=hback j bj h2
  exact hH.sep i j ci cj li lj q1 p1 hne (q2 ho) e1 e2
 ·obtain ⟨c0,q1,q2⟩:=hback j c hj
  exact hown j c0 l q1 (q2 ho) hl
/-- A function called with a slice whose capacity is told by its length alone. -/
def limFT (F:FT):FT:=fun args H K=>match args with
 | .slice (some ⟨id,row,none⟩) n c::r=>c=capU∧F (.slice (some ⟨id,row,some n⟩) n capU::r) H fun v H'=>match v with
  | .slice (some ⟨j,row',some _⟩) m _=>K (.slice (some ⟨j,row',none⟩) m capU) H'
  | _=>K v H'
 | _=>False
theorem lim_ft {P:Program} {f:FuncId} {F:FT} (h:FTOk P f F):FTOk P f (limFT F):=by
 refine ⟨h.enters,fun args H K hF ν as w n O has hH hfr hown=>?_⟩
 unfold limFT at hF
 split at hF
 ·rename_i id row m c r
  obtain ⟨rfl,hF⟩:=hF
  obtain ⟨y,ys,rfl,hy,hys⟩:=has.uncons
  have hy':VRel ν (.slice (some ⟨id,row,some m⟩) m capU) y:=by
   cases hy with
   | slice _ _ _ _ c' l h hc hn hr=>exact .lim _ _ _ _ _ l h hn hn hr
   | void _ _ _ a hc=>exact .limz _ _ a
  refine (h.calls _ H _ hF ν _ w n O (.cons hy' hys) hH hfr hown).mono fun e w' hp=>?_
  obtain ⟨v,v',ν',H',h1,h2,h3,h4⟩:=hp
  split at h2
  ·refine ⟨_,v',ν',H',h1,h2,?_,h4⟩
   cases h3 with
   | lim _ _ _ _ c' l h hm hn hr=>exact .slice _ _ _ _ _ l h (.inr rfl) hn hr
   | limz _ _ a=>exact .void _ _ _ a (.inr rfl)
  ·exact ⟨_,v',ν',H',h1,h2,h3,h4⟩
 ·exact hF.elim
/-- The first range over a function in some code. -/
def findR:Code→Option (Array Nat × Code × Code)
 | .rangeFunc _ ps a b=>some (ps,a,b)
 | .seq a b=>match findR a with
  | some x=>some x
  | none=>findR b
 | .block _ c=>findR c
 | .loop c=>findR c
 | .cond _ a b=>match findR a with
  | some x=>some x
  | none=>findR b
 | _=>none
/-- Its record, ready for a round. -/
def recR (f:Func) (fn:FuncId) (tm:Array Value) (df:Nat):Loop :=
 match f.body with
 | some c=>match findR c with
  | some (ps,a,b)=>⟨.ready,none,fn,tm,ps,a,b,df⟩
  | none=>⟨.ready,none,fn,tm,#[],.skip,.skip,df⟩
 | none=>⟨.ready,none,fn,tm,#[],.skip,.skip,df⟩
/-- A slice that grows, and its block. -/
def oVal (id:Nat):Nat→Value
 | 0=>.slice none 0 0
 | q+1=>.slice (some ⟨id,0,none⟩) (q+1) capU
def oBlk (e:Nat) (F:Nat→List Value):Nat→Heap
 | 0=>[]
 | q+1=>[some (.flat true (q+1) e F)]
end Go.Ae
