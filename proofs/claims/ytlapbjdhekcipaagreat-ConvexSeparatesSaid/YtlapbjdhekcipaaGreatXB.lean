import Derived.RangeFuncLeaves
import Derived.RangeFuncRecord
import Derived.KernelRfl
import Derived.Test.YtlapbjdhekcipaaGreatXA
set_option linter.unusedVariables false
set_option linter.unusedSimpArgs false
namespace Go.Ae
open Go Go.RowKit
def ph (ah:Nat):Src→aj
 | .fl m g=>.flat true m ah g
 | .ex L=>.aO true ah L
def aj.pD:aj→Bool
 | .flat _ _ _ _=>true
 | .aO _ _ rows=>rows.all jK
 | .cg _=>false
def wZ (b:aj) (s:Src) (k:aj→Prop):Prop :=
 match b,s with
 | .flat true n ah get,.fl m news=>k (.flat true (n+m) ah (iH get n news))
 | .aO true ah rows,.ex L=>sU rows L fun l=>k (.aO true ah l)
 | .aO true ah rows,.fl m news=>match Nat.ble 2 ah && rows.all jK with
  | true=>k (.flat true (rows.length+m) ah (iH (fun j=>rows.getD j []) rows.length news))
  | false=>xA news 0 m fun L=>sU rows L fun l=>k (.aO true ah l)
 | _,_=>False
def C0 (b:aj) (row n:Nat) (s:Src) (k:aj→Prop):Prop :=
 match b,s with
 | .flat _ _ ah get,.fl m news=>k (.flat true (n+m) ah (iH (fun j=>get (eZ row j)) n news))
 | .aO _ ah rows,.ex L=>sF rows row n fun L0=>sU L0 L fun l=>k (.aO true ah l)
 | .aO _ ah rows,.fl m news=>match Nat.ble 2 ah && rows.all jK with
  | true=>k (.flat true (n+m) ah (iH (fun j=>rows.getD (eZ row j) []) n news))
  | false=>sF rows row n fun L0=>xA news 0 m fun L=>sU L0 L fun l=>k (.aO true ah l)
 | _,_=>False
structure Ext (b':aj) (ah:Nat) (g:Nat→List Value) (n:Nat) (h:Nat→List Value) (m:Nat) (fl:Bool):Prop where
 own:b'.oh=true
 ah:b'.ah=ah
 num:b'.n=n+m
 row:∀ r,r < n+m→b'.row r=iH g n h r
 flat:b'.iY=true→fl=true
theorem R4 {l m:List (List Value)} {r:Nat} (h:r < l.length):(l++m).getD r []=l.getD r []:=by
 simp [List.getD,List.getElem?_append_left h]
theorem R5 {l m:List (List Value)} {r:Nat} (h:l.length≤r):(l++m).getD r []=m.getD (r - l.length) []:=by
 simp [List.getD,List.getElem?_append_right h]
theorem BR {ah:Nat} {L0 L:List (List Value)} {g h:Nat→List Value} {n m:Nat} (h0:L0.length=n) (h1:L.length=m) (hg:∀ r,r < n→L0.getD r []=g r) (hh:∀ r,r < m→L.getD r []=h r) (fl:Bool) :
  Ext (.aO true ah (L0++L)) ah g n h m fl:=by
 refine ⟨rfl,rfl,by simp [aj.n,h0,h1],fun r hr=>?_,fun h=>by simp [aj.iY] at h⟩
 show (L0++L).getD r []=_
 by_cases an:r < n
 ·rw [R4 (by omega),jn an,hg r an]
 ·rw [R5 (by omega),gp (by omega),h0,hh _ (by omega)]
theorem A9 {b:aj} {s:Src} {k:aj→Prop} (h:wZ b s k):∃ b',k b'∧b.oh=true∧Ext b' b.ah b.row b.n s.get s.m (b.pD && s.kC):=by
 cases b with
 | flat o n e g =>
  cases o with
  | false=>cases s <;> exact h.elim
  | true =>
   cases s with
   | fl m news=>exact ⟨_,h,rfl,rfl,rfl,rfl,fun r _=>rfl,fun _=>rfl⟩
   | ex L=>exact h.elim
 | aO o e rows =>
  cases o with
  | false=>cases s <;> exact h.elim
  | true =>
   cases s with
   | fl m news =>
    have h:match Nat.ble 2 e && rows.all jK with
     | true=>k (.flat true (rows.length+m) e (iH (fun j=>rows.getD j []) rows.length news))
     | false=>xA news 0 m fun L=>sU rows L fun l=>k (.aO true e l):=h
    split at h
    ·rename_i hs;rw [Bool.and_eq_true] at hs;exact ⟨_,h,rfl,rfl,rfl,rfl,fun r _=>rfl,fun _=>by show (rows.all jK && true)=true; rw [hs.2]; rfl⟩
    obtain ⟨L,h,h1,J⟩:=Fa h;have h:=yD h;exact ⟨_,h,rfl,BR rfl h1 (fun _ _=>rfl) (fun r hr=>by rw [J r hr]; simp [Src.get]) _⟩
   | ex L =>
    have h:=yD h;exact ⟨_,h,rfl,BR rfl rfl (fun _ _=>rfl) (fun r hr=>rfl) _⟩
 | cg r=>cases s <;> exact h.elim
theorem Lj {b:aj} {row n:Nat} {s:Src} {k:aj→Prop} (h:C0 b row n s k):∃ b',k b'∧Ext b' b.ah (fun j=>b.row (row+j)) n s.get s.m (b.pD && s.kC):=by
 cases b with
 | flat o N e g =>
  cases s with
  | fl m news=>exact ⟨_,h,rfl,rfl,rfl,fun r hr=>by simp [aj.row,ay,Src.get,Src.m],fun _=>rfl⟩
  | ex L=>exact h.elim
 | aO o e rows =>
  have aZ:∀ (L0:List (List Value)),(L0.length=n∧row+n≤rows.length)→(∀ (j:Nat) v,L0[j]?=some v→rows[row+j]?=some v)→∀ r,r < n→L0.getD r []=(aj.aO o e rows).row (row+r):=by
   intro L0 h0 h1 r hr;have an:r < L0.length:=by omega
   have:=h1 r _ (List.getElem?_eq_getElem an);simp [aj.row,List.getD,this,List.getElem?_eq_getElem an]
  cases s with
  | fl m news =>
   have h:match Nat.ble 2 e && rows.all jK with
    | true=>k (.flat true (n+m) e (iH (fun j=>rows.getD (eZ row j) []) n news))
    | false=>sF rows row n fun L0=>xA news 0 m fun L=>sU L0 L fun l=>k (.aO true e l):=h
   split at h
   ·rename_i hs;rw [Bool.and_eq_true] at hs;exact ⟨_,h,rfl,rfl,rfl,fun r hr=>by simp [aj.row,ay,Src.get,Src.m],fun _=>by show (rows.all jK && true)=true; rw [hs.2]; rfl⟩
   obtain ⟨L0,h,h0,h3⟩:=yy h;obtain ⟨L,h,h1,J⟩:=Fa h;have h:=yD h;exact ⟨_,h,BR h0.1 h1 (aZ L0 h0 h3) (fun r hr=>by rw [J r hr]; simp [Src.get]) _⟩
  | ex L =>
   obtain ⟨L0,h,h0,h3⟩:=yy h;have h:=yD h;exact ⟨_,h,BR h0.1 rfl (aZ L0 h0 h3) (fun r hr=>rfl) _⟩
 | cg r=>cases s <;> exact h.elim
def jL (g:Nat→List Value) (q:Nat) (h:Nat→List Value) (m:Nat):Nat→List Value:=fun j=>bif Nat.blt j q then g j else bif Nat.blt j (q+m) then h (j - q) else g j
theorem Hx {a b:Nat} (h:b≤a):Nat.blt a b=false:=by
 cases e:Nat.blt a b with
 | false=>rfl
 | true=>rw [Nat.blt_eq] at e; omega
theorem Tl {g h:Nat→List Value} {q m j:Nat} (hj:j < q):jL g q h m j=g j:=by
 have:Nat.blt j q=true:=by rw [Nat.blt_eq]; exact hj
 simp [jL,this]
theorem Tm {g h:Nat→List Value} {q m j:Nat} (h1:q≤j) (J:j < q+m):jL g q h m j=h (j - q):=by
 have:Nat.blt j (q+m)=true:=by rw [Nat.blt_eq]; exact J
 simp [jL,this,Hx h1]
theorem Tn {g h:Nat→List Value} {q m j:Nat} (hj:q+m≤j):jL g q h m j=g j:=by
 simp [jL,Hx hj,Hx (show q≤j by omega)]
def Gv (E:Env) (tmps:List Value) (H:aA) (t:TypeId) (xv yv:Value) (k:Value→List Value→aA→Prop):Prop :=
 cN E.tt t fun ti=>match ti.kind with
  | .slice e=>cN E.tt e fun te=>zP H te.size yv fun s=>match xv with
   | .slice none 0 0=>match s.m with
    | 0=>k (.slice none 0 0) tmps H
    | m+1=>((m+1)*te.bytes≤140737488355328)∧jy H fun aI=>pB H (some (ph te.size s)) fun H'=>k (.slice (some ⟨aI,0,none⟩) (m+1) aM) tmps H'
   | .slice (some ⟨id,row,none⟩) n c=>gH H id fun b=>match Nat.beq b.ah te.size with
    | true=>match decide (c=aM) with
     | false=>br (Nat.ble (n+s.m) c)
      (row+n=b.n∧wZ b s fun b'=>jx H id (some b') fun H'=>k (.slice (some ⟨id,row,none⟩) (n+s.m) c) tmps H')
      ((row+n≤b.n∧(n+s.m)*te.bytes≤140737488355328)∧C0 b row n s fun b'=>jy H fun aI=>pB H (some b') fun H'=>k (.slice (some ⟨aI,0,none⟩) (n+s.m) aM) tmps H')
     | true=>match E.iu with
      | true=>match row with
       | 0=>(E.base≤id∧(n≤b.n∧b.oh=true)∧(n+s.m)*te.bytes≤140737488355328)∧C0 b 0 n s fun b1=>zu id b1 fun b'=>∃ aa,∀ a:Nat→Value,uQ a id aa 0 tmps fun zv=>xz id H fun H1=>jx H1 id (some b') fun H'=>k (.slice (some ⟨id,0,none⟩) (n+s.m) aM) zv H'
       | _=>False
      | false=>match Nat.ble E.base id with
       | true=>match row with
        | 0=>(E.base≤id∧n=b.n∧(n+s.m)*te.bytes≤140737488355328)∧wZ b s fun b1=>zu id b1 fun b'=>∃ aa,∀ a:Nat→Value,uQ a id aa 0 tmps fun zv=>xz id H fun H1=>jx H1 id (some b') fun H'=>k (.slice (some ⟨id,0,none⟩) (n+s.m) aM) zv H'
        | _=>False
       | false=>match row with
        | 0=>(n=b.n∧(n+s.m)*te.bytes≤140737488355328)∧wZ b s fun b'=>jx H id none fun H1=>jy H1 fun aI=>pB H1 (some b') fun H'=>k (.slice (some ⟨aI,0,none⟩) (n+s.m) aM) tmps H'
        | _=>False
    | false=>False
   | .slice (some ⟨id,row,some b0⟩) n c=>gH H id fun b=>match Nat.beq b.ah te.size with
    | true=>match b,s with
     | .flat true N ah get,.fl m news=>(n+m≤b0∧row+(n+m)≤N)∧jx H id (some (.flat true N ah (jL get (eZ row n) news m))) fun H'=>k (.slice (some ⟨id,row,some b0⟩) (n+m) c) tmps H'
     | _,_=>False
    | false=>False
   | _=>False
  | _=>False
def OE (E:Env) (tmps:List Value) (H:aA) (t:TypeId) (x:Operand) (k:aA→Prop):Prop :=
 bX tmps x fun xv=>cN E.tt t fun ti=>match ti.kind with
  | .slice e=>cN E.tt e fun te=>match xv with
   | .slice (some ⟨id,row,_⟩) n _=>gH H id fun b=>match Nat.beq b.ah te.size with
    | true=>match b with
     | .flat true N ah get=>(row+n≤N∧mP te.zero=true)∧jx H id (some (.flat true N ah (jL get row (fun _=>te.zero) n))) k
     | _=>False
    | false=>False
   | _=>False
  | _=>False
def Gw (E:Env) (H:aA) (t:TypeId) (xv yv:Value) (k:Value→aA→Prop):Prop :=
 cN E.tt t fun ti=>match ti.kind with
  | .slice e=>cN E.tt e fun te=>zP H te.size yv fun s=>match s,xv with
   | .fl m news,.slice (some ⟨id,row,_⟩) n _=>gH H id fun b=>match Nat.beq b.ah te.size with
    | true=>match b with
     | .flat true N ah get=>row+n≤N∧jx H id (some (.flat true N ah (jL get row news (Nat.min m n)))) fun H'=>k (.int .i64 (Nat.min m n)) H'
     | _=>False
    | false=>False
   | _,_=>False
  | _=>False
def NO (E:Env) (tmps:List Value) (H:aA) (t:TypeId) (x y:Operand) (k:Value→List Value→aA→Prop):Prop :=
 bX tmps x fun xv=>bX tmps y fun yv=>Gv E tmps H t xv yv k
def BS:Value→Bool
 | .slice (some _) _ c=>!decide (c=aM)
 | _=>true
section
variable {P:Program} {E:Env} {F:Fr}
theorem EB (z:Array Value) (n:Nat):(Builtin.zeroCells z n).size=n*z.size:=by simp [Builtin.zeroCells]
theorem SM {O L:List Value} {z:Value} {k q:Nat} (hq:q < (O++L).length):((O++L).toArray++Builtin.zeroCells z.cells k)[q]?=(O++L)[q]?:=by
 rw [Array.getElem?_append_left (by simpa using hq)]
 simp
theorem bQ.extend {ν:Nu} {l:Loc} {b b':aj} {w:World} (hB:bQ ν l b w) (ho:b.oh=true) {n m:Nat} (bJ:n≤b.n) {news:Nat→List Value} {L:List Value} {fl:Bool}
  (hC:CR ν b.ah news m L) (hx:Ext b' b.ah b.row n news m fl) (tb:fl=true→(∀ r,r < b.n→∀ v∈b.row r,cJ v=true)∧∀ r,r < m→∀ v∈news r,cJ v=true) (fL:n+m≤l.cap) :
  (storeCells (l.at n 0) L).run P w=.ok () (w.setCells l.aJ (l.base+n*l.ah) L)∧bQ ν l b' (w.setCells l.aJ (l.base+n*l.ah) L):=by
 obtain ⟨cur,t,jU,ba,_⟩:=hB.own (aj.cZ ho).1 (aj.cZ ho).2;have he:=hB.ah;have xS:l.base+n*l.ah+L.length≤cur.size:=by
  rw [hC.len,he];have:(n+m)*b.ah≤l.cap*b.ah:=Nat.mul_le_mul_right _ fL;rw [Nat.add_mul] at this;rw [he] at ba;omega
 have sG:∀ j,j < L.length→(w.cell? ⟨l.aJ,l.base+n*l.ah+j,none⟩).isSome=true:=by
  intro j hj;simp only [World.cell?];rw [jU];simp;omega
 refine ⟨?_,?_⟩
 ·have:=run_storeCells_cells (P:=P) l.aJ (l.base+n*l.ah) L 0 w (by simpa using sG) (fun j hj=>by simp [World.frozen?,jU]) hC.one
  simpa [Loc.at] using this
 ·obtain ⟨pI,J,h3⟩:=A5 l.aJ L (l.base+n*l.ah) w cur t jU;refine ⟨by rw [hx.ah]; exact he,fun r hr=>?_,fun r hr j v hv=>?_,fun h r hr v hv=>?_,fun r hr v hv=>?_,fun _ _=>⟨pI,t,J,by rw [h3]; exact ba,by rw [hx.num]; exact fL⟩,(fun r h=>by rw [(aj.cZ hx.own).2] at h; cases h),by rw [oW]; exact hB.live⟩
  ·rw [hx.num] at hr;rw [hx.row r hr,hx.ah];by_cases h:r < n
   ·rw [jn h]; exact hB.len r (by omega)
   ·rw [gp (by omega)]; exact hC.row _ (by omega)
  ·rw [hx.num] at hr;rw [hx.row r hr] at hv;by_cases h:r < n
   ·rw [jn h] at hv;obtain ⟨v',h4,h5⟩:=hB.cell r (by omega) j v hv
    have hj:j < b.ah:=by rw [← hB.len r (by omega)]; exact (List.getElem?_eq_some_iff.1 hv).1
    refine ⟨v',?_,h5⟩;rw [World.cell?_setCells_out l.aJ _ _ _ _ (fun _ _=>?_)]
    ·exact h4
    ·left
     simp only [Loc.at,he];have:(r+1)*b.ah≤n*b.ah:=Nat.mul_le_mul_right _ h;rw [Nat.add_mul] at this; omega
   ·rw [gp (by omega)] at hv
    obtain ⟨v',h4,h5⟩:=hC.cell (r - n) (by omega) j v hv
    have an:=(List.getElem?_eq_some_iff.1 h4).1;refine ⟨v',?_,h5⟩;have:=World.cell?_setCells_in l.aJ L (l.base+n*l.ah) w sG _ an;have e:l.at r j=⟨l.aJ,l.base+n*l.ah+((r - n)*b.ah+j),none⟩:=by
     unfold Loc.at
     congr 1
     rw [he];have:r*b.ah=n*b.ah+(r - n)*b.ah:=by rw [← Nat.add_mul]; congr 1; omega
     omega
    rw [e,this,← h4,List.getElem?_eq_getElem an]
  ·rw [hx.num] at hr;rw [hx.row r hr] at hv;obtain ⟨h6,h7⟩:=tb (hx.flat h);by_cases h:r < n
   ·rw [jn h] at hv; exact h6 r (by omega) v hv
   ·rw [gp (by omega)] at hv; exact h7 _ (by omega) v hv
  ·rw [hx.num] at hr;rw [hx.row r hr] at hv;by_cases h:r < n
   ·rw [jn h] at hv; exact hB.one r (by omega) v hv
   ·rw [gp (by omega)] at hv; exact hC.sT _ (by omega) v hv
theorem Kept.setCells {O:Nat→Prop} {W w:World} (h:Kept O W w) {b:Nat} (hb:O b∨W.heap.size≤b) (o:Nat) (L:List Value):Kept O W (w.setCells b o L):=by
 obtain ⟨o1,o2,o3⟩:=wc b L o w;refine ⟨o1.trans h.os,o2.trans h.tape,o3.trans h.output,by rw [oW]; exact h.size,fun q h1 J=>?_⟩
 rw [rM]
 ·exact h.aJ q h1 J
 ·intro e;subst e;rcases hb with h' | h'
  ·exact J h'
  ·omega
theorem wk {ν:Nu} {ah n m:Nat} {g h:Nat→List Value} {O L:List Value} {b':aj} {fl:Bool} (hO:CR ν ah g n O) (hC:CR ν ah h m L) (hx:Ext b' ah g n h m fl)
  (tb:fl=true→(∀ r,r < n→∀ v∈g r,cJ v=true)∧∀ r,r < m→∀ v∈h r,cJ v=true) {w:World} {z:Value} (hz:z.cells.size=ah) {iQ:Nat} {e:TypeId} :
  bQ ν ⟨w.heap.size,0,ah,grownCap w (n+m) iQ e⟩ b' (w.drew.alloc (uc (O++L).toArray z (grownCap w (n+m) iQ e - (n+m)) e)):=by
 have eF:=grownCap_ge w (n+m) iQ e;have QO:=hO.append hC;refine Xo QO hx.row hx.num hx.ah (fun hf r hr v hv=>?_) (C:=(O++L).toArray++Builtin.zeroCells z.cells (grownCap w (n+m) iQ e - (n+m))) (t:=e) ?_ (fun q hq=>SM hq) eF ?_ (aj.cZ hx.own).2
 ·obtain ⟨h1,J⟩:=tb (hx.flat hf);by_cases h:r < n
  ·rw [jn h] at hv; exact h1 r h v hv
  ·rw [gp (by omega)] at hv; exact J _ (by omega) v hv
 ·show (w.heap.push _)[w.heap.size]?=_
  simp [uc]
 ·rw [Array.size_append,EB,hz];simp only [List.size_toArray];rw [QO.len,← Nat.add_mul];apply Nat.le_of_eq
  congr 1
  omega
theorem we (w:World) (C:Array Value) (z:Value) (k:Nat) (e:TypeId):Below w.heap.size w (w.drew.alloc (uc C z k e)):=((Below.refl _ w).drew).alloc (Nat.le_refl _) _
theorem bQ.iu {ν:Nu} {l:Loc} {N ah:Nat} {get:Nat→List Value} {w:World} (hB:bQ ν l (.flat true N ah get) w) {q m:Nat} (hq:q+m≤N) {news:Nat→List Value} {L:List Value}
  (hC:CR ν ah news m L) (hs:∀ r,r < m→∀ v∈news r,cJ v=true) :
  (storeCells (l.at q 0) L).run P w=.ok () (w.setCells l.aJ (l.base+q*l.ah) L)∧bQ ν l (.flat true N ah (jL get q news m)) (w.setCells l.aJ (l.base+q*l.ah) L):=by
 obtain ⟨cur,t,jU,ba,fL⟩:=hB.own rfl rfl;have fL:N≤l.cap:=fL;have he:l.ah=ah:=hB.ah;have xS:l.base+q*l.ah+L.length≤cur.size:=by
  rw [hC.len,he];have:(q+m)*ah≤l.cap*ah:=Nat.mul_le_mul_right _ (by omega)
  rw [Nat.add_mul] at this;rw [he] at ba;omega
 have sG:∀ j,j < L.length→(w.cell? ⟨l.aJ,l.base+q*l.ah+j,none⟩).isSome=true:=by
  intro j hj;simp only [World.cell?];rw [jU];simp;omega
 refine ⟨?_,?_⟩
 ·have:=run_storeCells_cells (P:=P) l.aJ (l.base+q*l.ah) L 0 w (by simpa using sG) (fun j hj=>by simp [World.frozen?,jU]) hC.one
  simpa [Loc.at] using this
 ·obtain ⟨pI,J,h3⟩:=A5 l.aJ L (l.base+q*l.ah) w cur t jU;have rows:∀ r,r < N→(jL get q news m r=get r∧(r < q∨q+m≤r))∨(jL get q news m r=news (r - q)∧q≤r∧r < q+m):=fun r _=>by
   by_cases h:r < q
   ·exact .inl ⟨Tl h,.inl h⟩
   ·by_cases h':r < q+m
    ·exact .inr ⟨Tm (by omega) h',by omega,h'⟩
    ·exact .inl ⟨Tn (by omega),.inr (by omega)⟩
  refine ⟨he,fun r hr=>?_,fun r hr j v hv=>?_,fun _ r hr v hv=>?_,fun r hr v hv=>?_,fun _ _=>⟨pI,t,J,by rw [h3]; exact ba,fL⟩,(fun r h=>by cases h),by rw [oW]; exact hB.live⟩
  ·have hr:r < N:=hr;show (jL get q news m r).length=ah
   rcases rows r hr with ⟨e,_⟩ | ⟨e,h1,J⟩
   ·rw [e]; exact hB.len r hr
   ·rw [e]; exact hC.row _ (by omega)
  ·have hr:r < N:=hr;have hv:(jL get q news m r)[j]?=some v:=hv;rcases rows r hr with ⟨e,h1⟩ | ⟨e,h1,J⟩
   ·rw [e] at hv;obtain ⟨v',h4,h5⟩:=hB.cell r hr j v hv;have hj:j < ah:=by have e':(get r).length=ah:=hB.len r hr; rw [← e']; exact (List.getElem?_eq_some_iff.1 hv).1
    refine ⟨v',?_,h5⟩;rw [World.cell?_setCells_out l.aJ _ _ _ _ (fun _ _=>?_)]
    ·exact h4
    ·rcases h1 with h | h
     ·left
      simp only [Loc.at,he];have:(r+1)*ah≤q*ah:=Nat.mul_le_mul_right _ h;rw [Nat.add_mul] at this; omega
     ·right
      simp only [Loc.at,he,hC.len];have:(q+m)*ah≤r*ah:=Nat.mul_le_mul_right _ h;rw [Nat.add_mul] at this; omega
   ·rw [e] at hv;obtain ⟨v',h4,h5⟩:=hC.cell (r - q) (by omega) j v hv
    have an:=(List.getElem?_eq_some_iff.1 h4).1;refine ⟨v',?_,h5⟩;have:=World.cell?_setCells_in l.aJ L (l.base+q*l.ah) w sG _ an;have e:l.at r j=⟨l.aJ,l.base+q*l.ah+((r - q)*ah+j),none⟩:=by
     unfold Loc.at
     congr 1
     rw [he];have:r*ah=q*ah+(r - q)*ah:=by rw [← Nat.add_mul]; congr 1; omega
     omega
    rw [e,this,← h4,List.getElem?_eq_getElem an]
  ·have hr:r < N:=hr;have hv:v∈jL get q news m r:=hv;rcases rows r hr with ⟨e,_⟩ | ⟨e,h1,J⟩
   ·rw [e] at hv; exact hB.plain rfl r hr v hv
   ·rw [e] at hv; exact hs _ (by omega) v hv
  ·have hr:r < N:=hr;have hv:v∈jL get q news m r:=hv;rcases rows r hr with ⟨e,_⟩ | ⟨e,h1,J⟩
   ·rw [e] at hv; exact hB.one r hr v hv
   ·rw [e] at hv; exact hC.sT _ (by omega) v hv
theorem bu.iu {ν:Nu} {tmps:List Value} {H:aA} {a:Act} {w:World} (hi:bu F ν tmps H a w) {id N ah:Nat} {get:Nat→List Value} (hb:H[id]?=some (some (.flat true N ah get))) {l:Loc} (hl:ν id=some l)
  {q m:Nat} (hq:q+m≤N) {news:Nat→List Value} {L:List Value} (hC:CR ν ah news m L) (hs:∀ r,r < m→∀ v∈news r,cJ v=true) :
  (storeCells (l.at q 0) L).run P w=.ok () (w.setCells l.aJ (l.base+q*l.ah) L)∧bu F ν tmps (H.set id (some (.flat true N ah (jL get q news m)))) a (w.setCells l.aJ (l.base+q*l.ah) L):=by
 obtain ⟨l0,eP,hB⟩:=hi.hp.aJ id _ hb;rw [hl] at eP; cases eP;obtain ⟨h1,iz⟩:=hB.iu (P:=P) hq hC hs;have an:id < H.length:=(List.getElem?_eq_some_iff.1 hb).1;have oj:∀ q',q'≠l.aJ→(w.setCells l.aJ (l.base+q*l.ah) L).heap[q']?=w.heap[q']?:=fun q' I8=>rM _ _ _ _ _ I8
 have pS:w.heap.size≤(w.setCells l.aJ (l.base+q*l.ah) L).heap.size:=by rw [oW]; exact Nat.le_refl _
 refine ⟨h1,hi.tm,(let ⟨_,_,uS,_⟩:=hB.own rfl rfl; hi.df.cT uS oj),?_,fun j hj=>hi.fr j (by simpa using hj),hi.kp.setCells (hi.own id _ l hb rfl hl) _ _,fun j bj lj hj oC c5=>?_,hi.mono⟩
 ·refine hi.hp.cT (id:=id) (fun _ _=>rfl) (fun j bj hj aE=>?_) (fun bj hj=>?_)
  ·rw [List.getElem?_set_ne (Ne.symm aE)] at hj;refine ⟨bj,hj,rfl,fun lj c5 ri=>ri.same (oj _ ?_) pS⟩
   exact Ne.symm (hi.hp.sep id j _ bj l lj hb hj (Ne.symm aE) rfl hl c5)
  ·rw [List.getElem?_set_self an] at hj;cases hj;exact ⟨l,hl,iz,fun j lj bj aE hj c5=>Ne.symm (hi.hp.sep id j _ bj l lj hb hj (Ne.symm aE) rfl hl c5)⟩
 ·by_cases e':j=id
  ·subst e'; rw [hl] at c5; cases c5; exact hi.own j _ l hb rfl hl
  ·rw [List.getElem?_set_ne (Ne.symm e')] at hj; exact hi.own j bj lj hj oC c5
theorem CR.acK {ν:Nu} {z:Value} {zs:List Value} (hz:z.cells=⟨zs⟩) (Hz:bf ν zs zs) (qS:∀ v∈zs,v.oneCell'=true) (h0:0 < zs.length) (n:Nat):CR ν zs.length (fun _=>zs) n (Builtin.zeroCells z.cells n).toList:=by
 have ba:z.cells.size=zs.length:=by rw [hz]; rfl
 have ld:∀ j,j < n*zs.length→(Builtin.zeroCells z.cells n)[j]?=zs[j % zs.length]?:=fun j hj=>by
  rw [Kn _ _ _ (by rw [ba]; exact hj) (by rw [ba]; exact h0),ba,hz]; simp
 refine ⟨by simp [EB,ba],fun _ _=>rfl,fun r hr j v hv=>?_,fun u hu=>?_,fun _ _ v hv=>qS v hv⟩
 ·have hj:=(List.getElem?_eq_some_iff.1 hv).1;have an:r*zs.length+j < n*zs.length:=by
   have:(r+1)*zs.length≤n*zs.length:=Nat.mul_le_mul_right _ hr;rw [Nat.add_mul] at this; omega
  refine ⟨v,?_,Hz.2 j v v hv hv⟩;rw [Array.getElem?_toList,ld _ an,Nat.mul_comm,Nat.mul_add_mod,Nat.mod_eq_of_lt hj]; exact hv
 ·obtain ⟨j,hj,rfl⟩:=List.getElem_of_mem hu;have gj:j < n*zs.length:=by simpa [EB,ba] using hj
  have h1:=ld j gj;rw [← Array.getElem?_toList,List.getElem?_eq_getElem hj] at h1;exact qS _ (List.mem_of_getElem? h1.symm)
theorem SN (hE:EnvOk P E) {ν:Nu} {tmps:List Value} {H:aA} {a:Act} {w:World} (hi:bu F ν tmps H a w) {t:TypeId} {x:Operand} {k:aA→Prop}
  (h:OE E tmps H t x k) (ty:TypeId):∃ H' w',k H'∧bu F ν tmps H' a w'∧(Builtin.clear_ #[t] ty #[a.eval x]).run P w=.ok (.tuple #[]) w':=by
 obtain ⟨xv,J,hx⟩:=kQ h (hi.mJ x);clear h;obtain ⟨ti,ht,h⟩:=cR J;clear J;obtain ⟨d,hu,hd⟩:=(hE.ty _ _ ht).under
 split at h
 ·rename_i e hk;rw [hk] at hd;have hd:d=.slice e:=hd;subst hd;obtain ⟨te,he,J⟩:=cR h;clear h;have bd:=hE.ty _ _ he
  split at J
  ·rename_i id row sp n c;obtain ⟨b,hb,h⟩:=gA J;clear J
   split at h
   ·rename_i dt;have dt:b.ah=te.size:=Nat.eq_of_beq_eq_true dt
    split at h
    ·rename_i N ah get _;have dt:ah=te.size:=dt;obtain ⟨⟨hN,c4⟩,h⟩:=h;obtain ⟨an,h⟩:=mC h;obtain ⟨l,hl,hB⟩:=hi.hp.aJ id _ hb;obtain ⟨i,iM,gz,nM,z,hz,iy⟩:=bd.info;have x7:=CR.acK (ν:=ν) iy (bd.self ν) bd.one (by rw [bd.len]; exact bd.bit.1) n
     rw [bd.len,← dt] at x7;have hsc:∀ r,r < n→∀ v∈te.zero,cJ v=true:=fun _ _ v hv=>dD c4 v hv
     have xB:n=0∨(0 < n∧∃ c',a.eval x=.slice (some (l.at row 0)) n c'):=by
      rcases hx.CB with ⟨l',c',cE,_,_,e⟩ | ⟨h0,_⟩
      ·rw [hl] at cE; cases cE;rcases Nat.eq_zero_or_pos n with h | h
       ·exact .inl h
       ·exact .inr ⟨h,c',e⟩
      ·exact .inl h0
     rcases xB with h0 | ⟨lX,c',cm⟩
     ·subst h0;have:=(hi.iu (P:=P) hb hl (q:=row) (m:=0) hN (CR.nil _ _ (fun _=>te.zero)) (fun r hr=>absurd hr (by omega))).2
      refine ⟨_,w,h,this,?_⟩;have:∃ o,a.eval x=.slice o 0 0∨∃ c',a.eval x=.slice o 0 c':=by
       rcases hx.CB with ⟨l',c',_,_,_,e⟩ | ⟨_,bb,e⟩
       ·exact ⟨_,.inr ⟨_,e⟩⟩
       ·exact ⟨_,.inl e⟩
      obtain ⟨o,e | ⟨c',e⟩⟩:=this <;> rw [e] <;> cases o <;> simp [Builtin.clear_,dB hu]
     ·obtain ⟨h1,J⟩:=hi.iu (P:=P) hb hl (q:=row) hN x7 hsc;refine ⟨_,_,h,J,?_⟩;obtain ⟨m,rfl⟩:∃ m,n=m+1:=⟨n - 1,by omega⟩
      rw [cm];simp [Builtin.clear_,dB hu,wa iM hz,h1]
    ·exact h.elim
   ·exact h.elim
  ·exact J.elim
 ·exact h.elim
theorem CR.pre {ν:Nu} {ah m q:Nat} {g:Nat→List Value} {L:List Value} (h:CR ν ah g m L) (hq:q≤m):CR ν ah g q (L.take (q*ah)):=by
 have hle:q*ah≤m*ah:=Nat.mul_le_mul_right _ hq;refine ⟨by rw [List.length_take,h.len]; omega,fun r hr=>h.row r (by omega),fun r hr j v hv=>?_,fun u hu=>h.one u (List.mem_of_mem_take hu),fun r hr=>h.sT r (by omega)⟩
 obtain ⟨v',h1,J⟩:=h.cell r (by omega) j v hv
 have hj:j < ah:=by rw [← h.row r (by omega)]; exact (List.getElem?_eq_some_iff.1 hv).1
 have:(r+1)*ah≤q*ah:=Nat.mul_le_mul_right _ hr;rw [Nat.add_mul] at this;exact ⟨v',by rw [List.getElem?_take_of_lt (by omega)]; exact h1,J⟩
theorem Lk (hE:EnvOk P E) {ν:Nu} {tmps:List Value} {H:aA} {a:Act} {w:World} (hi:bu F ν tmps H a w) {t:TypeId} {xv yv x' y':Value} {k:Value→aA→Prop} (hx:aq ν xv x') (hy:aq ν yv y')
  (h:Gw E H t xv yv k) (t2 ty:TypeId):∃ v H' w',k v H'∧aq ν v v∧bu F ν tmps H' a w'∧(Builtin.copy_ #[t,t2] ty #[x',y']).run P w=.ok v w':=by
 obtain ⟨ti,ht,J⟩:=cR h;clear h;obtain ⟨d,hu,hd⟩:=(hE.ty _ _ ht).under
 split at J
 ·rename_i e hk;rw [hk] at hd;have hd:d=.slice e:=hd;subst hd;obtain ⟨te,he,h⟩:=cR J;clear J;have bd:=hE.ty _ _ he;obtain ⟨i,iM,gz,nM,z,hz,iy⟩:=bd.info;obtain ⟨s,J,x8,hs⟩:=Fx h;clear h;obtain ⟨oy,cy,L,kJ,kK,hC,jX⟩:=hs ν w _ hi.hp hy;have qT:s.kC=true→∀ r,r < s.m→∀ v∈s.get r,cJ v=true:=fun h r hr v hv=>x8 h r hr ν w hi.hp v hv
  split at J
  ·rename_i m news id row sp n c;obtain ⟨b,hb,h⟩:=gA J;clear J
   split at h
   ·rename_i dt;have dt:b.ah=te.size:=Nat.eq_of_beq_eq_true dt
    split at h
    ·rename_i N ah get _;have dt:ah=te.size:=dt;obtain ⟨hN,h⟩:=h;obtain ⟨an,h⟩:=mC h;obtain ⟨l,hl,hB⟩:=hi.hp.aJ id _ hb;have Af:CR ν te.size news m L:=hC;have zQ:Nat.min m n≤m:=Nat.min_le_left _ _;have afd:Nat.min m n≤n:=Nat.min_le_right _ _;have I9:CR ν ah news (Nat.min m n) (L.take (Nat.min m n*te.size)):=by rw [dt]; exact Af.pre zQ
     obtain ⟨h1,h3⟩:=hi.iu (P:=P) hb hl (q:=row) (m:=Nat.min m n) (by omega) I9 (fun r hr=>qT rfl r (by show r < m; omega))
     have Al:y'=.slice oy m cy:=kJ;have hf:(Builtin.firstCells i.size (Nat.min m n) (.slice oy m cy)).run P w=.ok (L.take (Nat.min m n*te.size)).toArray w:=by
      cases oy with
      | none =>
       have kI:m=0:=kK rfl;subst kI;have:L=[]:=List.eq_nil_of_length_eq_zero (by rw [Af.len]; simp)
       subst this;rw [run_firstCells_none]; simp
      | some b0 =>
       refine run_firstCells_some (P:=P) w i.size (Nat.min m n) b0 m cy _ (by rw [gz]; exact (Af.pre zQ).len) fun j v hv=>jX b0 rfl j v ?_
       have:=(List.getElem?_eq_some_iff.1 hv).1;rw [List.length_take] at this;rw [List.getElem?_take_of_lt (by omega)] at hv
       exact hv
     rcases hx.CB with ⟨l',c',cE,_,_,e⟩ | ⟨h0,bb,e⟩
     ·rw [hl] at cE; cases cE;refine ⟨_,_,_,h,.int _ _,h3,?_⟩;rw [e,Al];simp [Builtin.copy_,dB hu,Builtin.lenOf,sizeOf,typeInfo,iM,hf,h1]
      rfl
     ·subst h0;have hq:Nat.min m 0=0:=Nat.min_zero m;have h4:=(hi.iu (P:=P) hb hl (q:=row) (m:=Nat.min m 0) (news:=news) (L:=[]) (by omega) (by rw [hq]; exact CR.nil _ _ _) (fun r hr=>absurd hr (by omega))).2
      refine ⟨_,_,w,h,.int _ _,h4,?_⟩;rw [e,Al];rw [hq,Nat.zero_mul,List.take_zero] at hf;cases bb <;> simp [Builtin.copy_,dB hu,Builtin.lenOf,sizeOf,typeInfo,iM,hq,hf] <;> rfl
    ·exact h.elim
   ·exact h.elim
  ·exact J.elim
 ·exact J.elim
theorem KT (hE:EnvOk P E) (bN:lz F E) {ν:Nu} {tmps:List Value} {H:aA} {a:Act} {w:World} (hi:bu F ν tmps H a w) {t:TypeId} {xv yv x' y':Value} {k:Value→List Value→aA→Prop}
  (hx:aq ν xv x') (hy:aq ν yv y') (h:Gv E tmps H t xv yv k) (ty:TypeId) :
  ∃ v v' al t' H' w',k v t' H'∧aq al v v'∧bu F al t' H' a w'∧(Builtin.append_ #[t,t] ty #[x',y']).run P w=.ok v' w'∧(BS xv=true→ν.le al):=by
 obtain ⟨ti,ht,J⟩:=cR h;clear h;obtain ⟨d,hu,hd⟩:=(hE.ty _ _ ht).under
 split at J
 ·rename_i e hk;rw [hk] at hd;have hd:d=.slice e:=hd;subst hd;obtain ⟨te,he,h⟩:=cR J;clear J;have bd:=hE.ty _ _ he;obtain ⟨i,iM,gz,nM,z,hz,iy⟩:=bd.info;obtain ⟨s,J,x8,hs⟩:=Fx h;clear h;obtain ⟨oy,cy,L,kJ,kK,hC,jX⟩:=hs ν w _ hi.hp hy;have hL:L.length=s.m*i.size:=by rw [gz]; exact hC.len
  have jA:z.cells.size=te.size:=by rw [iy]; simpa using bd.len
  have aek:=bd.bit;have small:∀ q,q*te.bytes≤140737488355328→q≤140737488355328:=fun q hq=>by
   have:q*1≤q*te.bytes:=Nat.mul_le_mul_left _ (by omega)
   omega
  have qT:s.kC=true→∀ r,r < s.m→∀ v∈s.get r,cJ v=true:=fun h r hr v hv=>x8 h r hr ν w hi.hp v hv
  split at J
  ·-- onto nil
   have hx:=hx.qi
   split at J
   ·rename_i hm;have x9:L=[]:=List.eq_nil_of_length_eq_zero (by rw [hL,hm]; simp)
    refine ⟨_,_,ν,_,_,w,J,.iL,hi,?_,fun _=>ν.le_refl⟩
    rw [hx,kJ];have:=rP (P:=P) (w:=w) (ty:=ty) hu iM (A:=none) (oy:=oy) (n:=0) (c:=0) (m:=s.m) (cy:=cy) (L:=L) hL jX kK (by omega) (w2:=w) (fun a ha=>by cases ha) (fun _=>rfl)
    rw [hm] at this ⊢
    simpa using this
   ·rename_i m hm;obtain ⟨hB,h⟩:=J;have h:=mD h;have bC:=A8 (P:=P) (w:=w) (ty:=ty) hu iM hz (A:=none) (oy:=oy) (n:=0) (c:=0) (m:=s.m) (cy:=cy) (O:=[]) (L:=L) (by simp) (fun a ha=>by cases ha) (fun _=>⟨rfl,rfl⟩) hL jX kK (by omega) (by omega) (by rw [nM,hm]; simpa using hB) (by have:=small _ hB; omega)
    have pJ:ν H.length=none:=hi.fr _ (Nat.le_refl _);have dQ:Ext (ph te.size s) te.size (fun _=>[]) 0 s.get s.m s.kC:=by
     cases s with
     | fl m g=>exact ⟨rfl,rfl,by simp [ph,aj.n,Src.m],fun r hr=>by rw [gp (by omega)]; rfl,fun _=>rfl⟩
     | ex L=>exact ⟨rfl,rfl,by simp [ph,aj.n,Src.m],fun r hr=>by rw [gp (by omega)]; rfl,fun h=>by simp [ph,aj.iY] at h⟩
    have x7:=hC.mono (Nu.kh (l:=⟨w.heap.size,0,te.size,grownCap w (0+s.m) 0 e⟩) pJ);have iz:=wk (CR.nil _ te.size (fun _=>[])) x7 dQ (fun h=>⟨fun r hr=>absurd hr (by omega),qT h⟩) (w:=w) jA (iQ:=0) (e:=e)
    have eF:=grownCap_ge w (0+s.m) 0 e;have cC:aq (ν.add H.length ⟨w.heap.size,0,te.size,grownCap w (0+s.m) 0 e⟩) (.slice (some ⟨H.length,0,none⟩) (m+1) aM) (.slice (some ⟨w.heap.size,0,none⟩) (0+s.m) (grownCap w (0+s.m) 0 e)):=by
     have:=aq.slice (ν:=ν.add H.length ⟨w.heap.size,0,te.size,grownCap w (0+s.m) 0 e⟩) H.length 0 (0+s.m) aM (grownCap w (0+s.m) 0 e) _ Nu.add_same (.inr rfl) eF (by simp)
     rw [show m+1=0+s.m by omega]
     simpa [Loc.at] using this
    have hq:=nh pJ iz (we w _ _ _ _) (Nat.le_refl _) cC;obtain ⟨H',h1,J⟩:=hi.quiet hq (k:=fun H'=>k _ tmps H') h
    refine ⟨_,_,_,_,_,_,h1,cC,J,?_,fun _=>Nu.kh pJ⟩
    rw [hx,kJ]
    simpa using bC
  ·rename_i id row n c;obtain ⟨b,hb,h⟩:=gA J;clear J;obtain ⟨l,hl,hB⟩:=hi.hp.aJ id b hb
   split at h
   ·rename_i dt;have dt:b.ah=te.size:=Nat.eq_of_beq_eq_true dt;rw [← dt] at hC jA
    -- what the slice may be
    have Ja:∃ A c',x'=.slice (some A) n c'∧n≤c'∧(c'=c∨c=aM)∧((A=l.at row 0∧row+c'≤l.cap)∨(n=0∧c'=0)):=by
     rcases hx.ua with ⟨l',c',cE,h1,J,h3,e⟩ | ⟨h1,J,bb,e⟩
     ·rw [hl] at cE; cases cE;exact ⟨_,c',e,J,h1,.inl ⟨rfl,h3⟩⟩
     ·exact ⟨bb,0,by rw [e,h1],by omega,J.imp (fun h=>h) (fun h=>h),.inr ⟨h1,rfl⟩⟩
    obtain ⟨A,c',cm,DS,lC,hA⟩:=Ja
    -- its cells
    have hold:row+n≤b.n→∃ O,CR ν b.ah (fun j=>b.row (row+j)) n O∧∀ (j:Nat) u,O[j]?=some u→w.cell? (A.add j)=some u:=by
     intro hle;rcases hA with ⟨rfl,_⟩ | ⟨h0,_⟩
     ·exact CR.G1 hB hle
     ·subst h0;exact ⟨[],CR.nil _ _ _,fun j u hu=>by simp at hu⟩
    have tg:b.pD=true→∀ r,r < b.n→∀ v∈b.row r,cJ v=true:=fun h r hr v hv=>by
     cases b with
     | flat o n e g=>exact hB.plain rfl r hr v hv
     | aO o e rows =>
      have h:rows.all jK=true:=h;have hr:r < rows.length:=hr;have hv:v∈rows.getD r []:=hv;rw [List.getD_eq_getElem?_getD,List.getElem?_eq_getElem hr] at hv;exact yp (List.all_eq_true.1 h _ (List.getElem_mem hr)) v hv
     | cg r=>cases h
    have mQ:(b.pD && s.kC)=true→(∀ r,r < b.n→∀ v∈b.row r,cJ v=true)∧∀ r,r < s.m→∀ v∈s.get r,cJ v=true:=fun h=>by
     rw [Bool.and_eq_true] at h; exact ⟨tg h.1,qT h.2⟩
    -- in its place
    have Gx:∀ b' (q:Nat),b.oh=true→Ext b' b.ah b.row q s.get s.m (b.pD && s.kC)→row+n=q→q≤b.n→n+s.m≤c'→∃ w2,(Builtin.append_ #[t,t] ty #[x',y']).run P w=.ok (.slice (some A) (n+s.m) c') w2 ∧
      bQ ν l b' w2∧Kept F.O F.W w2∧w.heap.size≤w2.heap.size∧∀ q,q≠l.aJ→w2.heap[q]?=w.heap[q]?:=by
     intro b' q ho dQ Am rj cS;rcases hA with ⟨rfl,fL⟩ | ⟨h0,oD⟩
     ·obtain ⟨h1,J⟩:=hB.extend (P:=P) ho rj hC dQ mQ (by omega)
      refine ⟨_,?_,J,hi.kp.setCells (hi.own id b l hb (aj.cZ ho).1 hl) _ _,by rw [oW]; exact Nat.le_refl _,fun q hq=>rM _ _ _ _ _ hq⟩
      rw [cm,kJ];refine rP (P:=P) hu iM hL jX kK cS (fun A' th=>?_) (fun h=>by cases h)
      cases th;have:(l.at row 0).add (n*i.size)=l.at q 0:=by
       rw [Loc.jM]; unfold Loc.at; congr 1;rw [hB.ah,← Am,Nat.add_mul,gz,dt]; omega
      rw [this]; exact h1
     ·have kI:s.m=0:=by omega
      have x9:L=[]:=List.eq_nil_of_length_eq_zero (by rw [hL,kI]; simp)
      refine ⟨w,?_,?_,hi.kp,Nat.le_refl _,fun _ _=>rfl⟩
      ·rw [cm,kJ];refine rP (P:=P) hu iM hL jX kK cS (fun A' th=>by rw [x9]; rfl) (fun h=>by cases h)
      ·have fV:b'.n=q:=by rw [dQ.num,kI]; rfl
       have aZ:∀ r,r < q→b'.row r=b.row r:=fun r hr=>by rw [dQ.row r (by omega),jn hr]
       exact ⟨by rw [dQ.ah]; exact hB.ah,fun r hr=>by rw [fV] at hr; rw [aZ r hr,dQ.ah]; exact hB.len r (by omega),
        fun r hr j v hv=>by rw [fV] at hr; rw [aZ r hr] at hv; exact hB.cell r (by omega) j v hv,
        fun h r hr v hv=>by rw [fV] at hr; rw [aZ r hr] at hv; exact (mQ (dQ.flat h)).1 r (by omega) v hv,
        fun r hr v hv=>by rw [fV] at hr; rw [aZ r hr] at hv; exact hB.one r (by omega) v hv,
        fun _ _=>by obtain ⟨cur,tt,q1,q2,q3⟩:=hB.own (aj.cZ ho).1 (aj.cZ ho).2; exact ⟨cur,tt,q1,q2,by rw [fV]; omega⟩,(fun r h=>by rw [(aj.cZ dQ.own).2] at h; cases h),hB.live⟩
    have PW:n+s.m≤c'→∀ al,al id=some l→aq al (.slice (some ⟨id,row,none⟩) (n+s.m) c) (.slice (some A) (n+s.m) c'):=by
     intro cS al cE;rcases hA with ⟨rfl,fL⟩ | ⟨h0,oD⟩
     ·exact .slice _ _ _ _ _ l cE lC cS fL
     ·have kI:s.m=0:=by omega
      subst oD;rw [h0,kI];exact .void _ _ _ _ lC
    have grow:(n+s.m)*te.bytes≤140737488355328→c' < n+s.m→∀ O,O.length=n*i.size→(∀ (j:Nat) u,O[j]?=some u→w.cell? (A.add j)=some u) →
      (Builtin.append_ #[t,t] ty #[x',y']).run P w=.ok (.slice (some ⟨w.heap.size,0,none⟩) (n+s.m) (grownCap w (n+s.m) c' e)) (w.drew.alloc (uc (O++L).toArray z (grownCap w (n+s.m) c' e - (n+s.m)) e)):=by
     intro hB cS O hO1 hO2;rw [cm,kJ];exact A8 (P:=P) (w:=w) (ty:=ty) hu iM hz hO1 (fun a ha=>by cases ha; exact hO2) (fun h=>by cases h) hL jX kK DS cS (by rw [nM]; exact hB) (small _ hB)
    -- a block that stays
    have DT:row+n=b.n→n+s.m≤c'→(wZ b s fun b'=>jx H id (some b') fun H'=>k (.slice (some ⟨id,row,none⟩) (n+s.m) c) tmps H') →
      ∃ v v' al t' H' w',k v t' H'∧aq al v v'∧bu F al t' H' a w'∧(Builtin.append_ #[t,t] ty #[x',y']).run P w=.ok v' w'∧ν.le al:=fun Am cS h=>by
     obtain ⟨b',h,ho,dQ⟩:=A9 h;obtain ⟨an,h⟩:=mC h;obtain ⟨w2,bC,iz,jC,pS,oj⟩:=Gx b' _ ho dQ Am (Nat.le_refl _) cS;refine ⟨_,_,ν,_,_,w2,h,PW cS ν hl,⟨hi.tm,(let ⟨_,_,uS,_⟩:=hB.own (aj.cZ ho).1 (aj.cZ ho).2; hi.df.cT uS oj),?_,fun j hj=>hi.fr j (by simpa using hj),jC,fun j bj lj hj oC c5=>?_,hi.mono⟩,bC,ν.le_refl⟩
     ·refine hi.hp.cT (id:=id) (fun _ _=>rfl) (fun j bj hj aE=>?_) (fun bj hj=>?_)
      ·rw [List.getElem?_set_ne (Ne.symm aE)] at hj;refine ⟨bj,hj,rfl,fun lj c5 ri=>ri.same (oj _ ?_) pS⟩
       exact Ne.symm (hi.hp.sep id j b bj l lj hb hj (Ne.symm aE) (aj.cZ ho).1 hl c5)
      ·rw [List.getElem?_set_self an] at hj;cases hj;exact ⟨l,hl,iz,fun j lj bj aE hj c5=>Ne.symm (hi.hp.sep id j b bj l lj hb hj (Ne.symm aE) (aj.cZ ho).1 hl c5)⟩
     ·by_cases e':j=id
      ·subst e'; rw [hl] at c5; cases c5; exact hi.own j b l hb (aj.cZ ho).1 hl
      ·rw [List.getElem?_set_ne (Ne.symm e')] at hj; exact hi.own j bj lj hj oC c5
    -- a new block
    have DU:row+n≤b.n→(n+s.m)*te.bytes≤140737488355328→c' < n+s.m→(C0 b row n s fun b'=>jy H fun aI=>pB H (some b') fun H'=>k (.slice (some ⟨aI,0,none⟩) (n+s.m) aM) tmps H') →
      ∃ v v' al t' H' w',k v t' H'∧aq al v v'∧bu F al t' H' a w'∧(Builtin.append_ #[t,t] ty #[x',y']).run P w=.ok v' w'∧ν.le al:=fun hle mi cS h=>by
     obtain ⟨b',h,dQ⟩:=Lj h;have h:=mD h;obtain ⟨O,hO,rk⟩:=hold hle;have bC:=grow mi cS O (by rw [hO.len,gz,dt]) rk
     have pJ:ν H.length=none:=hi.fr _ (Nat.le_refl _);have lf:=Nu.kh (l:=⟨w.heap.size,0,b.ah,grownCap w (n+s.m) c' e⟩) pJ;have iz:=wk (hO.mono lf) (hC.mono lf) dQ (fun h=>⟨fun r hr v hv=>(mQ h).1 (row+r) (by omega) v hv,(mQ h).2⟩) (w:=w) jA (iQ:=c') (e:=e)
     have eF:=grownCap_ge w (n+s.m) c' e;have cC:aq (ν.add H.length ⟨w.heap.size,0,b.ah,grownCap w (n+s.m) c' e⟩) (.slice (some ⟨H.length,0,none⟩) (n+s.m) aM) (.slice (some ⟨w.heap.size,0,none⟩) (n+s.m) (grownCap w (n+s.m) c' e)):=by
      have:=aq.slice (ν:=ν.add H.length ⟨w.heap.size,0,b.ah,grownCap w (n+s.m) c' e⟩) H.length 0 (n+s.m) aM (grownCap w (n+s.m) c' e) _ Nu.add_same (.inr rfl) eF (by simp)
      simpa [Loc.at] using this
     have hq:=nh pJ iz (we w _ _ _ _) (Nat.le_refl _) cC;obtain ⟨H',h1,J⟩:=hi.quiet hq (k:=fun H'=>k _ tmps H') h
     exact ⟨_,_,_,_,_,_,h1,cC,J,bC,lf⟩
    -- a block that is put in place of the old one
    have Ig:∀ b1:aj,b.oh=true→Ext b1 b.ah b.row n s.get s.m (b.pD && s.kC)→c=aM→row=0→E.base≤id→n≤b.n→(n+s.m)*te.bytes≤140737488355328 →
      (zu id b1 fun b'=>∃ aa,∀ a:Nat→Value,uQ a id aa 0 tmps fun zv=>xz id H fun H1=>jx H1 id (some b') fun H'=>k (.slice (some ⟨id,0,none⟩) (n+s.m) aM) zv H') →
      ∃ v v' al t' H' w',k v t' H'∧aq al v v'∧bu F al t' H' a w'∧(Builtin.append_ #[t,t] ty #[x',y']).run P w=.ok v' w':=fun b1 ho dQ fm acL C1 fV mi tj=>by
     subst acL;obtain ⟨b',h,ho1,QP⟩:=Lh tj;obtain ⟨aa,h⟩:=h;obtain ⟨af,Jb⟩:=NN hi.tm;obtain ⟨t',h,jD⟩:=E8 (h af) ν _ hi.tm (fun j y hy al=>by rw [Nat.zero_add]; exact Jb j y hy al)
     obtain ⟨H1,h,kH,DV⟩:=E9 h;obtain ⟨an,h⟩:=mC h;by_cases cS:n+s.m≤c'
     ·obtain ⟨w2,bC,iz,jC,pS,oj⟩:=Gx b1 _ ho dQ (Nat.zero_add n) fV cS;have iz:=QP ν ν l w2 (fun _ _=>rfl) iz
      have hv:=PW cS ν hl;rw [fm] at hv;refine ⟨_,_,ν,_,_,w2,h,hv,⟨jD ν (fun _ _=>rfl),(let ⟨_,_,uS,_⟩:=hB.own (aj.cZ ho).1 (aj.cZ ho).2; hi.df.cT uS oj),?_,fun j hj=>hi.fr j (by simpa [kH] using hj),jC,fun j bj lj hj oC c5=>?_,hi.mono⟩,bC⟩
      ·refine hi.hp.cT (id:=id) (fun _ _=>rfl) (fun j bj hj aE=>?_) (fun bj hj=>?_)
       ·rw [List.getElem?_set_ne (Ne.symm aE)] at hj;obtain ⟨b0,kL,vz,tj⟩:=DV j bj hj;refine ⟨b0,kL,vz,fun lj c5 ri=>tj ν ν lj w2 (fun _ _=>rfl) (ri.same (oj _ ?_) pS)⟩
        exact Ne.symm (hi.hp.sep id j b b0 l lj hb kL (Ne.symm aE) (aj.cZ ho).1 hl c5)
       ·rw [List.getElem?_set_self an] at hj;cases hj;exact ⟨l,hl,iz,fun j lj bj aE hj c5=>Ne.symm (hi.hp.sep id j b bj l lj hb hj (Ne.symm aE) (aj.cZ ho).1 hl c5)⟩
      ·by_cases e':j=id
       ·subst e'; rw [hl] at c5; cases c5; exact hi.own j b l hb (aj.cZ ho).1 hl
       ·rw [List.getElem?_set_ne (Ne.symm e')] at hj;obtain ⟨b0,kL,vz,_⟩:=DV j bj hj;exact hi.own j b0 lj kL (by rw [← vz]; exact oC) c5
     ·have cS:c' < n+s.m:=by omega
      obtain ⟨O,hO,rk⟩:=hold (by omega)
      have bC:=grow mi cS O (by rw [hO.len,gz,dt]) rk
      have eF:=grownCap_ge w (n+s.m) c' e;have gV:ν.off (ν.add id ⟨w.heap.size,0,b.ah,grownCap w (n+s.m) c' e⟩) id:=fun j hj=>Nu.iX hj
      have Ih:=we w (O++L).toArray z (grownCap w (n+s.m) c' e - (n+s.m)) e;have Jc:CR ν b.ah b.row n O:=hO.congr (fun r hr=>by simp)
      have iz:bQ ν ⟨w.heap.size,0,b.ah,grownCap w (n+s.m) c' e⟩ b1 _:=wk Jc hC dQ (fun h=>⟨fun r hr v hv=>(mQ h).1 r (by omega) v hv,(mQ h).2⟩) (w:=w) jA (iQ:=c') (e:=e)
      have hF:F.ν.le (ν.add id ⟨w.heap.size,0,b.ah,grownCap w (n+s.m) c' e⟩):=by
       intro j lj hj;have aE:j≠id:=by
        intro e';subst e';rw [F.fresh j (by have:=bN.n0; omega)] at hj
        cases hj
       rw [Nu.iX aE]; exact hi.mono j lj hj
      have cC:aq (ν.add id ⟨w.heap.size,0,b.ah,grownCap w (n+s.m) c' e⟩) (.slice (some ⟨id,0,none⟩) (n+s.m) aM) (.slice (some ⟨w.heap.size,0,none⟩) (n+s.m) (grownCap w (n+s.m) c' e)):=by
       have:=aq.slice (ν:=ν.add id ⟨w.heap.size,0,b.ah,grownCap w (n+s.m) c' e⟩) id 0 (n+s.m) aM (grownCap w (n+s.m) c' e) _ Nu.add_same (.inr rfl) eF (by simp)
       simpa [Loc.at] using this
      have qU:id < H.length:=by rw [← kH]; exact an
      refine ⟨_,_,ν.add id ⟨w.heap.size,0,b.ah,grownCap w (n+s.m) c' e⟩,_,_,_,h,cC,⟨jD _ gV,hi.df.below Ih,?_,fun j hj=>?_,hi.kp.below Ih,fun j bj lj hj oC c5=>?_,hF⟩,bC⟩
      ·refine hi.hp.cT (id:=id) gV (fun j bj hj aE=>?_) (fun bj hj=>?_)
       ·rw [List.getElem?_set_ne (Ne.symm aE)] at hj;obtain ⟨b0,kL,vz,tj⟩:=DV j bj hj;exact ⟨b0,kL,vz,fun lj c5 ri=>tj ν _ lj _ gV (ri.below Ih)⟩
       ·rw [List.getElem?_set_self an] at hj;cases hj;refine ⟨_,Nu.add_same,QP ν _ _ _ gV iz,fun j lj bj aE hj c5=>?_⟩
        obtain ⟨lj',e1,e2⟩:=hi.hp.aJ j bj hj;rw [c5] at e1; cases e1;have:=e2.live;simp only;omega
      ·have hj:H.length≤j:=by simpa [kH] using hj
       rw [Nu.iX (by omega)]; exact hi.fr j hj
      ·by_cases e':j=id
       ·subst e';rw [Nu.add_same] at c5;cases c5;exact .inr hi.kp.size
       ·rw [List.getElem?_set_ne (Ne.symm e')] at hj;obtain ⟨b0,kL,vz,_⟩:=DV j bj hj;rw [Nu.iX e'] at c5;exact hi.own j b0 lj kL (by rw [← vz]; exact oC) c5
    split at h
    ·rename_i fm;have fm:c≠aM:=of_decide_eq_false fm;have hc:c'=c:=lC.resolve_right fm;cases sS:Nat.ble (n+s.m) c with
     | true =>
      have cS:=Nat.le_of_ble_eq_true sS;obtain ⟨Am,h⟩:=Cf h sS;obtain ⟨v,v',al,t',H',w',h1,J,h3,h4,h5⟩:=DT Am (by omega) h
      exact ⟨v,v',al,t',H',w',h1,J,h3,h4,fun _=>h5⟩
     | false =>
      have cS:c < n+s.m:=by
       rcases Nat.lt_or_ge c (n+s.m) with h' | h'
       ·exact h'
       ·rw [Nat.ble_eq_true_of_le h'] at sS; cases sS
      obtain ⟨⟨hle,mi⟩,h⟩:=BP h sS;obtain ⟨v,v',al,t',H',w',h1,J,h3,h4,h5⟩:=DU hle mi (by omega) h
      exact ⟨v,v',al,t',H',w',h1,J,h3,h4,fun _=>h5⟩
    ·rename_i fm;have fm:c=aM:=of_decide_eq_true fm;have nx:BS (.slice (some ⟨id,row,none⟩) n c)=true→False:=fun hx=>by rw [fm] at hx; simp [BS] at hx
     split at h
     ·have An:row=0:=by
       cases row with
       | zero=>rfl
       | succ r=>exact h.elim
      clear DT DU;subst An;obtain ⟨⟨C1,⟨fV,ho⟩,mi⟩,h⟩:=h;obtain ⟨b1,h,dQ⟩:=Lj h;obtain ⟨v,v',al,t',H',w',h1,J,h3,h4⟩:=Ig b1 ho (by simpa using dQ) fm rfl C1 fV mi h
      exact ⟨v,v',al,t',H',w',h1,J,h3,h4,fun hx=>(nx hx).elim⟩
     ·split at h
      ·have An:row=0:=by
        cases row with
        | zero=>rfl
        | succ r=>exact h.elim
       clear DT DU;subst An;obtain ⟨⟨C1,fV,mi⟩,h⟩:=h;obtain ⟨b1,h,ho,dQ⟩:=A9 h;obtain ⟨v,v',al,t',H',w',h1,J,h3,h4⟩:=Ig b1 ho (by rw [fV]; exact dQ) fm rfl C1 (Nat.le_of_eq fV) mi h
       exact ⟨v,v',al,t',H',w',h1,J,h3,h4,fun hx=>(nx hx).elim⟩
      ·have An:row=0:=by
        cases row with
        | zero=>rfl
        | succ r=>exact h.elim
       clear DT DU Ig;subst An;obtain ⟨⟨fV,mi⟩,h⟩:=h;obtain ⟨b',h,ho,dQ⟩:=A9 h;obtain ⟨an,h⟩:=mC h;have h:=mD h;have fY:bu F ν tmps (H.set id none) a w:=by
        have hle:aA.le (H.set id none) H:=fun j bj hj=>by
         by_cases e':j=id
         ·subst e'; rw [List.getElem?_set_self an] at hj; cases hj
         ·rw [List.getElem?_set_ne (Ne.symm e')] at hj; exact hj
        exact ⟨hi.tm,hi.df,hi.hp.sD hle,fun j hj=>hi.fr j (by simpa using hj),hi.kp,fun j bj lj hj oC c5=>hi.own j bj lj (hle j bj hj) oC c5,hi.mono⟩
       have pJ:ν (H.set id none).length=none:=fY.fr _ (Nat.le_refl _);have iQ:∀ j bj,(H.set id none)[j]?=some (some bj)→j≠id∧H[j]?=some (some bj):=fun j bj hj=>by
        by_cases e':j=id
        ·subst e'; rw [List.getElem?_set_self an] at hj; cases hj
        ·rw [List.getElem?_set_ne (Ne.symm e')] at hj; exact ⟨e',hj⟩
       by_cases cS:n+s.m≤c'
       ·obtain ⟨w2,bC,iz,jC,pS,oj⟩:=Gx b' _ ho dQ (by rw [fV]; simp) (Nat.le_refl _) cS
        have h:=yw h;have lf:=Nu.kh (l:=l) pJ;have yZ:∀ j bj,(H.set id none++[some b'])[j]?=some (some bj)→(j < (H.set id none).length∧j≠id∧H[j]?=some (some bj))∨(j=(H.set id none).length∧bj=b'):=fun j bj hj=>by
         rw [List.getElem?_append] at hj
         split at hj
         ·rename_i Ii;exact .inl ⟨Ii,iQ j bj hj⟩
         ·rename_i eF;have:j - (H.set id none).length=0:=by
           rcases Nat.lt_or_ge (j - (H.set id none).length) 1 with h' | h'
           ·omega
           ·rw [List.getElem?_eq_none (by simpa using h')] at hj; cases hj
          rw [this] at hj;cases hj;exact .inr ⟨by omega,rfl⟩
        have hv:aq (ν.add (H.set id none).length l) (.slice (some ⟨(H.set id none).length,0,none⟩) (n+s.m) aM) (.slice (some A) (n+s.m) c'):=by
         rcases hA with ⟨rfl,fL⟩ | ⟨h0,oD⟩
         ·exact .slice _ _ _ _ _ l Nu.add_same (.inr rfl) cS fL
         ·have kI:s.m=0:=by omega
          subst oD;rw [h0,kI];exact .void _ _ _ _ (.inr rfl)
        refine ⟨_,_,ν.add (H.set id none).length l,_,_,w2,h,hv,⟨hi.tm.mono lf,(let ⟨_,_,uS,_⟩:=hB.own (aj.cZ ho).1 (aj.cZ ho).2; hi.df.cT uS oj),⟨fun j bj hj=>?_,fun i j bi bj li lj h1 J aE I7 e1 e2=>?_⟩,fun j hj=>?_,jC,fun j bj lj hj oC c5=>?_,Nu.le_trans hi.mono lf⟩,bC,fun hx=>(nx hx).elim⟩
        ·rcases yZ j bj hj with ⟨q1,q2,q3⟩ | ⟨q1,q2⟩
         ·obtain ⟨lj,e1,e2⟩:=hi.hp.aJ j bj q3;refine ⟨lj,lf _ _ e1,(e2.same (oj _ ?_) pS).mono lf⟩;exact Ne.symm (hi.hp.sep id j b bj l lj hb q3 (Ne.symm q2) (aj.cZ ho).1 hl e1)
         ·subst q1; subst q2;exact ⟨l,Nu.add_same,iz.mono lf⟩
        ·rcases yZ i bi h1 with ⟨q1,q2,q3⟩ | ⟨q1,q2⟩
         ·rw [Nu.iX (by omega)] at e1
          rcases yZ j bj J with ⟨p1,p2,p3⟩ | ⟨p1,p2⟩
          ·rw [Nu.iX (by omega)] at e2
           exact hi.hp.sep i j bi bj li lj q3 p3 aE I7 e1 e2
          ·subst p1;rw [Nu.add_same] at e2; cases e2;exact Ne.symm (hi.hp.sep id i b bi l li hb q3 (Ne.symm q2) (aj.cZ ho).1 hl e1)
         ·subst q1;rw [Nu.add_same] at e1; cases e1;rcases yZ j bj J with ⟨p1,p2,p3⟩ | ⟨p1,p2⟩
          ·rw [Nu.iX (by omega)] at e2
           exact hi.hp.sep id j b bj l lj hb p3 (Ne.symm p2) (aj.cZ ho).1 hl e2
          ·exact absurd p1.symm aE
        ·have hj:H.length+1≤j:=by simpa using hj
         rw [Nu.iX (by simp; omega)]; exact hi.fr j (by omega)
        ·rcases yZ j bj hj with ⟨q1,q2,q3⟩ | ⟨q1,q2⟩
         ·rw [Nu.iX (by omega)] at c5
          exact hi.own j bj lj q3 oC c5
         ·subst q1;rw [Nu.add_same] at c5; cases c5;exact hi.own id b l hb (aj.cZ ho).1 hl
       ·obtain ⟨O,hO,rk⟩:=hold (by omega)
        have bC:=grow mi (by omega) O (by rw [hO.len,gz,dt]) rk
        have lf:=Nu.kh (l:=⟨w.heap.size,0,b.ah,grownCap w (n+s.m) c' e⟩) pJ;have Jc:CR ν b.ah b.row n O:=hO.congr (fun r hr=>by simp)
        have Ij:Ext b' b.ah b.row n s.get s.m (b.pD && s.kC):=by rw [fV]; exact dQ
        have iz:=wk (Jc.mono lf) (hC.mono lf) Ij (fun h=>⟨fun r hr v hv=>(mQ h).1 r (by omega) v hv,(mQ h).2⟩) (w:=w) jA (iQ:=c') (e:=e)
        have eF:=grownCap_ge w (n+s.m) c' e;have cC:aq (ν.add (H.set id none).length ⟨w.heap.size,0,b.ah,grownCap w (n+s.m) c' e⟩) (.slice (some ⟨(H.set id none).length,0,none⟩) (n+s.m) aM) (.slice (some ⟨w.heap.size,0,none⟩) (n+s.m) (grownCap w (n+s.m) c' e)):=by
         have:=aq.slice (ν:=ν.add (H.set id none).length ⟨w.heap.size,0,b.ah,grownCap w (n+s.m) c' e⟩) (H.set id none).length 0 (n+s.m) aM (grownCap w (n+s.m) c' e) _ Nu.add_same (.inr rfl) eF (by simp)
         simpa [Loc.at] using this
        have hq:=nh pJ iz (we w _ _ _ _) (Nat.le_refl _) cC;obtain ⟨H',h1,J⟩:=fY.quiet hq (k:=fun H'=>k _ tmps H') h
        exact ⟨_,_,_,_,_,_,h1,cC,J,bC,fun hx=>(nx hx).elim⟩
   ·exact h.elim
  ·rename_i id row b0 n c;obtain ⟨b,hb,h⟩:=gA J;clear J
   split at h
   ·rename_i dt;have dt:b.ah=te.size:=Nat.eq_of_beq_eq_true dt
    split at h
    ·rename_i N ah get m news _;have dt:ah=te.size:=dt;obtain ⟨⟨jk,hN⟩,h⟩:=h;obtain ⟨an,h⟩:=mC h;obtain ⟨l,hl,hB⟩:=hi.hp.aJ id _ hb;rw [ay] at h;have I9:CR ν ah news m L:=by rw [dt]; exact hC
     have vA:∀ r,r < m→∀ v∈news r,cJ v=true:=qT rfl;obtain ⟨h1,J⟩:=hi.iu (P:=P) hb hl (q:=row+n) (m:=m) (by omega) I9 vA
     have Al:y'=.slice oy m cy:=kJ;have Jd:L.length=m*i.size:=hL;have PX:oy=none→m=0:=kK;rcases hx.Xk with ⟨l',c',cE,h3,h4,h5,fm,e⟩ | ⟨h3,h4,fm,bb,e⟩
     ·rw [hl] at cE; cases cE;subst fm;refine ⟨_,_,ν,_,_,_,h,.mh _ _ _ _ c' l hl h3 (by omega) h5,J,?_,fun _=>ν.le_refl⟩
      rw [e,Al];refine rP (P:=P) hu iM Jd jX PX (by omega) (fun A' th=>?_) (fun h=>by cases h)
      cases th;have e2:(l.at row 0).add (n*i.size)=l.at (row+n) 0:=by
       rw [Loc.jM]; unfold Loc.at; congr 1;rw [show l.ah=ah from hB.ah,gz,Nat.add_mul,dt]; omega
      rw [e2]; exact h1
     ·have kI:m=0:=by omega
      subst fm;subst h3;subst kI;subst h4;have x9:L=[]:=List.eq_nil_of_length_eq_zero (by rw [Jd]; simp)
      subst x9;refine ⟨_,_,ν,_,_,w,h,.kZ _ _ bb,J,?_,fun _=>ν.le_refl⟩
      rw [e,Al];exact rP (P:=P) hu iM Jd jX PX (by omega) (fun A' th=>rfl) (fun h=>by cases h)
    ·exact h.elim
   ·exact h.elim
  ·exact J.elim
 ·exact J.elim
theorem Si (hE:EnvOk P E) (bN:lz F E) {ν:Nu} {tmps:List Value} {H:aA} {a:Act} {w:World} (hi:bu F ν tmps H a w) {t:TypeId} {x y:Operand} {k:Value→List Value→aA→Prop}
  (h:NO E tmps H t x y k) (ty:TypeId):∃ v v' al t' H' w',k v t' H'∧aq al v v'∧bu F al t' H' a w'∧(Builtin.append_ #[t,t] ty #[a.eval x,a.eval y]).run P w=.ok v' w':=by
 obtain ⟨xv,J,hx⟩:=kQ h (hi.mJ x);clear h;obtain ⟨yv,h,hy⟩:=kQ J (hi.mJ y);obtain ⟨v,v',al,t',H',w',h1,J,h3,h4,_⟩:=KT hE bN hi hx hy h ty;exact ⟨v,v',al,t',H',w',h1,J,h3,h4⟩
end
open Go Go.RowKit
def xT:List Nat→Nat→Nat→Option Nat
 | [],_,_=>none
 | a::l,id,k=>match Nat.beq a id with
  | true=>some k
  | false=>xT l id (k+1)
theorem Ma:∀ {l:List Nat} {id k j:Nat},xT l id k=some j→k≤j∧l[j - k]?=some id
 | [],id,k,j,h=>by cases h
 | a::l,id,k,j,h=>by
  unfold xT at h
  split at h
  ·rename_i e;cases h;exact ⟨Nat.le_refl _,by simp [Nat.eq_of_beq_eq_true e]⟩
  ·obtain ⟨h1,J⟩:=Ma h;refine ⟨by omega,?_⟩
   rw [show j - k=(j - (k+1))+1 by omega,List.getElem?_cons_succ]; exact J
def gW (σ:List Nat):Nat→Value→Option Value
 | 0,_=>none
 | k+1,v=>match v with
  | .bool b=>some (.bool b)
  | .int q n=>some (.int q n)
  | .string s=>some (.string s)
  | .pointer none=>some (.pointer none)
  | .pointer (some ⟨id,row,sp⟩)=>match xT σ id 0 with | some j=>some (.pointer (some ⟨j,row,sp⟩)) | none=>some (.chan none)
  | .slice none n c=>some (.slice none n c)
  | .slice (some ⟨id,row,sp⟩) n c=>match xT σ id 0 with | some j=>some (.slice (some ⟨j,row,sp⟩) n c) | none=>some (.chan none)
  | .nilFunc=>some .nilFunc
  | .chan none=>some (.chan none)
  | .agg ⟨l⟩=>match l.foldr (fun v acc=>match gW σ k v,acc with | some x,some xs=>some (x::xs) | _,_=>none) (some []) with | some l'=>some (.agg ⟨l'⟩) | none=>none
  | .tuple ⟨l⟩=>match l.foldr (fun v acc=>match gW σ k v,acc with | some x,some xs=>some (x::xs) | _,_=>none) (some []) with | some l'=>some (.tuple ⟨l'⟩) | none=>none
  | .func fn ⟨l⟩ ⟨m⟩=>match l.foldr (fun v acc=>match gW σ k v,acc with | some x,some xs=>some (x::xs) | _,_=>none) (some []),m.foldr (fun v acc=>match gW σ k v,acc with | some x,some xs=>some (x::xs) | _,_=>none) (some []) with
   | some l',some m'=>some (.func fn ⟨l'⟩ ⟨m'⟩) | _,_=>none
  | _=>none
def nH (σ:List Nat) (k:Nat) (l:List Value):Option (List Value):=l.foldr (fun v acc=>match gW σ k v,acc with | some x,some xs=>some (x::xs) | _,_=>none) (some [])
theorem Fy {σ:List Nat} {m:Nat} {x:Value} {xs l:List Value} (h:nH σ m (x::xs)=some l):∃ y ys,l=y::ys∧gW σ m x=some y∧nH σ m xs=some ys:=by
 unfold nH at h;rw [List.foldr_cons] at h
 split at h
 ·rename_i y ys h1 J;exact ⟨y,ys,(Option.some.inj h).symm,h1,J⟩
 ·cases h
theorem yH {σ:List Nat} {m:Nat} {ν al:Nu} (h:∀ v v2 r,gW σ m v=some v2→aq ν v r→aq al v2 r):∀ {xs l rs:List Value},nH σ m xs=some l→bf ν xs rs→bf al l rs
 | [],l,rs,h1,J=>by
  have:l=[]:=by simp [nH] at h1; exact h1
  rw [this,J.iW]; exact .nil _
 | x::xs,l,rs,h1,J=>by
  obtain ⟨y,ys,rfl,e1,e2⟩:=Fy h1;obtain ⟨r,cf,rfl,k1,k2⟩:=J.jr;exact .cons (h _ _ _ e1 k1) (yH h e2 k2)
theorem G3 {σ:List Nat} {id j:Nat} {ν:Nu} (h:xT σ id 0=some j):(ν.comp σ) j=ν id:=by
 have:=(Ma h).2;rw [Nat.sub_zero] at this;simp [Nu.comp,this]
theorem M0 {σ:List Nat} {ν:Nu}:∀ (m:Nat) (v v2 r:Value),gW σ m v=some v2→aq ν v r→aq (ν.comp σ) v2 r:=by
 intro m
 induction m with
 | zero=>intro v v2 r h; simp [gW] at h
 | succ m ih =>
  intro v v2 r h hr;cases hr with
  | bool b=>cases h; exact .bool b
  | int q n=>cases h; exact .int q n
  | str s=>cases h; exact .str s
  | mM=>cases h; exact .mM
  | ptr id row sp l hl =>
   unfold gW at h
   dsimp only at h
   split at h
   ·rename_i j hj;cases h;exact .ptr j row sp l (by rw [G3 hj]; exact hl)
   ·cases h; exact .dead _ rfl
  | iL=>cases h; exact .iL
  | slice id row n c c' l hl hc hn hr =>
   unfold gW at h
   dsimp only at h
   split at h
   ·rename_i j hj;cases h;exact .slice j row n c c' l (by rw [G3 hj]; exact hl) hc hn hr
   ·cases h; exact .dead _ rfl
  | void id row c a hc =>
   unfold gW at h
   dsimp only at h
   split at h
   ·cases h; exact .void _ row c a hc
   ·cases h; exact .dead _ rfl
  | mh id row m' n c' l hl hm hn hr =>
   unfold gW at h
   dsimp only at h
   split at h
   ·rename_i j hj;cases h;exact .mh j row m' n c' l (by rw [G3 hj]; exact hl) hm hn hr
   ·cases h; exact .dead _ rfl
  | kZ id row a =>
   unfold gW at h
   dsimp only at h
   split at h
   ·cases h; exact .kZ _ row a
   ·cases h; exact .dead _ rfl
  | mN=>cases h; exact .mN
  | func fn xs ys nL dc h1 J h3 h4 =>
   unfold gW at h
   dsimp only at h
   split at h
   ·rename_i l1 l2 e1 e2;cases h;have t1:=yH ih e1 ⟨h1,J⟩;have t2:=yH ih e2 ⟨h3,h4⟩;exact .func _ _ _ _ _ t1.1 t1.2 t2.1 t2.2
   ·cases h
  | agg xs ys h1 J =>
   unfold gW at h
   dsimp only at h
   split at h
   ·rename_i l1 e1;cases h;have t1:=yH ih e1 ⟨h1,J⟩;exact .agg _ _ t1.1 t1.2
   ·cases h
  | tuple xs ys h1 J =>
   unfold gW at h
   dsimp only at h
   split at h
   ·rename_i l1 e1;cases h;have t1:=yH ih e1 ⟨h1,J⟩;exact .tuple _ _ t1.1 t1.2
   ·cases h
  | dead w hw=>cases h; exact .dead _ (by assumption)
theorem VQ {σ:List Nat} {m:Nat} {v v2:Value} (h:gW σ m v=some v2) (h1:v.oneCell'=true):v2.oneCell'=true:=by
 cases m with
 | zero=>simp [gW] at h
 | succ m =>
  unfold gW at h
  split at h
  all_goals first
   | (exfalso; simp [Value.oneCell'] at h1; done)
   | (cases h; rfl)
   | (split at h <;> first | (cases h; rfl) | cases h)
   | cases h
theorem F4 {σ:List Nat} {m:Nat} {p:Value→Prop} (hp:∀ v v2,gW σ m v=some v2→p v→p v2):∀ {xs l:List Value},nH σ m xs=some l→(∀ v∈xs,p v)→(l.length=xs.length∧∀ v∈l,p v)
 | [],l,h,_=>by
  have:l=[]:=by simp [nH] at h; exact h
  subst this;exact ⟨rfl,fun v hv=>by simp at hv⟩
 | x::xs,l,h,hx=>by
  obtain ⟨y,ys,rfl,e1,e2⟩:=Fy h;obtain ⟨h1,J⟩:=F4 hp e2 (fun v hv=>hx v (by simp [hv]))
  refine ⟨by simp [h1],fun v hv=>?_⟩
  rcases List.mem_cons.1 hv with e | e
  ·rw [e]; exact hp x y e1 (hx x (by simp))
  ·exact J v e
def zR (a:Nat→Value) (σ aa:List Nat):Nat→List Value→(List Value→Prop)→Prop
 | _,[],k=>k []
 | i,v::l,k=>match I6 i aa with
  | true=>zO (gW σ 3 v) fun v'=>zR a σ aa (i+1) l fun l'=>k (v'::l')
  | false=>zR a σ aa (i+1) l fun l'=>k (a i::l')
theorem Fz {a:Nat→Value} {σ aa:List Nat}:∀ {t:List Value} {i:Nat} {k:List Value→Prop},zR a σ aa i t k→∀ (ν:Nu) r,bf ν t r→(∀ (j:Nat) (y:Value),r[j]?=some y→∀ al:Nu,aq al (a (i+j)) y)→∃ t',k t'∧bf (ν.comp σ) t' r
 | [],i,k,h,ν,r,hr,ha=>⟨[],h,by rw [hr.iW]; exact .nil _⟩
 | v::l,i,k,h,ν,r,hr,ha=>by
  obtain ⟨y,ys,rfl,h1,J⟩:=hr.jr;obtain ⟨hx,ha⟩:=MZ ha;unfold zR at h
  split at h
  ·obtain ⟨v',e,h⟩:=Fw h;obtain ⟨l',h3,h4⟩:=Fz h ν ys J ha;exact ⟨_,h3,.cons (M0 3 _ _ _ e h1) h4⟩
  ·obtain ⟨l',h3,h4⟩:=Fz h ν ys J ha;exact ⟨_,h3,.cons (hx _) h4⟩
def Gy (σ:List Nat):List (List Value)→(List (List Value)→Prop)→Prop
 | [],k=>k []
 | r::l,k=>zO (nH σ 3 r) fun r'=>Gy σ l fun l'=>k (r'::l')
theorem Kv {σ:List Nat}:∀ {l:List (List Value)} {k:List (List Value)→Prop},Gy σ l k→∃ l',k l'∧l'.length=l.length∧∀ (i:Nat) r',l'[i]?=some r'→∃ r,l[i]?=some r∧nH σ 3 r=some r'
 | [],k,h=>⟨[],h,rfl,fun i r hr=>by simp at hr⟩
 | r::l,k,h=>by
  obtain ⟨r',e,h⟩:=Fw h;obtain ⟨l',h,h1,J⟩:=Kv h;refine ⟨_,h,by simp [h1],fun i q hq=>?_⟩
  cases i with
  | zero=>simp at hq; subst hq; exact ⟨r,rfl,e⟩
  | succ i=>simpa using J i q (by simpa using hq)
def PY (σ:List Nat) (b:aj) (k:aj→Prop):Prop :=
 match b with
 | .flat o n e g=>k (.flat o n e g)
 | .aO o e rows=>Gy σ rows fun jb=>k (.aO o e jb)
 | .cg r=>k (.cg r)
theorem UM {σ:List Nat} {b:aj} {k:aj→Prop} (h:PY σ b k):∃ b',k b'∧b'.own=b.own∧∀ (ν:Nu) (l:Loc) (w:World),bQ ν l b w→bQ (ν.comp σ) l b' w:=by
 cases b with
 | flat o n e g =>
  exact ⟨_,h,rfl,fun ν l w hB=>hB.F3 (hB.plain rfl)⟩
 | cg r=>exact ⟨_,h,rfl,fun ν l w hB=>hB.F3 (fun r hr=>absurd hr (Nat.not_lt_zero r))⟩
 | aO o e rows =>
  obtain ⟨jb,h,h1,J⟩:=Kv h;refine ⟨_,h,rfl,fun ν l w hB=>?_⟩
  have aZ:∀ r,r < jb.length→∃ q,(aj.aO o e rows).row r=q∧nH σ 3 q=some ((aj.aO o e jb).row r)∧r < rows.length:=by
   intro r hr;obtain ⟨q,h3,h4⟩:=J r _ (List.getElem?_eq_getElem hr);refine ⟨q,by simp [aj.row,List.getD,h3],?_,by omega⟩
   simpa [aj.row,List.getD,List.getElem?_eq_getElem hr] using h4
  -- cell by cell, against the real cells of the row
  have real:∀ (xs:List Value) (P:Nat→Value→Prop),(∀ (j:Nat) v,xs[j]?=some v→∃ v',P j v'∧aq ν v v')→∀ l,nH σ 3 xs=some l→∀ (j:Nat) v,l[j]?=some v→∃ v',P j v'∧aq (ν.comp σ) v v':=by
   intro xs
   induction xs with
   | nil =>
    intro P _ l hl j v hv;have:l=[]:=by simp [nH] at hl; exact hl
    rw [this] at hv; simp at hv
   | cons x xs ih =>
    intro P hP l hl j v hv;obtain ⟨y,ys,rfl,e1,e2⟩:=Fy hl;cases j with
    | zero =>
     simp at hv; subst hv;obtain ⟨v',h3,h4⟩:=hP 0 x rfl;exact ⟨v',h3,M0 3 _ _ _ e1 h4⟩
    | succ j =>
     exact ih (fun j=>P (j+1)) (fun j v hv=>hP (j+1) v (by simpa using hv)) ys e2 j v (by simpa using hv)
  refine ⟨hB.ah,fun r hr=>?_,fun r hr j v hv=>?_,fun h=>by simp [aj.iY] at h,fun r hr v hv=>?_,fun ho _=>?_,(fun r h=>nomatch h),hB.live⟩
  ·obtain ⟨q,h3,h4,h5⟩:=aZ r hr;have:=(F4 (p:=fun _=>True) (fun _ _ _ _=>trivial) h4 (fun _ _=>trivial)).1
   rw [this,← h3]; exact hB.len r h5
  ·obtain ⟨q,h3,h4,h5⟩:=aZ r hr;exact real q (fun j v'=>w.cell? (l.at r j)=some v') (fun j v hv=>hB.cell r h5 j v (by rw [h3]; exact hv)) _ h4 j v hv
  ·obtain ⟨q,h3,h4,h5⟩:=aZ r hr;exact (F4 (p:=fun v=>v.oneCell'=true) (fun _ _ h h'=>VQ h h') h4 (fun v hv=>hB.one r h5 v (by rw [h3]; exact hv))).2 v hv
  ·obtain ⟨cur,t,q1,q2,q3⟩:=hB.own ho rfl;exact ⟨cur,t,q1,q2,by simp only [aj.n] at q3 ⊢; omega⟩
def uT (H:aA):Nat→(Option aj→Prop)→Prop:=fun id k=>match H,id with
 | [],_=>k none
 | b::_,0=>k b
 | _::H,n+1=>uT H n k
theorem Ll:∀ {H:aA} {id:Nat} {k:Option aj→Prop},uT H id k→∃ b,k b∧∀ c,b=some c→H[id]?=some (some c)
 | [],_,k,h=>by
  have h:k none:=by unfold uT at h; exact h
  exact ⟨none,h,fun c hc=>by cases hc⟩
 | b::_,0,k,h=>by
  have h:k b:=by unfold uT at h; exact h
  exact ⟨b,h,fun c hc=>by rw [hc]; rfl⟩
 | _::H,n+1,k,h=>by
  have h:uT H n k:=by unfold uT at h; exact h
  obtain ⟨b,h1,J⟩:=Ll h;exact ⟨b,h1,fun c hc=>by simpa using J c hc⟩
def Dq (σ:List Nat) (H:aA):List Nat→(aA→Prop)→Prop
 | [],k=>k []
 | s::l,k=>uT H s fun b=>match b with
  | none=>Dq σ H l fun H'=>k (none::H')
  | some b=>PY σ b fun b'=>Dq σ H l fun H'=>k (some b'::H')
theorem FA {σ:List Nat} {H:aA}:∀ {l:List Nat} {k:aA→Prop},Dq σ H l k→∃ H',k H'∧H'.length=l.length∧∀ (j:Nat) b',H'[j]?=some (some b')→∃ s b,l[j]?=some s∧H[s]?=some (some b)∧b'.own=b.own ∧
  ∀ (ν:Nu) (lc:Loc) (w:World),bQ ν lc b w→bQ (ν.comp σ) lc b' w
 | [],k,h=>⟨[],h,rfl,fun j b hj=>by simp at hj⟩
 | s::l,k,h=>by
  obtain ⟨b,h,hb⟩:=Ll h;cases b with
  | none =>
   obtain ⟨H',h1,J,h3⟩:=FA (l:=l) h;refine ⟨_,h1,by simp [J],fun j b' hj=>?_⟩
   cases j with
   | zero=>simp at hj
   | succ j=>simpa using h3 j b' (by simpa using hj)
  | some b =>
   obtain ⟨b1,h,ho,hr⟩:=UM h;obtain ⟨H',h1,J,h3⟩:=FA (l:=l) h;refine ⟨_,h1,by simp [J],fun j b' hj=>?_⟩
   cases j with
   | zero=>simp at hj; subst hj; exact ⟨s,b,rfl,hb b rfl,ho,hr⟩
   | succ j=>simpa using h3 j b' (by simpa using hj)
def C2 (a:Nat):List Nat→Bool
 | []=>true
 | b::l=>match Nat.beq a b with
  | true=>false
  | false=>C2 a l
theorem Lm {a:Nat}:∀ {l:List Nat},C2 a l=true→a ∉ l
 | [],_=>by simp
 | b::l,h=>by
  unfold C2 at h
  split at h
  ·cases h
  ·rename_i e;rw [List.mem_cons,not_or];exact ⟨Nat.ne_of_beq_eq_false e,Lm h⟩
def Dr:List Nat→Bool
 | []=>true
 | a::l=>match C2 a l with
  | true=>Dr l
  | false=>false
theorem Mb:∀ {l:List Nat},Dr l=true→l.Nodup
 | [],_=>by simp
 | a::l,h=>by
  unfold Dr at h
  split at h
  ·rename_i e; exact List.nodup_cons.2 ⟨Lm e,Mb h⟩
  ·cases h
def preB (base:Nat):Nat→List Nat→Bool
 | k,[]=>Nat.ble base k
 | k,a::l=>match Nat.ble base k with
  | true=>true
  | false=>match Nat.beq a k with
   | true=>preB base (k+1) l
   | false=>false
theorem Mc {base:Nat}:∀ {l:List Nat} {k:Nat},preB base k l=true→∀ j,k+j < base→l[j]?=some (k+j)
 | [],k,h,j,hj=>by
  have:=Nat.le_of_ble_eq_true h;omega
 | a::l,k,h,j,hj=>by
  unfold preB at h
  split at h
  ·rename_i e; have:=Nat.le_of_ble_eq_true e; omega
  ·split at h
   ·rename_i e;have e:=Nat.eq_of_beq_eq_true e;cases j with
    | zero=>simp [e]
    | succ j =>
     have:=Mc h j (by omega)
     rw [List.getElem?_cons_succ,this]; congr 1; omega
   ·cases h
def G4 (base:Nat) (σ:List Nat):Bool:=match preB base 0 σ with
 | true=>Dr σ
 | false=>false
theorem SO {base:Nat} {σ:List Nat} (h:G4 base σ=true):(∀ j,j < base→σ[j]?=some j)∧σ.Nodup:=by
 unfold G4 at h
 split at h
 ·rename_i e;exact ⟨fun j hj=>by have:=Mc e j (by omega); simpa using this,Mb h⟩
 ·cases h
def Ik (E:Env) (σ aa:List Nat) (t:List Value) (H:aA) (k:SK):Prop :=
 match G4 E.base σ with
 | true=>∀ a:Nat→Value,zR a σ aa 0 t fun t'=>Dq σ H σ fun H'=>k t' H'
 | false=>False
theorem UN {E:Env} {F:Fr} (bN:lz F E) {σ aa:List Nat} {ν:Nu} {t:List Value} {H:aA} {a:Act} {w:World} {k:SK} (hi:bu F ν t H a w) (h:Ik E σ aa t H k) :
  ∃ t' H',k t' H'∧bu F (ν.comp σ) t' H' a w:=by
 unfold Ik at h
 split at h
 ·rename_i hb;obtain ⟨Ao,dG⟩:=SO hb;obtain ⟨af,Jb⟩:=NN hi.tm;obtain ⟨t',h,ht⟩:=Fz (h af) ν _ hi.tm (fun j y hy al=>by rw [Nat.zero_add]; exact Jb j y hy al)
  obtain ⟨H',h,kH,hH⟩:=FA h;have nz:∀ (j s:Nat),σ[j]?=some s→(ν.comp σ) j=ν s:=fun j s hj=>by simp [Nu.comp,hj]
  refine ⟨t',H',h,⟨ht,hi.df,⟨fun j b' hj=>?_,fun i j bi bj li lj aP gj aE ho e1 e2=>?_⟩,fun j hj=>?_,hi.kp,fun j b' l hj ho hl=>?_,fun id l bm=>?_⟩⟩
  ·obtain ⟨s,b,h1,J,h3,h4⟩:=hH j b' hj;obtain ⟨l,h5,h6⟩:=hi.hp.aJ s b J;exact ⟨l,by rw [nz j s h1]; exact h5,h4 ν l w h6⟩
  ·obtain ⟨s,b,h1,J,h3,h4⟩:=hH i bi aP;obtain ⟨s',b',fe,jY,tq,rl⟩:=hH j bj gj;rw [nz i s h1] at e1;rw [nz j s' fe] at e2;refine hi.hp.sep s s' b b' li lj J jY (fun e=>aE ?_) (by rw [← h3]; exact ho) e1 e2
   subst e;exact (List.getElem?_inj (List.getElem?_eq_some_iff.1 h1).1 dG).1 (h1.trans fe.symm)
  ·rw [kH] at hj;simp [Nu.comp,List.getElem?_eq_none hj]
  ·obtain ⟨s,b,h1,J,h3,h4⟩:=hH j b' hj;rw [nz j s h1] at hl;exact hi.own s b l J (by rw [← h3]; exact ho) hl
  ·have an:id < F.n0:=by
    rcases Nat.lt_or_ge id F.n0 with h | h
    ·exact h
    ·rw [F.fresh id h] at bm; cases bm
   rw [nz id id (Ao id (by have:=bN.n0; omega))]
   exact hi.mono id l bm
 ·exact h.elim
def Il (E:Env) (t:List Value) (H:aA) (k:SK):Prop:=k t H∨∃ σ aa,Ik E σ aa t H k
theorem Md {E:Env} {F:Fr} (bN:lz F E) {ν:Nu} {t:List Value} {H:aA} {a:Act} {w:World} {k:SK} (hi:bu F ν t H a w) (h:Il E t H k) :
  ∃ al t' H',k t' H'∧bu F al t' H' a w:=by
 rcases h with h | ⟨σ,aa,h⟩
 ·exact ⟨ν,t,H,h,hi⟩
 ·obtain ⟨t',H',h1,J⟩:=UN bN hi h;exact ⟨_,t',H',h1,J⟩
inductive bA:List (Option Value)→List Value→Prop
 | nil:bA [] []
 | aa {v:Value} {ps:List (Option Value)} {vs:List Value} (h:bA ps vs):bA (some v::ps) (v::vs)
 | skip {v:Value} {ps:List (Option Value)} {vs:List Value} (h:bA ps vs):bA (none::ps) (v::vs)
def qK (a:Nat→Value):Nat→List (Option Value)→List Value
 | _,[]=>[]
 | i,some v::ps=>v::qK a (i+1) ps
 | i,none::ps=>a i::qK a (i+1) ps
def aF (n:Nat) (ps:List (Option Value)):List (Option Value):=match n with
 | 0=>ps
 | n+1=>none::aF n ps
def zs (a:Nat→Value) (i n:Nat) (l:List Value):List Value:=match n with
 | 0=>l
 | n+1=>a i::zs a (i+1) n l
theorem bA.sk:∀ (n:Nat) {ps:List (Option Value)} {vs:List Value},bA ps (vs.drop n)→Nat.ble n vs.length=true→bA (aF n ps) vs
 | 0,_,_,h,_=>h
 | n+1,_,[],_,h=>by simp at h
 | n+1,_,v::vs,h,hn=>.skip (bA.sk n (vs:=vs) h (by simpa using hn))
theorem bI {ps:List (Option Value)} {vs:List Value} (h:bA ps vs):∃ a:Nat→Value,vs=qK a 0 ps:=by
 have key:∀ (ps:List (Option Value)) (vs:List Value),bA ps vs→∀ i,∃ a:Nat→Value,vs=qK a i ps:=by
  intro ps vs h
  induction h with
  | nil=>exact fun i=>⟨fun _=>undef,rfl⟩
  | aa h ih=>
   intro i;obtain ⟨a,ha⟩:=ih (i+1);exact ⟨a,by rw [ha]; rfl⟩
  | @skip v ps vs h ih =>
   intro i;obtain ⟨a,ha⟩:=ih (i+1);refine ⟨fun j=>if j=i then v else a j,?_⟩
   have e:∀ (ps:List (Option Value)) (k:Nat),i < k→qK (fun j=>if j=i then v else a j) k ps=qK a k ps:=by
    intro ps
    induction ps with
    | nil=>intros; rfl
    | cons p ps ih =>
     intro k hk;cases p with
     | none=>simp only [qK,ih (k+1) (by omega),if_neg (show k≠i by omega)]
     | some p=>simp only [qK,ih (k+1) (by omega)]
   simp only [qK,e ps (i+1) (by omega),ha,if_true]
 exact key ps vs h 0
open Go Go.RowKit
def Pc (E:Env) (o:Oper) (tmps:List Value) (H:aA) (k:SK) (q:Prop):Prop :=
 match o.op with
 | .store t x y=>CG E tmps H t x y fun t' H'=>dq t' o.dst undef fun vy=>k vy H'
 | .call c=>match c.callee with
  | .builtin .append=>match c.args.toList,c.argTypes.toList with
   | [x,y],[t,t']=>match Nat.beq t t' with
    | true=>NO E tmps H t x y fun v t1 H1=>dq t1 o.dst v fun t2=>k t2 H1
    | false=>q
   | _,_=>False
  | .builtin .clear=>match c.args.toList,c.argTypes.toList with
   | [x],[t]=>OE E tmps H t x fun H1=>dq tmps o.dst (.tuple #[]) fun t2=>k t2 H1
   | _,_=>False
  | .builtin .copy=>match c.args.toList,c.argTypes.toList with
   | [x,y],[t,_]=>bX tmps x fun xv=>bX tmps y fun yv=>Gw E H t xv yv fun v H1=>dq tmps o.dst v fun t2=>k t2 H1
   | _,_=>False
  | .value f=>bX tmps f fun fv=>match fv with
   | .func (.func g) a b=>match E.Ψ g with
    | some G=>qA tmps c.args.toList fun vs=>qR a.toList vs fun l=>qR l b.toList fun args=>G args H fun v H'=>dq tmps o.dst v fun t'=>k t' H'
    | none=>q
   | .func (.yield l) a b=>match a.toList,b.toList,E.ys with
    | [],[],(l',G)::_=>l'=l∧qA tmps c.args.toList fun vs=>G vs H fun v H'=>dq tmps o.dst v fun t'=>k t' H'
    | _,_,_=>False
   | _=>False
  | _=>q
 | _=>q
def zw (E:Env) (o:Oper) (tmps:List Value) (H:aA) (k:SK):Prop :=
 Pc E o tmps H k (jy H fun aI=>lu E o.op tmps H aI fun v nb=>dq tmps o.dst v fun t'=>vd H nb fun H'=>k t' H')
def xC (E:Env) (ops:List Oper) (o:Oper) (tmps:List Value) (H:aA) (k:SK):Prop :=
 match o.guard with
 | none=>zw E o tmps H k
 | some (j,want)=>match (ops[j]?).bind (·.dst) with
  | some d=>qQ tmps d fun v=>match v with
   | .bool b=>match want with
    | true=>br b (zw E o tmps H k) (dq tmps o.dst undef fun t'=>k t' H)
    | false=>br b (dq tmps o.dst undef fun t'=>k t' H) (zw E o tmps H k)
   | .tuple _=>dq tmps o.dst undef fun t'=>k t' H
   | _=>False
  | none=>False
def nI (E:Env) (ops:List Oper):List Oper→List Value→aA→SK→Prop
 | [],t,H,k=>k t H
 | [o],t,H,k=>xC E ops o t H k
 | o::p::l,t,H,k=>xC E ops o t H fun t' H'=>nI E ops (p::l) t' H' k
theorem Me {E:Env} {ops l:List Oper} {o:Oper} {t:List Value} {H:aA} {k:SK} (h:nI E ops (o::l) t H k):xC E ops o t H fun t' H'=>nI E ops l t' H' k:=by
 cases l with
 | nil=>exact h
 | cons p l=>exact h
section
variable {P:Program} {E:Env} {r:Option Nat} {n:Nat} {F:Fr}
def uH (ν:Nu) (H:aA) (x:Nat):Prop:=∃ id c l,H[id]?=some (some c)∧c.own=true∧ν id=some l∧x=l.aJ
theorem bu.called {ν al:Nu} {tmps:List Value} {H H':aA} {a:Act} {w w':World} (hi:bu F ν tmps H a w) (hle:ν.le al) (Ap:bT al H' w') (zS:∀ id,H'.length≤id→al id=none)
  (tv:Kept (uH ν H) w w') (kD:∀ id b l,H'[id]?=some (some b)→b.own=true→al id=some l→uH ν H l.aJ∨w.heap.size≤l.aJ):bu F al tmps H' a w':=by
 have hO:∀ x,uH ν H x→F.O x∨F.W.heap.size≤x:=by
  rintro x ⟨id,c,l,h1,J,h3,rfl⟩
  exact hi.own id c l h1 J h3
 refine ⟨hi.tm.mono hle,BA hi.df fun D hD=>?_,Ap,zS,hi.kp.then tv hO,fun id b l h5 h6 h7=>(kD id b l h5 h6 h7).elim (hO _) (fun h=>.inr (Nat.le_trans hi.kp.size h)),Nu.le_trans hi.mono hle⟩
 refine (tv.aJ D (Array.getElem?_eq_some_iff.1 hD).1 ?_).trans hD
 rintro ⟨id,c,l,h1,J,h3,rfl⟩
 obtain ⟨l',h4,hB⟩:=hi.hp.aJ id c h1;rw [h3] at h4; cases h4;cases hr:c.rc with
 | none =>
  obtain ⟨cur,t,h5,_⟩:=hB.own J hr;rw [h5] at hD; cases hD
 | some r =>
  have:=hB.lr r hr;rw [this] at hD; cases hD
theorem Ln (hE:jT P E) (bN:lz F E) {o:Oper} {ν:Nu} {tmps:List Value} {H:aA} {a:Act} {w:World} (hi:bu F ν tmps H a w) {k:SK}
  (h:zw E o tmps H k) {next:Act→World→Prop} {Q:Exit→Act→World→Prop}
  (hk:∀ ν t' H' a' w',bu F ν t' H' a' w'→k t' H'→next a' w'):o.wpIn (WF r) n P a w next Q:=by
 have quiet:(jy H fun aI=>lu E o.op tmps H aI fun v nb=>dq tmps o.dst v fun t'=>vd H nb fun H'=>k t' H')→o.wpIn (WF r) n P a w next Q:=by
  intro h;have h:=mD h;obtain ⟨v,nb,rm,hq⟩:=Bz (P:=P) hE.toEnvOk h;refine hq o ν a w r n rfl (fun x _=>hi.mJ x) hi.hp (hi.fr _ (Nat.le_refl _)) next Q (fun v' w' al hp=>?_)
  have sG:∀ (k':aA→Prop),vd H nb k'→∃ H',k' H'∧bu F al tmps H' a w':=fun k' I5=>hi.quiet hp I5
  -- first the new block, then the slot
  cases hd:o.dst with
  | none =>
   rw [hd] at rm;obtain ⟨H',h1,J⟩:=sG _ rm;exact hk _ _ _ _ _ J h1
  | some d =>
   rw [hd] at rm;obtain ⟨h1,J⟩:=o4 rm;obtain ⟨H',h3,h4⟩:=sG _ J;refine hk al (tmps.set d v) H' _ w' ⟨?_,h4.df,h4.hp,h4.fr,h4.kp,h4.own,h4.mono⟩ h3;rw [rV];exact h4.tm.set hp.val d
 unfold zw Pc at h
 split at h
 ·rename_i t x y ho;exact SL hE.toEnvOk ho hi h hk
 ·rename_i c ho
  split at h
  ·rename_i hc
   split at h
   ·rename_i x y t t' hx ht
    split at h
    ·rename_i hb;have hb:t=t':=Nat.eq_of_beq_eq_true hb;subst hb;obtain ⟨v,v',al,t1,H1,w1,h,hv,aP,bC⟩:=Si hE.toEnvOk bN hi h o.type;obtain ⟨t2,h,ia⟩:=aP.dst hv h;have hx:c.args=#[x,y]:=Array.ext' hx;have ht:c.argTypes=#[t,t]:=Array.ext' ht;exact jI (by simp [ho]) (by simp [execOp,ho,resolve,hc,hx,ht,invoke,builtin,bC]) next Q (hk _ _ _ _ _ ia h)
    ·exact quiet h
   ·exact h.elim
  ·rename_i hc
   split at h
   ·rename_i x t hx ht;obtain ⟨H1,w1,h,aP,bC⟩:=SN hE.toEnvOk hi h o.type;obtain ⟨t2,h,ia⟩:=aP.dst (.tuple [] [] rfl (fun i x y hx _=>by simp at hx)) h
    have hx:c.args=#[x]:=Array.ext' hx;have ht:c.argTypes=#[t]:=Array.ext' ht;exact jI (by simp [ho]) (by simp [execOp,ho,resolve,hc,hx,ht,invoke,builtin,bC]) next Q (hk _ _ _ _ _ ia h)
   ·exact h.elim
  ·rename_i hc
   split at h
   ·rename_i x y t t2 hx ht;obtain ⟨xv,J,vv⟩:=kQ h (hi.mJ x);clear h;obtain ⟨yv,h,vw⟩:=kQ J (hi.mJ y);obtain ⟨v,H1,w1,h,hv,aP,bC⟩:=Lk hE.toEnvOk hi vv vw h t2 o.type;obtain ⟨t2,h,ia⟩:=aP.dst hv h;have hx:c.args=#[x,y]:=Array.ext' hx;have ht:c.argTypes=#[t,_]:=Array.ext' ht;exact jI (by simp [ho]) (by simp [execOp,ho,resolve,hc,hx,ht,invoke,builtin,bC]) next Q (hk _ _ _ _ _ ia h)
   ·exact h.elim
  ·rename_i f hc;have h0:=h;obtain ⟨fv,J,hf⟩:=kQ h (hi.mJ f);clear h
   split at J
   ·rename_i g xa ya
    split at J
    ·rename_i G hG;obtain ⟨vs,h,fw⟩:=ER J (fun z _=>hi.mJ z)
     clear J;have J:=wx (wx h);clear h;have bd:=hE.ft g G hG;obtain ⟨ys,dc,jW,h3,h4⟩:=hf.rY;have oc:=(h3.append fw).append h4;refine ⟨fun _ _=>trivial,?_⟩
     have bC:(execOp a.eval o).run P w=.ok (.enter g ⟨(ys++c.args.toList.map a.eval)++dc⟩) w:=by
      simp only [execOp,ho,resolve,hc,jW,Deferred.ofValue,Sem.run_bind,Sem.run_pure,Result.andThen_ok,invoke,bd.enters]
      congr 2
      apply Array.ext';simp
     rw [Oper.semAt_eq _ _ _ (by simp [ho]),bC]
     refine ⟨fun h=>by simp [WF,Fence.wide] at h,?_⟩
     have zn:=bd.calls _ H _ J ν _ w (n - 1) (uH ν H) oc hi.hp hi.fr (fun id b l h5 h6 h7=>⟨id,b,l,h5,h6,h7,rfl⟩)
     have yY:CallsIn (WF r) (n - 1) P g ⟨(ys++c.args.toList.map a.eval)++dc⟩ w _:=zn;refine yY.mono ?_
     rintro e w' ⟨v,v',al,H',rfl,h,hv,hle,Ap,zS,tv,kD⟩
     have aP:bu F al tmps H' a w':=hi.called hle Ap zS tv kD;obtain ⟨t',h,ia⟩:=aP.dst hv h;exact hk _ _ _ _ _ ia h
    ·exact quiet J
   ·rename_i l xa ya
    split at J
    ·rename_i l' G rest vB Aq DW;obtain ⟨rfl,J⟩:=J;obtain ⟨vs,J,fw⟩:=ER J (fun z _=>hi.mJ z)
     obtain ⟨ys,dc,jW,h3,h4⟩:=hf.rY;rw [vB] at h3; rw [Aq] at h4;have e1:=h3.iW;have e2:=h4.iW;subst e1; subst e2;obtain ⟨fn,tm,QQ,body,hy,aal⟩:=hE.ys l' G rest DW _ H _ J ν _ w (n - 1) (uH ν H) (Nu.le_trans bN.nu hi.mono) fw hi.hp hi.fr (fun id b l h5 h6 h7=>⟨id,b,l,h5,h6,h7,rfl⟩)
     refine ⟨fun _ _=>trivial,?_⟩
     have bC:(execOp a.eval o).run P w=.ok (.round l' fn tm QQ body) w:=by
      simp only [execOp,ho,resolve,hc,jW,Deferred.ofValue,Sem.run_bind,Sem.run_pure,Result.andThen_ok,invoke];have e:(⟨List.map a.eval c.args.toList⟩:Array Value)=Array.map a.eval c.args:=Array.ext' (by simp)
      rw [e] at hy
      simpa using hy
     rw [Oper.semAt_eq _ _ _ (by simp [ho]),bC]
     refine ⟨fun h=>by simp [WF,Fence.wide] at h,?_⟩
     have Xp:RoundIn (WF r) (n - 1) P l' fn tm QQ body w _:=aal;refine Xp.mono ?_
     rintro e w' ⟨v,v',al,H',rfl,h,hv,hle,Ap,zS,tv,kD⟩
     have aP:bu F al tmps H' a w':=hi.called hle Ap zS tv kD;obtain ⟨t',h,ia⟩:=aP.dst hv h;exact hk _ _ _ _ _ ia h
    ·exact J.elim
   ·exact J.elim
  ·exact quiet h
 ·exact quiet h
theorem yz {ops:Array Oper} {tmps:Array Value} {j:Nat} {d:Tmp} (hd:(ops[j]?).bind (·.dst)=some d):yielded ops tmps j=match tmps[d]? with | some (.bool b)=>some b | _=>none:=by
 unfold yielded;rw [hd]
 rfl
theorem Fb (hE:jT P E) (bN:lz F E) {ops:Array Oper} {o:Oper} {ν:Nu} {tmps:List Value} {H:aA} {a:Act} {w:World} (hi:bu F ν tmps H a w) {k:SK}
  (h:xC E ops.toList o tmps H k) {next:Act→World→Prop} {Q:Exit→Act→World→Prop}
  (hk:∀ ν t' H' a' w',bu F ν t' H' a' w'→k t' H'→next a' w') :
  if Region.wanted o (yielded ops a.tmps) then o.wpIn (WF r) n P a w next Q else (∀ f,o.about P w a.eval=some f→(WF r).fn f)∧next (a.put o.dst undef) w:=by
 unfold xC at h;have skip:(dq tmps o.dst undef fun t'=>k t' H)→(∀ f,o.about P w a.eval=some f→(WF r).fn f)∧next (a.put o.dst undef) w:=fun h=>by
  obtain ⟨t',h1,J⟩:=hi.dst (.undef ν) h;exact ⟨fun _ _=>trivial,hk _ _ _ _ _ J h1⟩
 split at h
 ·rename_i hg;have:Region.wanted o (yielded ops a.tmps)=true:=by simp [Region.wanted,hg]
  rw [if_pos this];exact Ln hE bN hi h hk
 ·rename_i j want hg
  split at h
  ·rename_i d hd;have cX:(ops[j]?).bind (·.dst)=some d:=by simpa using hd
   obtain ⟨v,hv,h⟩:=oZ h;obtain ⟨v',jl,hr⟩:=hi.tm.get hv;have ael:a.tmps[d]?=some v':=by simpa using jl
   have hy:=yz (tmps:=a.tmps) cX;rw [ael] at hy
   split at h
   ·rename_i b;have:=hr.kc;subst this;have hw:Region.wanted o (yielded ops a.tmps)=(b == want):=by
     simp only [Region.wanted,hg,hy];cases b <;> cases want <;> rfl
    rw [hw];cases want <;> cases b <;> first | exact Ln hE bN hi h hk | exact skip h
   ·rename_i vs;obtain ⟨ys,rfl,_⟩:=aq.nY (xs:=vs.toList) hr;have hw:Region.wanted o (yielded ops a.tmps)=false:=by
     simp only [Region.wanted,hg,hy]
     rfl
    rw [hw];simp only [Bool.false_eq_true,if_false];exact skip h
   ·exact h.elim
  ·exact h.elim
theorem Mf (hE:jT P E) (bN:lz F E) {ops:Array Oper} {Q:Exit→Act→World→Prop}:∀ {l:List Oper} {idx:List Nat} {ν:Nu} {tmps:List Value} {H:aA} {a:Act} {w:World} {k:SK},
  idx.map (ops[·]?)=l.map some→bu F ν tmps H a w→nI E ops.toList l tmps H k→(∀ ν t' H' a' w',bu F ν t' H' a' w'→k t' H'→Q .normal a' w')→wpOpsIn (WF r) n P ops Q idx a w
 | [],idx,ν,tmps,H,a,w,k,he,hi,h,hk=>by
  have:idx=[]:=by cases idx with
   | nil=>rfl
   | cons=>simp at he
  subst this;exact hk _ _ _ _ _ hi h
 | o::l,idx,ν,tmps,H,a,w,k,he,hi,h,hk=>by
  cases idx with
  | nil=>simp at he
  | cons i idx =>
   simp only [List.map_cons,List.cons.injEq] at he;simp only [wpOpsIn,he.1];exact Fb hE bN hi (Me h) (fun ν t' H' a' w' aP h'=>Mf hE bN he.2 aP h' hk)
theorem Sj (hE:jT P E) (bN:lz F E) {ops:Array Oper} {Q:Exit→Act→World→Prop} {id:Nat} {ν:Nu} {tmps:List Value} {H:aA} {a:Act} {w:World} {k:SK}
  (hi:bu F ν tmps H a w) (h:nI E ops.toList ops.toList tmps H k) (hk:∀ ν t' H' a' w',bu F ν t' H' a' w'→k t' H'→Q .normal a' w'):(Code.region id ops false).wpIn (WF r) n P Q a w:=by
 refine wpIn_region (Mf hE bN ?_ hi h hk);apply List.ext_getElem?;intro i;simp only [List.getElem?_map,List.getElem?_range,Array.getElem?_toList];by_cases an:i < ops.size
 ·simp [an]
 ·simp [an]
end
open Go Go.RowKit
abbrev XK:=Nat→List Value→aA→Prop
def Ci (body:List Value→aA→SK→Prop):Nat→List Value→aA→Prop
 | 0,_,_=>False
 | m+1,t,H=>body t H (Ci body m)
def HA:List Value→List Nat→List Value→(List Value→Prop)→Prop
 | t,[],[],k=>k t
 | t,p::ps,x::xs,k=>xO t p x fun t'=>HA t' ps xs k
 | _,_,_,_=>False
theorem Lo:∀ {t:List Value} {ps:List Nat} {xs:List Value} {k:List Value→Prop},HA t ps xs k→ps.length=xs.length∧∃ t1,k t1∧∀ (ν:Nu) (a:Array Value) (as:List Value),bf ν t a.toList→bf ν xs as→bf ν t1 ((ps.zip as).foldl (fun t (p,v)=>t.setIfInBounds p v) a).toList
 | t,[],[],k,h=>⟨rfl,t,h,fun ν a as ha hx=>ha⟩
 | t,p::ps,x::xs,k,h=>by
  obtain ⟨an,h⟩:=o4 h;obtain ⟨h1,t1,J,h3⟩:=Lo h;refine ⟨by simp [h1],t1,J,fun ν a as ha hx=>?_⟩
  obtain ⟨y,ys,rfl,k1,k2⟩:=hx.jr;refine h3 ν (a.setIfInBounds p y) ys ?_ k2;rw [Array.toList_setIfInBounds];exact ha.set k1 p
 | _,[],_::_,_,h=>h.elim
 | _,_::_,[],_,h=>h.elim
def C3 (H:aA) (id:Nat) (k:Loop→Prop):Prop :=
 gH H id fun b=>match b with
  | .cg r=>k r
  | _=>False
def C4 (R:LoopState→Option Code→Loop) (γ:Nat) (jump:Option Code) (K:Value→aA→Prop) (H:aA):Prop :=
 C3 H γ fun r=>r=R .busy none∧jx H γ (some (.cg (R (match jump with | none=>.ready | some _=>.done) jump))) fun H'=>K (.bool (match jump with | none=>true | some _=>false)) H'
def aam (R:LoopState→Option Code→Loop) (γ:Nat) (t:List Value) (kn:SK) (kx:XK) (kr:SK) (H:aA):Prop :=
 C3 H γ fun r=>jx H γ none fun H'=>match r.state,r.pending with
  | .busy,_=>False
  | _,none=>kn t H'
  | _,some (.exit i)=>kx i t H'
  | _,some .ret=>kr t H'
  | _,_=>False
def vc:Env→(Env→List Oper→List Value→aA→SK→Prop)→Code→List Value→aA→SK→XK→SK→Prop
 | _,_,.skip,t,H,kn,_,_=>kn t H
 | E,_,.region _ ops false,t,H,kn,_,_=>nI E ops.toList ops.toList t H kn
 | E,D,.region _ ops true,t,H,kn,_,_=>D E ops.toList t H kn
 | E,D,.seq a b,t,H,kn,kx,kr=>vc E D a t H (fun t H=>vc E D b t H kn kx kr) kx kr
 | E,D,.cond c x y,t,H,kn,kx,kr=>bX t c fun v=>match v with
  | .bool b=>br b (vc E D x t H kn kx kr) (vc E D y t H kn kx kr)
  | _=>False
 | E,D,.block id c,t,H,kn,kx,kr=>vc E D c t H kn (fun i t H=>match Nat.beq i id with | true=>kn t H | false=>kx i t H) kr
 | _,_,.exit id,t,H,_,kx,_=>kx id t H
 | _,_,.ret,t,H,_,_,kr=>kr t H
 | E,D,.loop c,t,H,_,kx,kr =>
  (∃ I:Nat→List Value→aA→Prop,(Il E t H fun t H=>∃ n,I n t H)∧∀ n t H,I n t H→vc E D c t H (fun t H=>Il E t H fun t H=>∃ m,m < n∧I m t H) kx kr) ∨
  (∃ m,Ci (fun t H k=>vc E D c t H k kx kr) m t H)
 | E,D,.rangeFunc g ps assign body,t,H,kn,kx,kr=>match E.rd with
  | true=>False
  | false=>bX t g fun gv=>match gv with
   | .func (.func f) a b=>match a.toList,E.It f with
    | [],some I=>∀ (l:Nat) (nu:Nu) (fn:FuncId) (tm:Array Value) (df:Nat),jy H fun γ=>pB H (some (.cg ⟨.ready,none,fn,tm,ps,assign,body,df⟩)) fun H1 =>
     I l (fun args H K=>C3 H γ fun r=>r=⟨.ready,none,fn,tm,ps,assign,body,df⟩∧HA t ps.toList args fun t1=>jy H fun n0 =>
       vc { E with base:=n0,rd:=true } D assign t1 H (fun t2 H2=>C3 H2 γ fun r2=>r2=⟨.ready,none,fn,tm,ps,assign,body,df⟩∧jx H2 γ (some (.cg ⟨.busy,none,fn,tm,ps,assign,body,df⟩)) fun H3 =>
         vc { E with base:=n0,rd:=true } D body t2 H3 (fun _ H4=>C4 (fun s p=>⟨s,p,fn,tm,ps,assign,body,df⟩) γ none K H4) (fun i _ H4=>C4 (fun s p=>⟨s,p,fn,tm,ps,assign,body,df⟩) γ (some (.exit i)) K H4)
          (fun _ H4=>C4 (fun s p=>⟨s,p,fn,tm,ps,assign,body,df⟩) γ (some .ret) K H4))
        (fun _ _ _=>False) (fun _ _=>False))
      nu (.func (.yield l) #[] #[]::b.toList) H1 fun _ H2=>aam (fun s p=>⟨s,p,fn,tm,ps,assign,body,df⟩) γ t kn kx kr H2
    | _,_=>False
   | _=>False
 | _,_,_,_,_,_,_,_=>False
def wM (E:Env) (H:aA) (tmps:List Value):List ResultVar→(List Value→Prop)→Prop
 | [],k=>k []
 | .tmp t::l,k=>qQ tmps t fun v=>wM E H tmps l fun vs=>k (v::vs)
 | .cell a t::l,k=>qQ tmps a fun av=>match av with
  | .pointer (some ⟨id,row,sp⟩)=>cN E.tt t fun ti=>gH H id fun b=>H0 b row fun cs=>uN cs (sp.getD 0) ti.size fun us=>wM E H tmps l fun vs=>k (valOf ti.agg us::vs)
  | _=>False
def Ds (vs:List Value) (k:Value→Prop):Prop :=
 match vs with
 | [v]=>k v
 | vs=>k (.tuple ⟨vs⟩)
def xn:Value→Bool
 | .bool _ | .int _ _ | .string _ | .pointer none | .nilFunc=>true
 | .agg cs=>jK cs.toList
 | .func _ a b=>a.toList.isEmpty && b.toList.isEmpty
 | _=>false
def tW:List Value→Bool
 | []=>true
 | v::l=>xn v && tW l
def CH:Value→Bool
 | .tuple vs=>tW vs.toList
 | .func _ a b=>tW a.toList && tW b.toList
 | v=>xn v
theorem bf.Mg {ν:Nu}:∀ {l:List Value},jK l=true→bf ν l l
 | [],_=>.nil ν
 | v::l,h=>by
  simp only [jK,Bool.and_eq_true] at h;exact .cons (aq.j7 h.1) (bf.Mg h.2)
theorem KU {v:Value} (h:xn v=true):(∀ ν,aq ν v v)∧∀ ν w,aq ν v w→w=v:=by
 cases v with
 | bool b=>exact ⟨fun ν=>.bool b,fun ν w hw=>hw.kc⟩
 | int k n=>exact ⟨fun ν=>.int k n,fun ν w hw=>hw.fJ⟩
 | string s=>exact ⟨fun ν=>.str s,fun ν w hw=>hw.sh⟩
 | pointer a =>
  cases a with
  | none=>exact ⟨fun ν=>.mM,fun ν w hw=>by cases hw; rfl⟩
  | some a=>simp [xn] at h
 | nilFunc=>exact ⟨fun ν=>.mN,fun ν w hw=>by cases hw; rfl⟩
 | agg cs =>
  have h':jK cs.toList=true:=h;refine ⟨fun ν=>?_,fun ν w hw=>?_⟩
  ·have:=bf.Mg (ν:=ν) h';exact .agg _ _ this.1 this.2
  ·obtain ⟨ys,rfl,hy⟩:=aq.uE (xs:=cs.toList) hw;rw [bf.j9 (yp h') hy]
 | func fn a b =>
  simp only [xn,Bool.and_eq_true,List.isEmpty_iff] at h;refine ⟨fun ν=>?_,fun ν w hw=>?_⟩
  ·have e1:a=⟨[]⟩:=Array.ext' h.1;have e2:b=⟨[]⟩:=Array.ext' h.2;subst e1; subst e2;exact .func fn [] [] [] [] rfl (fun i x y hx _=>by simp at hx) rfl (fun i x y hx _=>by simp at hx)
  ·obtain ⟨ys,dc,rfl,h1,J⟩:=hw.rY;rw [h.1] at h1; rw [h.2] at J;rw [h1.iW,J.iW];rw [Array.ext' (xs:=a) (ys:=⟨[]⟩) h.1,Array.ext' (xs:=b) (ys:=⟨[]⟩) h.2]
 | _=>simp [xn] at h
theorem A3:∀ {l:List Value},tW l=true→(∀ ν,bf ν l l)∧∀ ν m,bf ν l m→m=l
 | [],_=>⟨fun ν=>.nil ν,fun ν m hm=>hm.iW⟩
 | v::l,h=>by
  simp only [tW,Bool.and_eq_true] at h;obtain ⟨h1,J⟩:=KU h.1;obtain ⟨h3,h4⟩:=A3 h.2;refine ⟨fun ν=>.cons (h1 ν) (h3 ν),fun ν m hm=>?_⟩
  obtain ⟨y,ys,rfl,k1,k2⟩:=hm.jr;rw [J ν y k1,h4 ν ys k2]
theorem EV {v:Value} (h:CH v=true):(∀ ν,aq ν v v)∧∀ ν w,aq ν v w→w=v:=by
 cases v with
 | tuple vs =>
  have h':tW vs.toList=true:=h;obtain ⟨h1,J⟩:=A3 h';refine ⟨fun ν=>.tuple _ _ (h1 ν).1 (h1 ν).2,fun ν w hw=>?_⟩
  obtain ⟨ys,rfl,hy⟩:=aq.nY (xs:=vs.toList) hw;rw [J ν ys hy]
 | func fn a b =>
  simp only [CH,Bool.and_eq_true] at h;obtain ⟨h1,J⟩:=A3 h.1;obtain ⟨h3,h4⟩:=A3 h.2;refine ⟨fun ν=>.func fn _ _ _ _ (h1 ν).1 (h1 ν).2 (h3 ν).1 (h3 ν).2,fun ν w hw=>?_⟩
  obtain ⟨ys,dc,rfl,k1,k2⟩:=hw.rY;rw [J ν ys k1,h4 ν dc k2]
 | _=>exact KU h
def BB:List Value→Bool
 | []=>true
 | v::l=>CH v && BB l
theorem EC:∀ {l:List Value},BB l=true→(∀ ν,bf ν l l)∧∀ ν m,bf ν l m→m=l
 | [],_=>⟨fun ν=>.nil ν,fun ν m hm=>hm.iW⟩
 | v::l,h=>by
  simp only [BB,Bool.and_eq_true] at h;obtain ⟨h1,J⟩:=EV h.1;obtain ⟨h3,h4⟩:=EC h.2;refine ⟨fun ν=>.cons (h1 ν) (h3 ν),fun ν m hm=>?_⟩
  obtain ⟨y,ys,rfl,k1,k2⟩:=hm.jr;rw [J ν y k1,h4 ν ys k2]
def nN (P:Program) (D:Env→List Oper→List Value→aA→SK→Prop):Prop :=
 ∀ (E:Env),jT P E→∀ (r:Option Nat) (n:Nat) (F:Fr),lz F E→∀ (ops:Array Oper) (Q:Exit→Act→World→Prop) (id:Nat) (ν:Nu) (tmps:List Value) (H:aA) (a:Act) (w:World) (k:SK),
  bu F ν tmps H a w→D E ops.toList tmps H k→(∀ ν t' H' a' w',bu F ν t' H' a' w'→k t' H'→Q .normal a' w')→(Code.region id ops true).wpIn (WF r) n P Q a w
section
variable {P:Program} {E:Env} {r:Option Nat} {n:Nat} {F:Fr} {D:Env→List Oper→List Value→aA→SK→Prop}
theorem bu.NP {F:Fr} {ν:Nu} {t:List Value} {H:aA} {a:Act} {w:World} (hi:bu F ν t H a w) {γ:Nat} {r:Loop} {l:Loc} (r':Loop) (hb:H[γ]?=some (some (.cg r))) (hl:ν γ=some l) :
  bu F ν t (H.set γ (some (.cg r'))) a (w.putObj l.aJ (.loop r')):=by
 have an:γ < H.length:=(List.getElem?_eq_some_iff.1 hb).1;obtain ⟨l',cE,hB⟩:=hi.hp.aJ γ _ hb;rw [hl] at cE; cases cE;have Dt:=hB.lr r rfl;have hw:l.aJ < w.heap.size:=(Array.getElem?_eq_some_iff.1 Dt).1;have c8:∀ (id:Nat) (b:aj),(H.set γ (some (.cg r')))[id]?=some (some b)→(id=γ∧b=.cg r')∨(id≠γ∧H[id]?=some (some b)):=fun id b h=>by
  by_cases e:id=γ
  ·subst e; rw [List.getElem?_set_self an] at h; cases h; exact .inl ⟨rfl,rfl⟩
  ·rw [List.getElem?_set_ne (Ne.symm e)] at h; exact .inr ⟨e,h⟩
 refine ⟨hi.tm,BA hi.df fun D hD=>(World.putObj_heap_other (fun e=>by rw [e,Dt] at hD; cases hD)).trans hD,⟨fun id b h=>?_,fun i j bi bj li lj h1 J aE ho e1 e2=>?_⟩,fun id bm=>hi.fr id (by simpa using bm),
  hi.kp.then (O':=fun x=>x=l.aJ) ⟨rfl,rfl,rfl,by simp,fun b h1 J=>World.putObj_heap_other J⟩ (fun b bz=>by subst bz; exact hi.own γ _ _ hb rfl hl),fun id b l' h ho cE=>?_,hi.mono⟩
 ·rcases c8 id b h with ⟨rfl,rfl⟩ | ⟨aE,h⟩
  ·exact ⟨l,hl,hB.ah,fun r hr=>absurd hr (Nat.not_lt_zero r),fun r hr=>absurd hr (Nat.not_lt_zero r),(fun h=>nomatch h),fun r hr=>absurd hr (Nat.not_lt_zero r),(fun _ h=>nomatch h),fun r hr=>by cases hr; exact World.putObj_heap_same hw,by simpa using hw⟩
  ·obtain ⟨l',cE,hB'⟩:=hi.hp.aJ id b h;exact ⟨l',cE,hB'.same (World.putObj_heap_other (Ne.symm (hi.hp.sep γ id _ b l l' hb h (Ne.symm aE) rfl hl cE))) (by simp)⟩
 ·rcases c8 i bi h1 with ⟨rfl,rfl⟩ | ⟨hni,g1⟩ <;> rcases c8 j bj J with ⟨rfl,rfl⟩ | ⟨hnj,g2⟩
  ·exact absurd rfl aE
  ·exact hi.hp.sep _ j _ bj li lj hb g2 aE rfl e1 e2
  ·exact hi.hp.sep i _ bi _ li lj g1 hb aE ho e1 e2
  ·exact hi.hp.sep i j bi bj li lj g1 g2 aE ho e1 e2
 ·rcases c8 id b h with ⟨rfl,rfl⟩ | ⟨aE,h⟩
  ·exact hi.own _ _ _ hb rfl cE
  ·exact hi.own id b l' h ho cE
theorem VR (hD:nN P D):∀ (c:Code) {E:Env} {r:Option Nat} {n:Nat} {F:Fr},jT P E→lz F E→(E.rd=false→r=none)→∀ {ν:Nu} {t:List Value} {H:aA} {a:Act} {w:World} {kn:SK} {kx:XK} {kr:SK} {Q:Exit→Act→World→Prop},
  bu F ν t H a w→vc E D c t H kn kx kr→(∀ ν t H a w,bu F ν t H a w→kn t H→Q .normal a w)→(∀ i ν t H a w,bu F ν t H a w→kx i t H→Q (.exit i) a w) →
  (∀ ν t H a w,bu F ν t H a w→kr t H→Q .ret a w)→c.wpIn (WF r) n P Q a w:=by
 intro c
 induction c with
 | skip=>exact fun hE bN fy=>fun hi h hn _ _=>wpIn_skip (hn _ _ _ _ _ hi h)
 | region id ops d =>
  intro E r n F hE bN fy ν t H a w kn kx kr Q hi h hn _ _;cases d with
  | false=>exact Sj hE bN hi h hn
  | true=>exact hD E hE r n F bN ops Q id ν t H a w kn hi h hn
 | seq x y Je Jf =>
  intro E r n F hE bN fy ν t H a w kn kx kr Q hi h hn hx hr;exact wpIn_seq (Je hE bN fy hi h (fun ν t H a w aP h'=>Jf hE bN fy aP h' hn hx hr) hx hr)
 | cond c x y Je Jf =>
  intro E r n F hE bN fy ν t H a w kn kx kr Q hi h hn hx hr;obtain ⟨v,h,hv⟩:=kQ h (hi.mJ c)
  split at h
  ·rename_i b;have hb:=hv.kc;exact wpIn_cond_split hb (fun e=>Je hE bN fy hi (Cf h e) hn hx hr) (fun e=>Jf hE bN fy hi (BP h e) hn hx hr)
  ·exact h.elim
 | block id c ih =>
  intro E r n F hE bN fy ν t H a w kn kx kr Q hi h hn hx hr;refine wpIn_block (ih hE bN fy hi h hn (fun i ν t H a w aP h'=>?_) hr)
  simp only [Exit.inBlock]
  split at h'
  ·rename_i e;rw [if_pos (Nat.eq_of_beq_eq_true e)]; exact hn _ _ _ _ _ aP h'
  ·rename_i e;rw [if_neg (Nat.ne_of_beq_eq_false e)]; exact hx _ _ _ _ _ _ aP h'
 | loop c ih =>
  intro E r n F hE bN fy ν t H a w kn kx kr Q hi h hn hx hr;rcases h with ⟨I,h00,uU⟩ | ⟨m,hm⟩
  ·-- by an invariant
   obtain ⟨ν,t,H,⟨m0,h0⟩,hi⟩:=Md bN hi h00;have key:∀ (m:Nat) ν t H a w,bu F ν t H a w→I m t H→∀ (b:Frame) (k:List Item) (cs:List Frame),b.roundOf=(WF r).round→(WF r).fn b.fn→(WF r).room (cs.length+1+n) →
     ∃ e a' w',Q e a' w'∧ArrivesIn (Machine.fenced P (WF r)) P (lone (b.atR a (.code c::.inLoop c::k)) cs w) b k cs e a' w':=by
    intro m
    induction m using Nat.strongRecOn with
    | _ m Jg =>
     intro ν t H a w hi hI b k cs nO hb cS;have:=ih hE bN fy (Q:=fun e a w=>match e with | .normal=>∃ m' ν t H,m' < m∧bu F ν t H a w∧I m' t H | e=>Q e a w) hi (uU m t H hI)
      (fun ν t H a w aP h'=>let ⟨rn,t2,H2,⟨m',an,Ar⟩,ia⟩:=Md bN aP h'; ⟨m',rn,t2,H2,an,ia,Ar⟩) hx hr b (.inLoop c::k) cs nO hb cS
     obtain ⟨e,mR,mS,hq,jV⟩:=this;cases e with
     | normal =>
      obtain ⟨m',al,t',H',an,aP,Ar⟩:=hq;obtain ⟨Im,Io,Ip,HB,Gz⟩:=Jg m' an al t' H' mR mS aP Ar b k cs nO hb cS;exact ⟨Im,Io,Ip,HB,.of_steps (StepsIn.trans jV (.one (fenced_calm hb cS rfl) stepR_inLoop)) Gz⟩
     | exit id=>exact ⟨_,mR,mS,hq,.pass (x:=.inLoop c) rfl (fun _ _=>.inl (by simp)) jV⟩
     | goto l=>exact ⟨_,mR,mS,hq,.pass (x:=.inLoop c) rfl (fun _ _=>.inl (by simp)) jV⟩
     | ret=>exact ⟨_,mR,mS,hq,.pass (x:=.inLoop c) rfl (fun _ _=>.inl (by simp)) jV⟩
     | panic ch=>exact ⟨_,mR,mS,hq,.pass (x:=.inLoop c) rfl (fun _ _=>.inl (by simp)) jV⟩
     | outgrown=>exact ⟨_,mR,mS,hq,.pass (x:=.inLoop c) rfl (fun _ _=>.inl (by simp)) jV⟩
   intro b k cs nO hb cS;obtain ⟨e,a',w',hq,jV⟩:=key m0 ν t H a w hi h0 b k cs nO hb cS;exact ⟨e,a',w',hq,.of_steps (.one (fenced_calm hb cS rfl) stepR_loop) jV⟩
  ·-- round by round
   have key:∀ (m:Nat) ν t H a w,bu F ν t H a w→Ci (fun t H k=>vc E D c t H k kx kr) m t H→∀ (b:Frame) (k:List Item) (cs:List Frame),b.roundOf=(WF r).round→(WF r).fn b.fn→(WF r).room (cs.length+1+n) →
     ∃ e a' w',Q e a' w'∧ArrivesIn (Machine.fenced P (WF r)) P (lone (b.atR a (.code c::.inLoop c::k)) cs w) b k cs e a' w':=by
    intro m
    induction m with
    | zero=>exact fun ν t H a w _ h=>h.elim
    | succ m Jg =>
     intro ν t H a w hi hI b k cs nO hb cS;have:=ih hE bN fy (Q:=fun e a w=>match e with | .normal=>∃ ν t H,bu F ν t H a w∧Ci (fun t H k=>vc E D c t H k kx kr) m t H | e=>Q e a w) hi hI
      (fun ν t H a w aP h'=>⟨ν,t,H,aP,h'⟩) hx hr b (.inLoop c::k) cs nO hb cS
     obtain ⟨e,mR,mS,hq,jV⟩:=this;cases e with
     | normal =>
      obtain ⟨al,t',H',aP,Ar⟩:=hq;obtain ⟨Im,Io,Ip,HB,Gz⟩:=Jg al t' H' mR mS aP Ar b k cs nO hb cS;exact ⟨Im,Io,Ip,HB,.of_steps (StepsIn.trans jV (.one (fenced_calm hb cS rfl) stepR_inLoop)) Gz⟩
     | exit id=>exact ⟨_,mR,mS,hq,.pass (x:=.inLoop c) rfl (fun _ _=>.inl (by simp)) jV⟩
     | goto l=>exact ⟨_,mR,mS,hq,.pass (x:=.inLoop c) rfl (fun _ _=>.inl (by simp)) jV⟩
     | ret=>exact ⟨_,mR,mS,hq,.pass (x:=.inLoop c) rfl (fun _ _=>.inl (by simp)) jV⟩
     | panic ch=>exact ⟨_,mR,mS,hq,.pass (x:=.inLoop c) rfl (fun _ _=>.inl (by simp)) jV⟩
     | outgrown=>exact ⟨_,mR,mS,hq,.pass (x:=.inLoop c) rfl (fun _ _=>.inl (by simp)) jV⟩
   intro b k cs nO hb cS;obtain ⟨e,a',w',hq,jV⟩:=key m ν t H a w hi hm b k cs nO hb cS;exact ⟨e,a',w',hq,.of_steps (.one (fenced_calm hb cS rfl) stepR_loop) jV⟩
 | exit id=>exact fun hE bN fy=>fun hi h _ hx _=>wpIn_exit (hx _ _ _ _ _ _ hi h)
 | ret=>exact fun hE bN fy=>fun hi h _ _ hr=>wpIn_ret (hr _ _ _ _ _ hi h)
 | rangeFunc g ps assign body iha ihb =>
  intro E r n F hE bN fy ν t H a w kn kx kr Q hi h hn hx hr;unfold vc at h
  split at h
  ·exact h.elim
  rename_i aem;obtain rfl:=fy aem;obtain ⟨gv,h,hg⟩:=kQ h (hi.mJ g)
  split at h
  ·rename_i f xa ya
   split at h
   ·rename_i I vB hI;obtain ⟨zs,Jh,eF,hz,oE⟩:=hg.rY;rw [vB] at hz;have pO:=hz.iW;subst pO;have QR:=hE.I3 f I hI;refine wpIn_rangeFunc ?_;intro fn hfn;obtain ⟨W1,As⟩:∃ W1,W1=(w.alloc (.deferred (some []))).alloc (.loop { state:=.ready,pending:=none,fn,tmps:=a.tmps,params:=ps,assign,body,defers:=w.heap.size }):=⟨_,rfl⟩;refine ⟨w.heap.size+1,[{ target:=.collected w.heap.size,args:=#[] }],W1,{ target:=.fn (.func f) ⟨Jh⟩,args:=#[.func (.yield (w.heap.size+1)) #[] #[]] },W1,f,
     #[.func (.yield (w.heap.size+1)) #[] #[]]++⟨Jh⟩,W1,by rw [As]; exact run_enterLoop_outer _ _ _ _ _,?_,fun _ _=>trivial,?_,fun h=>by simp [WF,Fence.wide] at h,?_⟩
    ·simp only [resolve,eF];simp [go_sem]
    ·simp [invoke,go_sem,QR.enters]
    -- the record's block
    have ny:ν H.length=none:=hi.fr _ (Nat.le_refl _);obtain ⟨dP,ve⟩:∃ dP,dP=ν.add H.length ⟨w.heap.size+1,0,0,0⟩:=⟨_,rfl⟩;have sV:ν.le dP:=by rw [ve]; exact Nu.kh ny
    have h:=yw (mD (h (w.heap.size+1) dP fn a.tmps w.heap.size));have Iq:Below w.heap.size w W1:=by
     rw [As]; exact ((Below.refl _ w).alloc (Nat.le_refl _) _).alloc (by simp) _
    have ba:W1.heap.size=w.heap.size+2:=by rw [As]; simp
    have Dt:W1.heap[w.heap.size+1]?=some (.loop { state:=.ready,pending:=none,fn,tmps:=a.tmps,params:=ps,assign,body,defers:=w.heap.size }):=by
     rw [As]; have:=World.alloc_heap_new (w.alloc (.deferred (some []))) (.loop { state:=.ready,pending:=none,fn,tmps:=a.tmps,params:=ps,assign,body,defers:=w.heap.size }); rwa [World.size_alloc] at this
    have acM:W1.heap[w.heap.size]?=some (.deferred (some [])):=by
     rw [As]; exact (Below.heap_alloc _ _ _ (by simp)).trans (World.alloc_heap_new w _)
    have kH:bT dP (H++[some (.cg { state:=.ready,pending:=none,fn,tmps:=a.tmps,params:=ps,assign,body,defers:=w.heap.size })]) W1:=by
     rw [ve];refine hi.hp.push (b:=.cg { state:=.ready,pending:=none,fn,tmps:=a.tmps,params:=ps,assign,body,defers:=w.heap.size }) Iq ny _ (fun j c hj=>?_) (by simp) ⟨rfl,fun r hr=>absurd hr (Nat.not_lt_zero r),fun r hr=>absurd hr (Nat.not_lt_zero r),(fun h=>nomatch h),fun r hr=>absurd hr (Nat.not_lt_zero r),(fun _ h=>nomatch h),fun r hr=>by cases hr; exact Dt,by rw [ba]; simp⟩
     rw [List.getElem?_append] at hj
     split at hj
     ·rename_i an;exact .inr ⟨by omega,hj⟩
     ·rename_i eF;have:j - H.length=0:=by
       rcases Nat.eq_zero_or_pos (j - H.length) with e | e
       ·exact e
       ·rw [List.getElem?_eq_none (by simp; omega)] at hj; cases hj
      rw [this] at hj;simp at hj;exact .inl ⟨by omega,hj.symm⟩
    have aen:∀ id,(H++[some (aj.cg { state:=.ready,pending:=none,fn,tmps:=a.tmps,params:=ps,assign,body,defers:=w.heap.size })]).length≤id→dP id=none:=fun id bm=>by
     rw [List.length_append] at bm;rw [ve,Nu.iX (by simp at bm; omega)]
     exact hi.fr id (by simp at bm; omega)
    have oc:bf dP (.func (.yield (w.heap.size+1)) #[] #[]::ya.toList) (#[Value.func (.yield (w.heap.size+1)) #[] #[]]++(⟨Jh⟩:Array Value)).toList:=by
     simp only [Array.toList_append];exact .cons (.func _ [] [] [] [] rfl (fun i x y hx _=>by simp at hx) rfl (fun i x y hx _=>by simp at hx)) (oE.mono sV)
    have yc:dP H.length=some ⟨w.heap.size+1,0,0,0⟩:=by rw [ve]; exact Nu.add_same
    refine (QR.calls _ _ dP ?_ _ _ _ h dP _ W1 (n - 1) (uH dP (H++[some (.cg { state:=.ready,pending:=none,fn,tmps:=a.tmps,params:=ps,assign,body,defers:=w.heap.size })])) (fun _ _ h=>h) oc kH aen (fun id b l h1 J h3=>⟨id,b,l,h1,J,h3,rfl⟩)).mono ?_
    ·intro xs Hy K hG vC as wy m O Ir nP QS Du acN;obtain ⟨by0,aeo,hG⟩:=gA hG
     split at hG
     ·rename_i ry;obtain ⟨rfl,hG⟩:=hG;obtain ⟨ly,Ji,hBy⟩:=QS.aJ _ _ aeo;have PZ:=Ir _ _ yc;rw [Ji] at PZ; cases PZ;have acO:=hBy.lr _ rfl;obtain ⟨hlen,t1,hG,QT⟩:=Lo hG;have hG:=mD hG;have Dv:(⟨as⟩:Array Value).size=ps.size:=by
       have:=nP.1;simp at this ⊢
       simpa [this] using hlen.symm
      refine ⟨fn,_,assign,body,run_yield acO Dv,roundIn_of_wpIn trivial ?_⟩;have QU:jT P { E with base:=Hy.length,rd:=true }:=⟨⟨hE.ty,hE.eq,hE.fn,hE.ft⟩,hE.I3,hE.ys⟩
      have QV:lz ⟨wy,O,vC,Hy.length,Du⟩ { E with base:=Hy.length,rd:=true }:=⟨Nat.le_refl _,Nu.le_trans bN.nu (Nu.le_trans hi.mono (Nu.le_trans sV Ir))⟩
      have ia:bu ⟨wy,O,vC,Hy.length,Du⟩ vC t1 Hy { tmps:=(ps.zip ⟨as⟩).foldl (fun tmps (t,a)=>tmps.setIfInBounds t a) a.tmps,defers:=[] } wy:=by
       refine ⟨?_,Marks.nil _ _,QS,Du,Kept.refl wy,fun id b l h1 J h3=>.inl (acN id b l h1 J h3),vC.le_refl⟩
       have:=QT vC a.tmps as (hi.tm.mono (Nu.le_trans sV Ir)) nP;rw [← Array.foldl_toList]
       simpa using this
      refine iha (r:=some (w.heap.size+1)) QU QV (fun h=>by cases h) ia hG ?_ (fun _ _ _ _ _ _ _ h=>h.elim) (fun _ _ _ _ _ _ h=>h.elim)
      intro ν5 t5 H5 a5 w5 Jj h5;obtain ⟨b5,QW,h5⟩:=gA h5
      split at h5
      ·rename_i r5;obtain ⟨rfl,h5⟩:=h5;obtain ⟨afg,h5⟩:=mC h5;obtain ⟨l5,QX,hB5⟩:=Jj.hp.aJ _ _ QW;have P0:=Jj.mono _ _ Ji;rw [QX] at P0; cases P0;have acP:=hB5.lr _ rfl;refine ⟨_,run_beginRound acP rfl,?_⟩;have hi6:=Jj.NP { state:=.busy,pending:=none,fn,tmps:=a.tmps,params:=ps,assign,body,defers:=w.heap.size } QW QX;have fin:∀ (jump:Option Code) Jk t7 H7 a7 w7,bu ⟨wy,O,vC,Hy.length,Du⟩ Jk t7 H7 a7 w7→C4 (fun s p=>⟨s,p,fn,a.tmps,ps,assign,body,w.heap.size⟩) H.length jump K H7 →
         ∃ v w',(Instr.endRound (w.heap.size+1) jump).run P w7=.ok v w'∧G0 K vC O wy (.returned v) w':=by
        intro jump Jk t7 H7 a7 w7 Jl h7;obtain ⟨b7,QY,h7⟩:=gA h7
        split at h7
        ·rename_i r7;obtain ⟨rfl,h7⟩:=h7;obtain ⟨afh,h7⟩:=mC h7;obtain ⟨l7,QZ,hB7⟩:=Jl.hp.aJ _ _ QY;have P3:=Jl.mono _ _ Ji;rw [QZ] at P3; cases P3;have acQ:=hB7.lr _ rfl;have he:=run_endRound (P:=P) jump acQ;refine ⟨_,_,he,?_⟩;have At:=Jl.NP { state:=if jump.isNone then .ready else .done,pending:=jump,fn,tmps:=a.tmps,params:=ps,assign,body,defers:=w.heap.size } QY QZ
         refine ⟨.bool jump.isNone,_,Jk,_,rfl,?_,.bool _,At.mono,At.hp,At.fr,At.kp,At.own⟩;cases jump <;> exact h7
        ·exact h7.elim
       refine ihb (r:=some (w.heap.size+1)) QU QV (fun h=>by cases h) hi6 h5 (fun ν t H a w hi h=>fin none _ _ _ _ _ hi h) (fun i ν t H a w hi h=>fin (some (.exit i)) _ _ _ _ _ hi h) (fun ν t H a w hi h=>fin (some .ret) _ _ _ _ _ hi h)
      ·exact h5.elim
     ·exact hG.elim
    ·rintro e w3 ⟨v,v',ν3,H3,rfl,h3,Jm,Is,DX,aep,P4,acR⟩
     obtain ⟨b3,tw,h3⟩:=gA h3
     split at h3
     ·rename_i r3;obtain ⟨aeq,h3⟩:=mC h3;obtain ⟨l3,Q0,hB3⟩:=DX.aJ _ _ tw;have P5:=Is _ _ yc;rw [Q0] at P5; cases P5;have HC:w3.heap[w.heap.size+1]?=some (.loop r3):=hB3.lr r3 rfl;have an:w.heap.size+1 < w3.heap.size:=(Array.getElem?_eq_some_iff.1 HC).1;have DY:bu F ν3 t (H3.set H.length none) { a with defers:=[{ target:=.collected w.heap.size,args:=#[] }]++a.defers } (w3.putObj (w.heap.size+1) (.loop { r3 with state:=.exhausted })):=by
       have HD:∀ x,uH dP (H++[some (.cg { state:=.ready,pending:=none,fn,tmps:=a.tmps,params:=ps,assign,body,defers:=w.heap.size })]) x→(F.O x∨F.W.heap.size≤x)∧W1.heap[x]?≠some (.deferred (some [])):=by
        rintro x ⟨id,c,l,h1,J,h3,rfl⟩
        obtain ⟨l',h4,hB⟩:=kH.aJ id c h1;rw [h3] at h4; cases h4;refine ⟨?_,fun hd=>?_⟩
        ·by_cases bm:id < H.length
         ·rw [List.getElem?_append_left bm] at h1;rw [ve,Nu.iX (by omega)] at h3
          exact hi.own id c l h1 J h3
         ·have:id=H.length:=by
           have:=(List.getElem?_eq_some_iff.1 h1).1;simp at this; omega
          subst this;rw [yc] at h3; cases h3;exact .inr (by have:=hi.kp.size; show _≤w.heap.size+1; omega)
        ·cases hr:c.rc with
         | none=>obtain ⟨cur,tt,h5,_⟩:=hB.own J hr; rw [h5] at hd; cases hd
         | some r=>rw [hB.lr r hr] at hd; cases hd
       have Pd:∀ D:Nat,W1.heap[D]?=some (Obj.deferred (some []))→(w3.putObj (w.heap.size+1) (.loop { r3 with state:=.exhausted })).heap[D]?=some (Obj.deferred (some [])):=fun D hD=>by
        have Jn:=(P4.aJ D (Array.getElem?_eq_some_iff.1 hD).1 (fun h=>(HD D h).2 hD)).trans hD
        exact (World.putObj_heap_other (fun e=>by rw [e,HC] at Jn; cases Jn)).trans Jn
       have c8:∀ (id:Nat) (b:aj),(H3.set H.length none)[id]?=some (some b)→id≠H.length∧H3[id]?=some (some b):=fun id b hb=>by
        by_cases e:id=H.length
        ·subst e; rw [List.getElem?_set_self aeq] at hb; cases hb
        ·rw [List.getElem?_set_ne (Ne.symm e)] at hb; exact ⟨e,hb⟩
       refine ⟨hi.tm.mono (Nu.le_trans sV Is),?_,⟨fun id b hb=>?_,fun i j bi bj li lj h1 J=>?_⟩,fun id bm=>aep id (by simpa using bm),?_,fun id b l hb ho hl=>?_,Nu.le_trans hi.mono (Nu.le_trans sV Is)⟩
       ·refine ⟨List.nodup_cons.2 ⟨fun hm=>?_,hi.df.1⟩,fun d hd=>?_⟩
        ·obtain ⟨D,e,_,hD⟩:=hi.df.2 _ hm;have:=(Array.getElem?_eq_some_iff.1 hD).1;cases e;omega
        ·rcases List.mem_cons.1 hd with rfl | hd
         ·exact ⟨_,rfl,hi.kp.size,Pd _ acM⟩
         ·obtain ⟨D,e,h0,hD⟩:=hi.df.2 d hd;exact ⟨D,e,h0,Pd D ((Iq.block D (Array.getElem?_eq_some_iff.1 hD).1).trans hD)⟩
       ·obtain ⟨aE,hb⟩:=c8 id b hb;obtain ⟨l,hl,hB⟩:=DX.aJ id b hb;have Ie:=DX.sep _ id _ b _ l tw hb (Ne.symm aE) rfl Q0 hl;exact ⟨l,hl,hB.same (World.putObj_heap_other (Ne.symm Ie)) (by simp)⟩
       ·exact DX.sep i j bi bj li lj (c8 i bi h1).2 (c8 j bj J).2
       ·refine (hi.kp.below Iq).then (P4.then (O':=fun x=>x=w.heap.size+1) ⟨rfl,rfl,rfl,by simp,fun b h1 J=>World.putObj_heap_other J⟩ (fun b hb=>.inl (by subst hb; exact ⟨H.length,.cg { state:=.ready,pending:=none,fn,tmps:=a.tmps,params:=ps,assign,body,defers:=w.heap.size },_,by simp,rfl,yc,rfl⟩))) (fun b hb=>(HD b hb).1)
       ·rcases acR id b l (c8 id b hb).2 ho hl with h | h
        ·exact (HD _ h).1
        ·exact .inr (by have:=hi.kp.size; omega)
      by_cases Pe:r3.state=.busy
      ·rw [Pe] at h3; exact h3.elim
      ·have he:=run_endLoop (P:=P) HC Pe;generalize w3.putObj (w.heap.size+1) (.loop { r3 with state:=.exhausted })=w4 at DY he
       refine ⟨r3.pending,w4,he,?_⟩;clear he;have pick:∀ {X:Prop},(match r3.state,r3.pending with
        | .busy,_=>False
        | _,none=>kn t (H3.set H.length none)
        | _,some (.exit i)=>kx i t (H3.set H.length none)
        | _,some .ret=>kr t (H3.set H.length none)
        | _,_=>False)→(∀ s,(match (generalizing:=false) s,r3.pending with
        | LoopState.busy,_=>False
        | _,none=>kn t (H3.set H.length none)
        | _,some (.exit i)=>kx i t (H3.set H.length none)
        | _,some .ret=>kr t (H3.set H.length none)
        | _,_=>False)→X)→X:=fun h k=>k _ h
       refine pick h3 fun s h3=>?_
       cases hp:r3.pending with
       | none =>
        rw [hp] at h3;cases s <;> first | exact h3.elim | exact hn _ _ _ _ _ DY h3
       | some c =>
        rw [hp] at h3;cases c <;> cases s <;> first | exact h3.elim | exact wpIn_exit (hx _ _ _ _ _ _ DY h3) | exact wpIn_ret (hr _ _ _ _ _ DY h3)
     ·exact h3.elim
   ·exact h.elim
  ·exact h.elim
 | _=>exact fun _ _ _=>fun _ h _ _ _=>h.elim
def zz (tmps:Array Value):ResultVar→Sem Value
 | .tmp t=>pure (tmps.getD t undef)
 | .cell x t=>do loadVar t (← asAddr (tmps.getD x undef))
theorem To (fn:Func) (tmps:Array Value):results fn tmps=(do let vs ← fn.results.mapM (zz tmps); pure (if h:vs.size=1 then vs[0] else .tuple vs)):=rfl
theorem Tp (a:Addr):asAddr (.pointer (some a))=pure a:=rfl
theorem ED (hE:jT P E) {ν:Nu} {tmps:List Value} {H:aA} {a:Act} {w:World} (hi:bu F ν tmps H a w):∀ {l:List ResultVar} {k:List Value→Prop},wM E H tmps l k →
  ∃ vs fR,k vs∧bf ν vs fR∧(l.mapM (zz a.tmps)).run P w=.ok fR w
 | [],k,h=>⟨[],[],h,.nil ν,rfl⟩
 | .tmp t::l,k,h=>by
  obtain ⟨v,hv,h⟩:=oZ h;obtain ⟨v',jl,hr⟩:=hi.tm.get hv;obtain ⟨vs,fR,h1,J,h3⟩:=ED hE hi h;have e:a.tmps.getD t undef=v':=by
   have:a.tmps[t]?=some v':=by simpa using jl
   simp [this]
  exact ⟨v::vs,v'::fR,h1,.cons hr J,by simp only [List.mapM_cons,zz,Sem.run_bind,Sem.run_pure,Result.andThen_ok,h3,e]⟩
 | .cell x t::l,k,h=>by
  obtain ⟨v,hv,h⟩:=oZ h;obtain ⟨v',jl,hr⟩:=hi.tm.get hv
  split at h
  ·rename_i id row sp;obtain ⟨ti,ht,h⟩:=cR h;obtain ⟨b,hb,h⟩:=gA h;obtain ⟨aZ,h⟩:=L4 h;obtain ⟨us,h,hl,ta⟩:=yu h;obtain ⟨lc,dH,hB⟩:=hi.hp.aJ id b hb;obtain ⟨lc',P6,he⟩:=hr.n5;rw [dH] at P6; cases P6;obtain ⟨us',h1,J,h3⟩:=Ld hB aZ hl ta;obtain ⟨vs,fR,k1,k2,k3⟩:=ED hE hi h;have e:a.tmps.getD x undef=v':=by
    have:a.tmps[x]?=some v':=by simpa using jl
    simp [this]
   refine ⟨_,_::fR,k1,.cons (Fs h1) k2,?_⟩;simp only [List.mapM_cons,zz,Sem.run_bind,Result.andThen_ok,e,he,Tp,Sem.run_pure,Kr (hE.ty _ _ ht) J h3,k3]
  ·exact h.elim
structure om (n0:Nat) (w w':World):Prop where
 os:w'.os=w.os
 tape:w'.tape=w.tape
 output:w'.output=w.output
 size:w'.heap.size=w.heap.size
 low:∀ q:Nat,q < n0→w'.heap[q]?=w.heap[q]?
 same:∀ (q:Nat) (o:Obj),(∀ c,o≠.deferred c)→w.heap[q]?=some o→w'.heap[q]?=some o
theorem om.refl (n0:Nat) (w:World):om n0 w w:=⟨rfl,rfl,rfl,rfl,fun _ _=>rfl,fun _ _ _ h=>h⟩
theorem om.trans {n0:Nat} {w w' Q1:World} (h:om n0 w w') (k:om n0 w' Q1):om n0 w Q1 :=
 ⟨k.os.trans h.os,k.tape.trans h.tape,k.output.trans h.output,k.size.trans h.size,fun q hq=>(k.low q hq).trans (h.low q hq),fun q o ho hq=>k.same q o ho (h.same q o ho hq)⟩
theorem VS {n0 D:Nat} {w:World} (hD:w.heap[D]?=some (Obj.deferred (some []))) (h0:n0≤D):om n0 w (w.putObj D (.deferred none)) :=
 ⟨rfl,rfl,rfl,by simp,fun q hq=>World.putObj_heap_other (by omega),fun q o ho hq=>(World.putObj_heap_other (fun e=>by subst e; rw [hD] at hq; cases hq; exact ho _ rfl)).trans hq⟩
theorem Kw {fn:Func} {tmps:Array Value} {R:Ending→World→Prop} {n0:Nat}:∀ (ds:List Deferred) (w:World),Marks n0 ds w→(∀ w',om n0 w w'→∃ v,(results fn tmps).run P w'=.ok v w'∧R (.returned v) w')→LeavesInM Fence.wide n P fn tmps R ds .returning w
 | [],w,_,h=>h w (om.refl n0 w)
 | d::ds,w,hm,h=>by
  obtain ⟨D,rfl,h0,hD⟩:=hm.2 d (List.mem_cons_self ..);have mY:=List.nodup_cons.1 hm.1;refine ⟨by simp,.inl ⟨D,w.putObj D (.deferred none),rfl,run_takeDeferred hD,?_⟩⟩
  refine Kw ds _ ⟨mY.2,fun e he=>?_⟩ fun w' Jo=>h w' ((VS hD h0).trans Jo)
  obtain ⟨D',rfl,h1,Au⟩:=hm.2 e (List.mem_cons_of_mem _ he);exact ⟨D',rfl,h1,(World.putObj_heap_other (fun e2=>mY.1 (by rw [← e2]; exact he))).trans Au⟩
theorem bQ.shut {ν:Nu} {l:Loc} {b:aj} {n0:Nat} {w w':World} (h:bQ ν l b w) (hs:om n0 w w'):bQ ν l b w':=by
 refine ⟨h.ah,h.len,fun r hr j v hv=>?_,h.plain,h.one,fun ho hc=>?_,fun r hr=>hs.same _ _ (fun c=>by simp) (h.lr r hr),by rw [hs.size]; exact h.live⟩
 ·obtain ⟨v',h1,J⟩:=h.cell r hr j v hv;refine ⟨v',?_,J⟩;have h3:=h1;unfold World.cell? at h3;cases ho:w.heap[(l.at r j).block]? with
  | none=>simp [ho] at h3
  | some o =>
   have:∀ c,o≠Obj.deferred c:=fun c e=>by subst e; simp [ho] at h3
   rw [World.cell?_of_block (a:=l.at r j) ((hs.same _ _ this ho).trans ho.symm)];exact h1
 ·obtain ⟨cur,t,h1,J⟩:=h.own ho hc;exact ⟨cur,t,hs.same _ _ (fun c=>by simp) h1,J⟩
theorem bT.shut {ν:Nu} {H:aA} {n0:Nat} {w w':World} (h:bT ν H w) (hs:om n0 w w'):bT ν H w' :=
 ⟨fun id b hi=>let ⟨l,h1,J⟩:=h.aJ id b hi; ⟨l,h1,J.shut hs⟩,h.sep⟩
def ck (E:Env) (D:Env→List Oper→List Value→aA→SK→Prop) (fn:Func) (args:List Value) (H:aA) (K:Value→aA→Prop):Prop :=
 match fn.body with
 | some c=>jy H fun n0=>qR args (List.replicate (fn.ntmps - args.length) undef) fun t0 =>
  vc { E with base:=n0 } D c t0 H (fun t H=>wM { E with base:=n0 } H t fn.results.toList fun vs=>Ds vs fun v=>K v H) (fun _ _ _=>False) (fun t H=>wM { E with base:=n0 } H t fn.results.toList fun vs=>Ds vs fun v=>K v H)
 | none=>False
theorem jT.at {E:Env} (hE:jT P E) (n0:Nat):jT P { E with base:=n0 }:=⟨⟨hE.ty,hE.eq,hE.fn,hE.ft⟩,hE.I3,hE.ys⟩
theorem yI (hE:jT P E) (hD:nN P D) {f:FuncId} {fn:Func} (hf:P.funcs[f]?=some fn) {args as:List Value} {H:aA} {ν:Nu} {w:World} {O:Nat→Prop} {K:Value→aA→Prop} {n:Nat}
  (h:ck E D fn args H K) (ha:bf ν args as) (hH:bT ν H w) (gk:∀ id,H.length≤id→ν id=none)
  (kD:∀ id b l,H[id]?=some (some b)→b.own=true→ν id=some l→O l.aJ) (hnu:E.nu.le ν) {R:Ending→World→Prop}
  (hR:∀ al v v' t H' a w',bu ⟨w,O,ν,H.length,gk⟩ al t H' a w'→K v H'→aq al v v'→R (.returned v') w'):CallsIn Fence.wide n P f ⟨as⟩ w R:=by
 unfold ck at h
 split at h
 ·rename_i c hc;have h:=wx (mD h);refine callsIn_of_wp_marks hf hc trivial ?_;have hi:bu ⟨w,O,ν,H.length,gk⟩ ν (args++List.replicate (fn.ntmps - args.length) undef) H { tmps:=(⟨as⟩:Array Value)++Array.replicate (fn.ntmps - (⟨as⟩:Array Value).size) undef,defers:=[] } w:=by
   refine ⟨?_,Marks.nil _ _,hH,gk,Kept.refl w,fun id b l h1 J h3=>.inl (kD id b l h1 J h3),ν.le_refl⟩
   have e:((⟨as⟩:Array Value)++Array.replicate (fn.ntmps - (⟨as⟩:Array Value).size) undef).toList=as++List.replicate (fn.ntmps - args.length) undef:=by
    simp [ha.1]
   rw [e];refine ha.append ⟨rfl,fun i x y hx hy=>?_⟩
   rw [hx] at hy; cases hy;have:=List.mem_of_getElem? hx;simp at this;rw [this.2]; exact .undef ν
  have Q5:=hE.at H.length;have fin:∀ al t H' a w',bu ⟨w,O,ν,H.length,gk⟩ al t H' a w'→(wM { E with base:=H.length } H' t fn.results.toList fun vs=>Ds vs fun v=>K v H')→LeavesInM Fence.wide n P fn a.tmps R a.defers .returning w':=by
   intro al t H' a w' fY h';refine Kw a.defers w' fY.df fun w2 hs=>?_
   have aP:bu ⟨w,O,ν,H.length,gk⟩ al t H' { tmps:=a.tmps,defers:=[] } w2 :=
    ⟨fY.tm,Marks.nil _ _,fY.hp.shut hs,fY.fr,⟨hs.os.trans fY.kp.os,hs.tape.trans fY.kp.tape,hs.output.trans fY.kp.output,by rw [hs.size]; exact fY.kp.size,fun b h1 J=>(hs.low b h1).trans (fY.kp.aJ b h1 J)⟩,fY.own,fY.mono⟩
   obtain ⟨vs,fR,h1,J,h3⟩:=ED Q5 aP h';have aer:(fn.results.mapM (zz a.tmps)).run P w2=.ok ⟨fR⟩ w2:=by
    rw [Array.mapM_eq_mapM_toList];simp only [Sem.run_map,h3,Result.andThen_ok]
   rw [To];simp only [Sem.run_bind,aer,Result.andThen_ok,Sem.run_pure];refine ⟨_,rfl,?_⟩;unfold Ds at h1
   split at h1
   ·rename_i v;obtain ⟨y,ys,rfl,k1,k2⟩:=J.jr;rw [k2.iW];exact hR _ _ _ _ _ _ _ aP h1 k1
   ·rename_i aE;have hlen:¬ ((⟨fR⟩:Array Value).size=1):=by
     intro e;have:vs.length=1:=by rw [J.1]; exact e
     obtain ⟨v,rfl⟩:=List.length_eq_one_iff.1 this;exact aE v rfl
    rw [dif_neg hlen];exact hR _ _ _ _ _ _ _ aP h1 (.tuple _ _ J.1 J.2)
  exact VR hD c (r:=none) (F:=⟨w,O,ν,H.length,gk⟩) Q5 ⟨Nat.le_refl _,hnu⟩ (fun _=>rfl) hi h (fun ν t H a w' aP h'=>fin ν t H a w' aP h') (fun _ _ _ _ _ _ _ h'=>h'.elim) (fun ν t H a w' aP h'=>fin ν t H a w' aP h')
 ·exact h.elim
theorem Cj {E:Env} {ν:Nu} (h:E.nu=fun _=>none):E.nu.le ν:=by rw [h]; exact fun _ _ h=>nomatch h
theorem bk {S:bE} (hE:EnvOk P E) (hD:nN P D) {f:FuncId} {fn:Func} (hf:P.funcs[f]?=some fn) (oA:∀ args w,(callFunc f args).run P w=.ok (.enter f args) w)
  (ha:∀ i,BB (S.args i)=true) (hv:∀ i,CH (S.val i)=true) (h:∀ i,S.pre i→ck E D fn (S.args i) [] fun v _=>v=S.val i)
  (hI:gP P E:=by exact gP.none rfl) (hy:E.ys=[]:=by rfl) (hu:E.nu=(fun _=>none):=by rfl):bh P f S:=by
 refine ⟨oA,fun i hp ν as w n has=>?_⟩
 have e:=(EC (ha i)).2 ν as has;subst e;refine yI (O:=fun _=>False) (ν:=fun _=>none) (hE.x hI hy) hD hf (h i hp) ((EC (ha i)).1 _) ⟨fun id b hb=>by simp at hb,fun i j bi bj li lj hi=>by simp at hi⟩ (fun _ _=>rfl) (fun id b l hb=>by simp at hb) (Cj hu) ?_
 rintro al v v' t H a w' hi rfl hr
 exact ⟨v',rfl,by rw [(EV (hv i)).2 _ _ hr]; exact (EV (hv i)).1 ν,⟨hi.kp.os,hi.kp.tape,hi.kp.output,hi.kp.size,fun k hk=>hi.kp.aJ k hk (fun h=>h)⟩⟩
theorem jc (hE:EnvOk P E) (hD:nN P D) {f:FuncId} {fn:Func} (hf:P.funcs[f]?=some fn) (oA:∀ args w,(callFunc f args).run P w=.ok (.enter f args) w)
  (hI:gP P E:=by exact gP.none rfl) (hy:E.ys=[]:=by rfl) (hu:E.nu=(fun _=>none):=by rfl):fM P f (ck E D fn):=by
 refine ⟨oA,fun args H K h ν as w n O ha hH gk kD=>yI (hE.x hI hy) hD hf h ha hH gk kD (Cj hu) ?_⟩
 intro al v v' t H' a w' hi hk hv;exact ⟨v,v',al,H',rfl,hk,hv,hi.mono,hi.hp,hi.fr,hi.kp,hi.own⟩
theorem Pf (hE:EnvOk P E) (hD:nN P D) {f:FuncId} {fn:Func} (hf:P.funcs[f]?=some fn) (oA:∀ args w,(callFunc f args).run P w=.ok (.enter f args) w)
  (hI:gP P E:=by exact gP.none rfl):zN P f (fun l G nu=>ck { E with ys:=[(l,G)],nu:=nu } D fn):=by
 refine ⟨oA,fun l G bn hY args H K h ν as w n O hle ha hH gk kD=>?_⟩
 refine yI (E:={ E with ys:=[(l,G)],nu:=bn }) ⟨⟨hE.ty,hE.eq,hE.fn,hE.ft⟩,hI,fun l' G' r e=>by cases e; exact hY⟩ hD hf h ha hH gk kD hle ?_
 intro al v v' t H' a w' hi hk hv;exact ⟨v,v',al,H',rfl,hk,hv,hi.mono,hi.hp,hi.fr,hi.kp,hi.own⟩
end
open Go Go.RowKit
def FB:Value→Bool
 | .bool _ | .int _ _ | .string _ | .pointer none | .nilFunc=>true
 | .slice none 0 0=>true
 | _=>false
theorem R6 {v:Value} (h:FB v=true):(∀ ν,aq ν v v)∧v.oneCell'=true:=by
 unfold FB at h
 split at h
 ·exact ⟨fun ν=>.bool _,rfl⟩
 ·exact ⟨fun ν=>.int _ _,rfl⟩
 ·exact ⟨fun ν=>.str _,rfl⟩
 ·exact ⟨fun ν=>.mM,rfl⟩
 ·exact ⟨fun ν=>.mN,rfl⟩
 ·exact ⟨fun ν=>.iL,rfl⟩
 ·cases h
def Bs:List Value→Bool
 | []=>true
 | v::l=>FB v && Bs l
theorem Ki:∀ {l:List Value},Bs l=true→(∀ ν,bf ν l l)∧∀ v∈l,v.oneCell'=true
 | [],_=>⟨fun ν=>.nil ν,fun v hv=>by simp at hv⟩
 | v::l,h=>by
  simp only [Bs,Bool.and_eq_true] at h;obtain ⟨h1,J⟩:=R6 h.1;obtain ⟨h3,h4⟩:=Ki h.2;exact ⟨fun ν=>.cons (h1 ν) (h3 ν),fun u hu=>by
   rcases List.mem_cons.1 hu with e | e
   ·rw [e]; exact J
   ·exact h4 u e⟩
def w6 (P:Program):List Field→List (Nat × Nat × Bool)→Bool
 | [],[]=>true
 | f::l,x::m=>Nat.beq f.offset x.1 && Nat.ble 1 x.2.1 && (match P.info? f.type with | some i=>Nat.beq i.size x.2.1 | none=>false) &&
  (match P.underlying f.type with | some d=>(uF d == x.2.2) | none=>false) && w6 P l m
 | _,_=>false
theorem Kx {P:Program}:∀ {l:List Field} {m:List (Nat × Nat × Bool)},w6 P l m=true→l.length=m.length∧∀ (i:Nat) f x,l[i]?=some f→m[i]?=some x→yQ P f x
 | [],[],_=>⟨rfl,fun i f x h=>by simp at h⟩
 | f::l,x::m,h=>by
  simp only [w6,Bool.and_eq_true] at h;obtain ⟨⟨⟨⟨h1,J⟩,h3⟩,h4⟩,h5⟩:=h;obtain ⟨k1,k2⟩:=Kx h5;refine ⟨by simp [k1],fun i g y hg hy=>?_⟩
  cases i with
  | zero =>
   simp at hg hy;subst hg; subst hy;refine ⟨Nat.eq_of_beq_eq_true h1,Nat.le_of_ble_eq_true J,?_,?_⟩
   ·split at h3
    ·exact ⟨_,by assumption,Nat.eq_of_beq_eq_true h3⟩
    ·cases h3
   ·split at h4
    ·exact ⟨_,by assumption,by simpa using h4⟩
    ·cases h4
  | succ i=>exact k2 i g y (by simpa using hg) (by simpa using hy)
 | [],_::_,h=>by simp [w6] at h
 | _::_,[],h=>by simp [w6] at h
def HE (P:Program) (t:TypeId) (k:TK):Bool :=
 match k,P.underlying t with
 | .int q,some (.int q')=>decide (q=q')
 | .bool,some .bool=>true
 | .str,some .string=>true
 | .struct fs,some (.struct fields)=>w6 P fields.toList fs
 | .slice e,some (.slice e')=>Nat.beq e e'
 | .array n e,some (.array n' e')=>Nat.beq n n' && Nat.beq e e'
 | .other,some d=>!uF d
 | _,_=>false
theorem Tq {P:Program} {t:TypeId} {k:TK} (h:HE P t k=true):∃ d,P.underlying t=some d∧DK P k d:=by
 unfold HE at h
 split at h
 ·exact ⟨_,by assumption,by rw [of_decide_eq_true h]; rfl⟩
 ·exact ⟨_,by assumption,rfl⟩
 ·exact ⟨_,by assumption,rfl⟩
 ·obtain ⟨h1,J⟩:=Kx h;exact ⟨_,by assumption,_,rfl,by simpa using h1,fun i f x hf hx=>J i f x (by simpa using hf) hx⟩
 ·exact ⟨_,by assumption,by rw [Nat.eq_of_beq_eq_true h]; rfl⟩
 ·simp only [Bool.and_eq_true] at h;exact ⟨_,by assumption,by rw [Nat.eq_of_beq_eq_true h.1,Nat.eq_of_beq_eq_true h.2]; rfl⟩
 ·exact ⟨_,by assumption,by simpa [DK] using h⟩
 ·cases h
def OF (ti:TI):Bool:=Bs ti.zero && Nat.beq ti.zero.length ti.size && Nat.ble 1 ti.size && Nat.ble 1 ti.bytes
theorem aL {P:Program} {t:TypeId} {ti:TI} (h1:(P.info? t).map (fun i=>(i.size,i.bytes,i.zero.map fun z=>z.cells.toList))=some (ti.size,ti.bytes,some ti.zero)) (J:HE P t ti.kind=true) (h3:OF ti=true):aB P t ti:=by
 obtain ⟨i,hi,he⟩:=Option.map_eq_some_iff.1 h1;simp only [Prod.mk.injEq] at he;obtain ⟨e1,e2,e3⟩:=he;obtain ⟨z,hz,oE⟩:=Option.map_eq_some_iff.1 e3;simp only [OF,Bool.and_eq_true] at h3;obtain ⟨⟨⟨k1,k2⟩,k3⟩,k4⟩:=h3;obtain ⟨k5,k6⟩:=Ki k1;exact ⟨⟨i,hi,e1,e2,z,hz,Array.ext' oE⟩,Tq J,k5,Nat.eq_of_beq_eq_true k2,k6,Nat.le_of_ble_eq_true k3,Nat.le_of_ble_eq_true k4⟩
inductive ET where
 | bool | int (k:IntKind) | str
 | struct (fs:List (Nat × ET))      -- each field's size and shape
open Go Go.RowKit
def iI:List Operand→List Tmp
 | []=>[]
 | .tmp t::l=>t::iI l
 | _::l=>iI l
theorem p7 {t:Tmp}:∀ {l:List Operand},Operand.tmp t∈l→t∈iI l
 | .tmp u::l,h=>by
  rcases List.mem_cons.1 h with e | e
  ·cases e; simp [iI]
  ·simp [iI,p7 e]
 | .const v::l,h=>by
  rcases List.mem_cons.1 h with e | e
  ·cases e
  ·simpa [iI] using p7 e
 | .global v::l,h=>by
  rcases List.mem_cons.1 h with e | e
  ·cases e
  ·simpa [iI] using p7 e
 | .func v::l,h=>by
  rcases List.mem_cons.1 h with e | e
  ·cases e
  ·simpa [iI] using p7 e
def jo (ops:List Oper) (o:Oper):List Tmp :=
 iI o.op.operands.toList++(match o.guard with | some (j,_)=>(match (ops[j]?).bind (·.dst) with | some d=>[d] | none=>[]) | none=>[])
def Ck (ops:List Oper) (aS:List (List Nat)):Bool :=
 (List.range ops.length).all fun j=>match ops[j]? with
  | some o=>(aS.getD j []).all fun i=>i < j && o.after.toList.any fun e=>Region.binds .any e && (e.on == i || ((aS.getD e.on []).contains i && decide (e.on < j)))
  | none=>true
def CI (ops:List Oper) (m:Nat) (aS:List (List Nat)):Bool :=
 decide (m≤ops.length) && Ck ops aS &&
 (List.range ops.length).all (fun j=>match ops[j]? with
  | some o=>o.after.toList.all fun e=>!Region.binds .any e || decide (e.on < j)
  | none=>true) &&
 (List.range m).all (fun j=>match ops[j]? with
  | some o=>(List.range m).all fun i=>i == j || match ops[i]? with
   | some p=>match p.dst with
    | some d=>(o.dst != some d) && (!(jo ops o).contains d || (aS.getD j []).contains i || (aS.getD i []).contains j)
    | none=>true
   | none=>true
  | none=>true) &&
 (List.range ops.length).all (fun j=>decide (j < m) || (List.range j).all fun i=>(aS.getD j []).contains i)
def lP:List (Option aj)→Nat→List Nat→(List (Option aj)→Prop)→Prop
 | [],_,_,k=>k []
 | b::S,i,mask,k=>match mask with
  | m::ms=>match Nat.beq m i with
   | true=>lP S (i+1) ms fun S'=>k (b::S')
   | false=>lP S (i+1) (m::ms) fun S'=>k (none::S')
  | []=>lP S (i+1) [] fun S'=>k (none::S')
def nQ:aA→List (Option aj)→(aA→Prop)→Prop
 | [],S,k=>k S
 | b::H,S,k=>nQ H S fun G=>k (b::G)
theorem ud:∀ {H:aA} {S:List (Option aj)} {k:aA→Prop},nQ H S k→k (H++S)
 | [],_,_,h=>h
 | _::H,S,k,h=>ud (H:=H) h
def jv:List (Option aj)→Option aj→(List (Option aj)→Prop)→Prop
 | [],b,k=>k [b]
 | c::S,b,k=>jv S b fun S'=>k (c::S')
theorem tS:∀ {S:List (Option aj)} {b:Option aj} {k:List (Option aj)→Prop},jv S b k→k (S++[b])
 | [],_,_,h=>h
 | _::S,b,k,h=>tS (S:=S) h
def lQ (E:Env) (ops:List Oper) (H:aA) (n0:Nat):List Oper→List (List Nat)→Nat→List Value→List (Option aj)→(List Value→List (Option aj)→Prop)→Prop
 | [],_,_,t,S,k=>k t S
 | o::l,mask::aS,j,t,S,k =>
  match o.guard with
  | none=>lP S 0 mask fun Sm=>nQ H Sm fun G=>lu E o.op t G (n0+j) fun v nb=>dq t o.dst v fun t'=>jv S nb fun S'=>lQ E ops H n0 l aS (j+1) t' S' k
  | some (g,want)=>match (ops[g]?).bind (·.dst) with
   | some d=>qQ t d fun v=>match v with
    | .bool b=>br (b == want)
      (lP S 0 mask fun Sm=>nQ H Sm fun G=>lu E o.op t G (n0+j) fun v nb=>dq t o.dst v fun t'=>jv S nb fun S'=>lQ E ops H n0 l aS (j+1) t' S' k)
      (dq t o.dst undef fun t'=>jv S none fun S'=>lQ E ops H n0 l aS (j+1) t' S' k)
    | .tuple _=>dq t o.dst undef fun t'=>jv S none fun S'=>lQ E ops H n0 l aS (j+1) t' S' k
    | _=>False
   | none=>False
 | _::_,[],_,_,_,_=>False
def uV:List Oper→Nat→(List Oper→List Oper→Prop)→Prop
 | l,0,k=>k [] l
 | [],_+1,_=>False
 | o::l,m+1,k=>uV l m fun a b=>k (o::a) b
theorem yA:∀ {l:List Oper} {m:Nat} {k:List Oper→List Oper→Prop},uV l m k→m≤l.length∧k (l.take m) (l.drop m)
 | l,0,_,h=>⟨by simp,by simpa [uV] using h⟩
 | [],_+1,_,h=>h.elim
 | o::l,m+1,k,h=>by
  obtain ⟨h1,J⟩:=yA (l:=l) h;exact ⟨by simp; omega,by simpa using J⟩
def Pg (E:Env) (ops:List Oper) (t:List Value) (H:aA) (k:SK):Prop :=
 ∃ (m:Nat) (aS:List (List Nat)),CI ops m aS=true∧jy H fun n0=>uV ops m fun hd tl=>lQ E ops H n0 hd aS 0 t [] fun t' S=>nQ H S fun G=>nI E ops tl t' G k
structure c6 where
 v:Value
 nb:Option aj
 run:Bool
def bU (ops:List Oper) (i:Nat):Option Tmp:=(ops[i]?).bind (·.dst)
def bc (ops:List Oper) (rs:List c6) (D:Nat→Bool) (t0:List Value):Nat→List Value
 | 0=>t0
 | i+1=>match D i,bU ops i,rs[i]? with
  | true,some d,some r=>(bc ops rs D t0 i).set d r.v
  | _,_,_=>bc ops rs D t0 i
def kU (rs:List c6) (D:Nat→Bool) (m:Nat):List (Option aj):=(List.range m).map fun i=>if D i then (rs[i]?).bind (·.nb) else none
section
variable {ops:List Oper} {rs:List c6} {t0:List Value}
theorem rO (D:Nat→Bool):∀ m,(bc ops rs D t0 m).length=t0.length
 | 0=>rfl
 | m+1=>by
  unfold bc
  split
  ·rw [List.length_set]; exact rO D m
  ·exact rO D m
def xD (ops:List Oper) (m:Nat):Prop:=∀ i j d,i < m→j < m→bU ops i=some d→bU ops j=some d→i=j
theorem wA (D:Nat→Bool) {d:Tmp}:∀ m,(∀ i,i < m→D i=true→bU ops i=some d→rs[i]?=none)→(bc ops rs D t0 m)[d]?=t0[d]?
 | 0,_=>rfl
 | m+1,h=>by
  unfold bc
  split
  ·rename_i d' r hD hd hr;have aE:d'≠d:=fun e=>by subst e; rw [h m (by omega) hD hd] at hr; cases hr
   rw [List.getElem?_set_ne aE];exact wA D m (fun i hi=>h i (by omega))
  ·exact wA D m (fun i hi=>h i (by omega))
theorem ue (D:Nat→Bool) {d:Tmp} {i:Nat} {r:c6} (hd:bU ops i=some d) (hr:rs[i]?=some r) (hD:D i=true) (an:d < t0.length) :
  ∀ m,i < m→xD ops m→(bc ops rs D t0 m)[d]?=some r.v
 | 0,h,_=>by omega
 | m+1,h,ha=>by
  by_cases e:i=m
  ·subst e;unfold bc;rw [hD,hd,hr]
   dsimp only
   rw [List.getElem?_set_self];rw [rO]; exact an
  ·have ih:=ue D hd hr hD an m (by omega) (fun a b c h1 J=>ha a b c (by omega) (by omega))
   unfold bc
   split
   ·rename_i d' r' Au cX iP;have aE:d'≠d:=fun e'=>by subst e'; exact e (ha i m d' (by omega) (by omega) hd cX)
    rw [List.getElem?_set_ne aE]; exact ih
   ·exact ih
theorem yB {D D':Nat→Bool} {d:Tmp} {m:Nat} (ha:xD ops m) (an:∀ i d,i < m→bU ops i=some d→d < t0.length) (h:∀ i,i < m→bU ops i=some d→D i=D' i) :
  (bc ops rs D t0 m)[d]?=(bc ops rs D' t0 m)[d]?:=by
 by_cases hex:∃ i r,i < m∧bU ops i=some d∧D i=true∧rs[i]?=some r
 ·obtain ⟨i,r,hi,hd,hD,hr⟩:=hex;rw [ue D hd hr hD (an i d hi hd) m hi ha,ue D' hd hr (by rw [← h i hi hd]; exact hD) (an i d hi hd) m hi ha]
 ·rw [wA D m,wA D' m]
  ·intro i hi hD hd;cases hr:rs[i]? with
   | none=>rfl
   | some r=>exact absurd ⟨i,r,hi,hd,by rw [h i hi hd]; exact hD,hr⟩ hex
  ·intro i hi hD hd;cases hr:rs[i]? with
   | none=>rfl
   | some r=>exact absurd ⟨i,r,hi,hd,hD,hr⟩ hex
theorem Lp {D D':Nat→Bool} {m j:Nat} (ha:xD ops m) (an:∀ i d,i < m→bU ops i=some d→d < t0.length) (hj:j < m) (hDj:D j=false) (Au:∀ i,D' i=(D i || i == j)) {r:c6} (hr:rs[j]?=some r) :
  bc ops rs D' t0 m=match bU ops j with | some d=>(bc ops rs D t0 m).set d r.v | none=>bc ops rs D t0 m:=by
 apply List.ext_getElem?;intro x;have Q6:∀ i,i≠j→D' i=D i:=fun i hi=>by rw [Au i]; simp [hi]
 cases hd:bU ops j with
 | none =>
  dsimp only
  refine yB ha an (fun i hi fZ=>Q6 i (fun e=>?_))
  subst e; rw [hd] at fZ; cases fZ
 | some d =>
  dsimp only
  by_cases e:d=x
  ·subst e;have hl:=an j d hj hd;rw [List.getElem?_set_self (by rw [rO]; exact hl)]
   exact ue D' hd hr (by rw [Au j]; simp) hl m hj ha
  ·rw [List.getElem?_set_ne e];refine yB ha an (fun i hi fZ=>Q6 i (fun e'=>?_))
   subst e'; rw [hd] at fZ; cases fZ; exact e rfl
theorem rR {D:Nat→Bool} {m i:Nat} {b:aj}:(kU rs D m)[i]?=some (some b)↔i < m∧D i=true∧(rs[i]?).bind (·.nb)=some b:=by
 unfold kU;rw [List.getElem?_map];by_cases h:i < m
 ·simp only [List.getElem?_range h,Option.map_some,Option.some.injEq];cases D i <;> simp [h]
 ·rw [List.getElem?_eq_none (by simp; omega)]
  simp [h]
theorem Ky (D:Nat→Bool) (m:Nat):(kU rs D m).length=m:=by simp [kU]
end
def mG:Op→Bool
 | .move _=>true
 | .extract _ _=>true
 | .binOp _ _ _ _ _=>true
 | .slice _ _ _ _ _=>true
 | _=>false
def mH:Op→Bool
 | .load _ _=>true
 | .indexAddr _ _ _=>true
 | .call c=>match c.callee with
  | .builtin .len=>true
  | _=>false
 | _=>false
structure pj (P:Program) (ops:List Oper) (t0:List Value) (H:aA) (aS:List (List Nat)) (rs:List c6) (j:Nat):Prop where
 ok:∃ o r,ops[j]?=some o∧rs[j]?=some r∧(∀ d,o.dst=some d→d < t0.length) ∧
  ((∃ G:aA,(∀ id b,G[id]?=some (some b)→(id < H.length∧H[id]?=some (some b))∨(∃ i,id=H.length+i∧i < j∧i∈aS.getD j []∧(rs[i]?).bind (·.nb)=some b)) ∧
    (∀ (ν:Nu) (a:Act) (w:World) (q:Option Nat) (n:Nat),(∀ x∈o.op.operands,fj ν (bc ops rs (fun i=>decide (i < j)) t0 j) a x)→bT ν G w→ν (H.length+j)=none →
     ∀ next Q,(∀ v' w' al,nw ν al (H.length+j) w w' r.v v' r.nb→next (a.put o.dst v') w')→o.wpIn (WF q) n P a w next Q) ∧
    (o.guard=none∨∃ g want d b,o.guard=some (g,want)∧bU ops g=some d∧(bc ops rs (fun i=>decide (i < j)) t0 j)[d]?=some (.bool b)∧(b == want)=true)) ∨
    (r.v=undef∧r.nb=none∧∃ g want d v,o.guard=some (g,want)∧bU ops g=some d∧(bc ops rs (fun i=>decide (i < j)) t0 j)[d]?=some v∧((∃ b,v=.bool b∧(b == want)=false)∨∃ vs,v=.tuple vs)))
 mv:∀ o,ops[j]?=some o→(mG o.op || mH o.op)=true→o.guard=none→∃ r,rs[j]?=some r∧r.nb=none∧∃ G:aA,(∀ id b,G[id]?=some (some b)→(id < H.length∧H[id]?=some (some b))∨(∃ i,id=H.length+i∧i < j∧i∈aS.getD j []∧(rs[i]?).bind (·.nb)=some b)) ∧
  (mG o.op=true→∀ (bn:Nu) (w0:World),bT bn G w0→qH P bn o.op (bc ops rs (fun i=>decide (i < j)) t0 j) r.v)∧(mH o.op=true→∀ bn,ob P bn G o.op (bc ops rs (fun i=>decide (i < j)) t0 j) r.v)
theorem Tr {P:Program} {E:Env} (hE:EnvOk P E) {op:Op} {tmps:List Value} {H:aA} {aI:Nat} {k:QK} (h:lu E op tmps H aI k) :
  ∃ v nb,k v nb∧(∀ (o:Oper) (ν:Nu) (a:Act) (w:World) (r:Option Nat) (n:Nat),o.op=op→(∀ x∈op.operands,fj ν tmps a x)→bT ν H w→ν aI=none →
   ∀ next Q,(∀ v' w' al,nw ν al aI w w' v v' nb→next (a.put o.dst v') w')→o.wpIn (WF r) n P a w next Q) ∧
   (mG op=true→nb=none∧∀ (bn:Nu) (w0:World),bT bn H w0→qH P bn op tmps v)∧(mH op=true→nb=none∧∀ bn,ob P bn H op tmps v):=by
 have mk:mH op=false→∀ v,k v none→(∀ (bn:Nu) (w0:World),bT bn H w0→qH P bn op tmps v)→∃ v nb,k v nb∧(∀ (o:Oper) (ν:Nu) (a:Act) (w:World) (r:Option Nat) (n:Nat),o.op=op→(∀ x∈op.operands,fj ν tmps a x)→bT ν H w→ν aI=none →
   ∀ next Q,(∀ v' w' al,nw ν al aI w w' v v' nb→next (a.put o.dst v') w')→o.wpIn (WF r) n P a w next Q) ∧
   (mG op=true→nb=none∧∀ (bn:Nu) (w0:World),bT bn H w0→qH P bn op tmps v)∧(mH op=true→nb=none∧∀ bn,ob P bn H op tmps v):=by
  intro nR v hk hp;refine ⟨v,none,hk,fun o ν a w r n ho ha hH hn next Q hN=>?_,fun _=>⟨rfl,hp⟩,fun h=>by rw [nR] at h; cases h⟩
  obtain ⟨u,k1,k2⟩:=(hp ν w hH).2 o ν a w ν.le_refl ho ha;exact jI (v':=u) (w':=w) (by rw [ho]; exact (hp ν w hH).1) k2 next Q (hN _ _ ν ⟨ν.le_refl,fun _ _=>rfl,k1,Below.refl _ _,fun _=>rfl,(fun b hb=>by cases hb)⟩)
 by_cases hp:mG op=true
 ·cases op with
  | move x =>
   have h':CX tmps x k:=h;obtain ⟨v,hk,hv⟩:=cQ h';exact mk rfl v hk fun bn w0 _=>⟨by simp,fun o ν a w hle ho ha=>⟨a.eval x,hv ν a (ha x (by simp [Op.operands])),by simp [execOp,ho]⟩⟩
  | extract x i =>
   have h':FY tmps x i k:=h;obtain ⟨v0,h',hv⟩:=cQ h'
   split at h'
   ·rename_i vs;obtain ⟨u,h1,J⟩:=oZ h';refine mk rfl u J fun bn w0 _=>⟨by simp,fun o ν a w hle ho ha=>?_⟩
    obtain ⟨ys,he,hy⟩:=aq.nY (xs:=vs.toList) (hv ν a (ha x (by simp [Op.operands])))
    obtain ⟨u',h3,h4⟩:=hy.get h1;exact ⟨u',h4,by simp [execOp,ho,he,Instr.extract,h3]⟩
   ·exact h'.elim
  | binOp op t x y ty =>
   have h':Dm E.tt E.eqs tmps op t x y k:=h;obtain ⟨v,hk,hv⟩:=Le hE.ty hE.eq (ty:=ty) h';exact mk rfl v hk fun bn _ _=>hv bn
  | slice t x lo hi mx =>
   obtain ⟨v,hk,hv⟩:=Ks hE.ty h;exact mk rfl v hk hv
  | _=>cases hp
 ·have hv:sR P op tmps H k→∃ v nb,k v nb∧(∀ (o:Oper) (ν:Nu) (a:Act) (w:World) (r:Option Nat) (n:Nat),o.op=op→(∀ x∈op.operands,fj ν tmps a x)→bT ν H w→ν aI=none →
   ∀ next Q,(∀ v' w' al,nw ν al aI w w' v v' nb→next (a.put o.dst v') w')→o.wpIn (WF r) n P a w next Q) ∧
   (mG op=true→nb=none∧∀ (bn:Nu) (w0:World),bT bn H w0→qH P bn op tmps v)∧(mH op=true→nb=none∧∀ bn,ob P bn H op tmps v):=fun ⟨v,hk,hv⟩ =>
   ⟨v,none,hk,fun o ν a w r n ho ha hH hn next Q hN=>by
    obtain ⟨u,k1,k2⟩:=(hv ν).2 o ν a w ν.le_refl ho ha hH;exact jI (v':=u) (w':=w) (by rw [ho]; exact (hv ν).1) k2 next Q (hN _ _ ν ⟨ν.le_refl,fun _ _=>rfl,k1,Below.refl _ _,fun _=>rfl,(fun b hb=>by cases hb)⟩),fun h=>absurd h hp,fun _=>⟨rfl,hv⟩⟩
  by_cases hh:mH op=true
  ·cases op with
   | load t x=>exact hv (NK hE.ty h)
   | indexAddr t x i=>exact hv (Kt hE.ty h)
   | call c =>
    cases hc:c.callee with
    | builtin b =>
     cases b with
     | len =>
      unfold lu at h;simp only [hc] at h
      split at h
      ·rename_i x t hx ht;exact hv (OC hE.ty hc (Array.ext' hx) (Array.ext' ht) h)
      ·exact h.elim
     | _=>simp [mH,hc] at hh
    | _=>simp [mH,hc] at hh
   | _=>cases hh
  ·obtain ⟨v,nb,hk,hq⟩:=Bz (P:=P) hE h;exact ⟨v,nb,hk,hq,fun h=>absurd h hp,fun h=>absurd h hh⟩
theorem wm:∀ {S:List (Option aj)} {i:Nat} {mask:List Nat} {k:List (Option aj)→Prop},lP S i mask k→∃ S',k S'∧S'.length=S.length∧∀ j b,S'[j]?=some (some b)→S[j]?=some (some b)∧(i+j)∈mask
 | [],i,mask,k,h=>⟨[],by simpa [lP] using h,rfl,fun j b hb=>by simp at hb⟩
 | c::S,i,[],k,h=>by
  obtain ⟨S',h1,J,h3⟩:=wm (S:=S) (i:=i+1) (mask:=[]) (by simpa [lP] using h)
  refine ⟨none::S',h1,by simp [J],fun j b hb=>?_⟩
  cases j with
  | zero=>simp at hb
  | succ j=>have:=h3 j b (by simpa using hb); simp at this
 | c::S,i,m::ms,k,h=>by
  unfold lP at h
  dsimp only at h
  split at h
  ·rename_i e;have e:=Nat.eq_of_beq_eq_true e;obtain ⟨S',h1,J,h3⟩:=wm (S:=S) h;refine ⟨c::S',h1,by simp [J],fun j b hb=>?_⟩
   cases j with
   | zero=>simp at hb; subst hb; exact ⟨by simp,by simp [e]⟩
   | succ j =>
    obtain ⟨k1,k2⟩:=h3 j b (by simpa using hb)
    exact ⟨by simpa using k1,by rw [show i+(j+1)=i+1+j by omega]; simp [k2]⟩
  ·obtain ⟨S',h1,J,h3⟩:=wm (S:=S) h;refine ⟨none::S',h1,by simp [J],fun j b hb=>?_⟩
   cases j with
   | zero=>simp at hb
   | succ j =>
    obtain ⟨k1,k2⟩:=h3 j b (by simpa using hb)
    exact ⟨by simpa using k1,by rw [show i+(j+1)=i+1+j by omega]; exact k2⟩
theorem Fc {ops:List Oper} {rs:List c6} {D:Nat→Bool} {t0:List Value} {m:Nat}:bc ops rs D t0 (m+1)=(match D m,bU ops m,rs[m]? with
  | true,some d,some r=>(bc ops rs D t0 m).set d r.v
  | _,_,_=>bc ops rs D t0 m):=rfl
theorem tO {ops:List Oper} {rs cf:List c6} {D:Nat→Bool} {t0:List Value}:∀ {m:Nat},(∀ i,i < m→rs[i]?=cf[i]?)→bc ops rs D t0 m=bc ops cf D t0 m
 | 0,_=>rfl
 | m+1,h=>by
  unfold bc;rw [h m (by omega),tO (m:=m) (fun i hi=>h i (by omega))]
theorem yq {ops:List Oper} {rs:List c6} {D D':Nat→Bool} {t0:List Value}:∀ {m:Nat},(∀ i,i < m→D i=D' i)→bc ops rs D t0 m=bc ops rs D' t0 m
 | 0,_=>rfl
 | m+1,h=>by
  unfold bc;rw [h m (by omega),yq (m:=m) (fun i hi=>h i (by omega))]
theorem wB {ops:List Oper} {rs:List c6} {D:Nat→Bool} {t0:List Value} {j:Nat}:∀ {m:Nat},j≤m→(∀ i,j≤i→i < m→D i=false)→bc ops rs D t0 m=bc ops rs D t0 j
 | 0,h,_=>by rw [Nat.le_zero.1 h]
 | m+1,h,hD=>by
  by_cases e:j=m+1
  ·rw [e]
  ·rw [Fc,hD m (by omega) (by omega)]
   exact wB (m:=m) (by omega) (fun i h1 J=>hD i h1 (by omega))
theorem pj.more {P:Program} {ops:List Oper} {t0:List Value} {H:aA} {aS:List (List Nat)} {rs:List c6} {j:Nat} (h:pj P ops t0 H aS rs j) (hj:j < rs.length) (r:c6):pj P ops t0 H aS (rs++[r]) j:=by
 have he:∀ i,i≤j→(rs++[r])[i]?=rs[i]?:=fun i hi=>by rw [List.getElem?_append_left (by omega)]
 have hv:∀ D,bc ops (rs++[r]) D t0 j=bc ops rs D t0 j:=fun D=>tO (fun i hi=>he i (by omega))
 obtain ⟨o,q,h1,J,h3,h4⟩:=h.ok;refine ⟨⟨o,q,h1,by rw [he j (Nat.le_refl _)]; exact J,h3,?_⟩,fun o ho hx hg=>?_⟩
 rotate_left
 ·obtain ⟨r',k1,k2,k3⟩:=h.mv o ho hx hg;obtain ⟨G,g1,g2⟩:=k3;exact ⟨r',by rw [he j (Nat.le_refl _)]; exact k1,k2,G,fun id b hb=>(g1 id b hb).imp (fun x=>x) (fun ⟨i,q1,q2,q3,q4⟩=>⟨i,q1,q2,q3,by rw [he i (by omega)]; exact q4⟩),by rw [hv]; exact g2⟩
 rw [hv];rcases h4 with ⟨G,g1,g2,g3⟩ | h4
 ·exact .inl ⟨G,fun id b hb=>(g1 id b hb).imp (fun x=>x) (fun ⟨i,k1,k2,k3,k4⟩=>⟨i,k1,k2,k3,by rw [he i (by omega)]; exact k4⟩),g2,g3⟩
 ·exact .inr h4
theorem FC {P:Program} {E:Env} (hE:EnvOk P E) {ops:List Oper} {t0:List Value} {H:aA} {aS:List (List Nat)} {k:List Value→List (Option aj)→Prop} :
  ∀ {l:List Oper} {ms:List (List Nat)} {j:Nat} {rs:List c6},rs.length=j→(∀ (i:Nat) o,l[i]?=some o→ops[j+i]?=some o)→(∀ i,i < l.length→ms.getD i []=aS.getD (j+i) []) →
  (∀ i,i < j→pj P ops t0 H aS rs i)→lQ E ops H H.length l ms j (bc ops rs (fun i=>decide (i < j)) t0 j) (rs.map (·.nb)) k →
  ∃ cf:List c6,cf.length=j+l.length∧(∀ i,i < j+l.length→pj P ops t0 H aS cf i)∧k (bc ops cf (fun i=>decide (i < j+l.length)) t0 (j+l.length)) (cf.map (·.nb))
 | [],ms,j,rs,hl,_,_,bd,h=>⟨rs,hl,bd,h⟩
 | o::l,[],j,rs,hl,_,_,bd,h=>h.elim
 | o::l,mask::ms,j,rs,hl,ho,hm,bd,h=>by
  have oF:ops[j]?=some o:=by have:=ho 0 o rfl; simpa using this
  have C5:mask=aS.getD j []:=by have:=hm 0 (by simp); simpa using this
  -- the next step, whatever this one's result
  have next:∀ (r:c6) t',(t'=match o.dst with | some d=>(bc ops rs (fun i=>decide (i < j)) t0 j).set d r.v | none=>bc ops rs (fun i=>decide (i < j)) t0 j) →
    (pj P ops t0 H aS (rs++[r]) j)→lQ E ops H H.length l ms (j+1) t' (rs.map (·.nb)++[r.nb]) k →
    ∃ cf:List c6,cf.length=j+(o::l).length∧(∀ i,i < j+(o::l).length→pj P ops t0 H aS cf i)∧k (bc ops cf (fun i=>decide (i < j+(o::l).length)) t0 (j+(o::l).length)) (cf.map (·.nb)):=by
   intro r t' jD hj h';have hv:bc ops (rs++[r]) (fun i=>decide (i < j+1)) t0 (j+1)=t':=by
    have hr:(rs++[r])[j]?=some r:=by rw [← hl]; simp
    have hd:bU ops j=o.dst:=by simp [bU,oF]
    have zC:bc ops (rs++[r]) (fun i=>decide (i < j+1)) t0 j=bc ops rs (fun i=>decide (i < j)) t0 j:=by
     rw [tO (cf:=rs) (fun i hi=>by rw [List.getElem?_append_left (by omega)])]
     exact yq (fun i hi=>by simp; omega)
    have Iu:decide (j < j+1)=true:=by simp
    rw [jD,Fc,hr,hd,zC,Iu];cases o.dst <;> rfl
   rw [← hv] at h';have h'':lQ E ops H H.length l ms (j+1) (bc ops (rs++[r]) (fun i=>decide (i < j+1)) t0 (j+1)) ((rs++[r]).map (·.nb)) k:=by simpa using h'
   obtain ⟨cf,k1,k2,k3⟩:=FC hE (l:=l) (ms:=ms) (j:=j+1) (rs:=rs++[r]) (by simp [hl]) (fun i p hp=>by have:=ho (i+1) p (by simpa using hp); rwa [show j+1+i=j+(i+1) by omega])
    (fun i hi=>by have:=hm (i+1) (by simp; omega); rw [show j+1+i=j+(i+1) by omega]; simpa using this)
    (fun i hi=>by
     by_cases e:i=j
     ·subst e; exact hj
     ·exact (bd i (by omega)).more (by omega) r) h''
   have e:j+1+l.length=j+(o::l).length:=by simp; omega
   rw [e] at k1 k2 k3;exact ⟨cf,k1,k2,k3⟩
  have oG:∀ r:c6,bc ops (rs++[r]) (fun i=>decide (i < j)) t0 j=bc ops rs (fun i=>decide (i < j)) t0 j:=fun r=>tO (fun i hi=>by rw [List.getElem?_append_left (by omega)])
  have tx:∀ r:c6,(rs++[r])[j]?=some r:=fun r=>by rw [← hl]; simp
  have run:(o.guard=none∨∃ g want d b,o.guard=some (g,want)∧bU ops g=some d∧(bc ops rs (fun i=>decide (i < j)) t0 j)[d]?=some (.bool b)∧(b == want)=true) →
    (lP (rs.map (·.nb)) 0 mask fun Sm=>nQ H Sm fun G=>lu E o.op (bc ops rs (fun i=>decide (i < j)) t0 j) G (H.length+j) fun v nb=>dq (bc ops rs (fun i=>decide (i < j)) t0 j) o.dst v fun t'=>jv (rs.map (·.nb)) nb fun S'=>lQ E ops H H.length l ms (j+1) t' S' k) →
    ∃ cf:List c6,cf.length=j+(o::l).length∧(∀ i,i < j+(o::l).length→pj P ops t0 H aS cf i)∧k (bc ops cf (fun i=>decide (i < j+(o::l).length)) t0 (j+(o::l).length)) (cf.map (·.nb)):=by
   intro hg h;obtain ⟨Sm,h1,J,h3⟩:=wm h;have h1:=ud h1;obtain ⟨v,nb,hk,hq,tf⟩:=Tr (P:=P) hE h1;have lY:∃ t',(t'=match o.dst with | some d=>(bc ops rs (fun i=>decide (i < j)) t0 j).set d v | none=>bc ops rs (fun i=>decide (i < j)) t0 j)∧(∀ d,o.dst=some d→d < t0.length)∧(jv (rs.map (·.nb)) nb fun S'=>lQ E ops H H.length l ms (j+1) t' S' k):=by
    cases hd:o.dst with
    | none=>rw [hd] at hk; exact ⟨_,rfl,(fun d hd=>by cases hd),hk⟩
    | some d =>
     rw [hd] at hk;obtain ⟨k1,k2⟩:=o4 hk;rw [rO] at k1;exact ⟨_,rfl,(fun d' cX=>by cases cX; exact k1),k2⟩
   obtain ⟨t',e1,e2,e3⟩:=lY;refine next ⟨v,nb,true⟩ t' e1 ⟨⟨o,⟨v,nb,true⟩,oF,tx _,e2,.inl ⟨H++Sm,fun id b hb=>?_,?_,?_⟩⟩,fun p hp hx Q7=>?_⟩ (tS e3)
   rotate_right
   ·rw [oF] at hp; cases hp;have k1:nb=none:=by
     rcases Bool.or_eq_true_iff.1 hx with hx | hx
     ·exact (tf.1 hx).1
     ·exact (tf.2 hx).1
    refine ⟨_,tx _,k1,H++Sm,fun id b hb=>?_,fun hx=>by rw [oG]; exact (tf.1 hx).2,fun hx=>by rw [oG]; exact (tf.2 hx).2⟩
    rw [List.getElem?_append] at hb
    split at hb
    ·exact .inl ⟨by assumption,hb⟩
    ·rename_i eF;obtain ⟨q1,q2⟩:=h3 _ b hb;have an:id - H.length < rs.length:=by
      have:=(List.getElem?_eq_some_iff.1 q1).1
      simpa using this
     refine .inr ⟨id - H.length,by omega,by omega,by rw [← C5]; simpa using q2,?_⟩
     rw [List.getElem?_append_left an];rw [List.getElem?_map] at q1;cases hr:rs[id - H.length]? with
     | none=>rw [hr] at q1; cases q1
     | some r=>rw [hr] at q1; simpa using q1
   ·rw [List.getElem?_append] at hb
    split at hb
    ·exact .inl ⟨by assumption,hb⟩
    ·rename_i eF;obtain ⟨q1,q2⟩:=h3 _ b hb;have an:id - H.length < rs.length:=by
      have:=(List.getElem?_eq_some_iff.1 q1).1
      simpa using this
     refine .inr ⟨id - H.length,by omega,by omega,by rw [← C5]; simpa using q2,?_⟩
     rw [List.getElem?_append_left an];rw [List.getElem?_map] at q1;cases hr:rs[id - H.length]? with
     | none=>rw [hr] at q1; cases q1
     | some r=>rw [hr] at q1; simpa using q1
   ·rw [oG];exact fun ν a w q n ha hH hn next Q hN=>hq o ν a w q n rfl ha hH hn next Q hN
   ·rw [oG]; exact hg
  have skip:(∃ g want d v,o.guard=some (g,want)∧bU ops g=some d∧(bc ops rs (fun i=>decide (i < j)) t0 j)[d]?=some v∧((∃ b,v=.bool b∧(b == want)=false)∨∃ vs,v=.tuple vs)) →
    (dq (bc ops rs (fun i=>decide (i < j)) t0 j) o.dst undef fun t'=>jv (rs.map (·.nb)) none fun S'=>lQ E ops H H.length l ms (j+1) t' S' k) →
    ∃ cf:List c6,cf.length=j+(o::l).length∧(∀ i,i < j+(o::l).length→pj P ops t0 H aS cf i)∧k (bc ops cf (fun i=>decide (i < j+(o::l).length)) t0 (j+(o::l).length)) (cf.map (·.nb)):=by
   intro hg hk;have lY:∃ t',(t'=match o.dst with | some d=>(bc ops rs (fun i=>decide (i < j)) t0 j).set d undef | none=>bc ops rs (fun i=>decide (i < j)) t0 j)∧(∀ d,o.dst=some d→d < t0.length)∧(jv (rs.map (·.nb)) none fun S'=>lQ E ops H H.length l ms (j+1) t' S' k):=by
    cases hd:o.dst with
    | none=>rw [hd] at hk; exact ⟨_,rfl,(fun d hd=>by cases hd),hk⟩
    | some d =>
     rw [hd] at hk;obtain ⟨k1,k2⟩:=o4 hk;rw [rO] at k1;exact ⟨_,rfl,(fun d' cX=>by cases cX; exact k1),k2⟩
   obtain ⟨t',e1,e2,e3⟩:=lY;refine next ⟨undef,none,false⟩ t' e1 ⟨⟨o,⟨undef,none,false⟩,oF,tx _,e2,.inr ⟨rfl,rfl,by rw [oG]; exact hg⟩⟩,fun p hp hx Q7=>?_⟩ (tS e3)
   rw [oF] at hp; cases hp;obtain ⟨g,want,d,v,k1,_⟩:=hg;rw [Q7] at k1; cases k1
  unfold lQ at h
  split at h
  ·exact run (.inl (by assumption)) h
  ·rename_i g want hg
   split at h
   ·rename_i d hd;obtain ⟨v,hv,h⟩:=oZ h
    split at h
    ·rename_i b;cases hb:(b == want) with
     | true=>exact run (.inr ⟨g,want,d,b,hg,hd,hv,hb⟩) (Cf h hb)
     | false=>exact skip ⟨g,want,d,_,hg,hd,hv,.inl ⟨b,rfl,hb⟩⟩ (BP h hb)
    ·exact skip ⟨g,want,d,_,hg,hd,hv,.inr ⟨_,rfl⟩⟩ h
    ·exact h.elim
   ·exact h.elim
open Go Go.RowKit
structure Order (ops:List Oper) (aS:List (List Nat)):Prop where
 mask:∀ j o,ops[j]?=some o→∀ i∈aS.getD j [],i < j∧∃ e∈o.after,Region.binds .any e=true∧(e.on=i∨(i∈aS.getD e.on []∧e.on < j))
 back:∀ j o,ops[j]?=some o→∀ e∈o.after,Region.binds .any e=true→e.on < j
structure aan (ops:List Oper) (m:Nat) (aS:List (List Nat)):Prop extends Order ops aS where
 le:m≤ops.length
 apart:∀ j o i p d,j < m→i < m→i≠j→ops[j]?=some o→ops[i]?=some p→p.dst=some d→o.dst≠some d∧(d ∉ jo ops o∨i∈aS.getD j []∨j∈aS.getD i [])
 tail:∀ j,j < ops.length→m≤j→∀ i,i < j→i∈aS.getD j []
theorem KV {ops:List Oper} {m:Nat} {aS:List (List Nat)} (h:CI ops m aS=true):aan ops m aS:=by
 unfold CI at h;simp only [Bool.and_eq_true,decide_eq_true_eq] at h;obtain ⟨⟨⟨⟨h1,J⟩,h3⟩,h4⟩,h5⟩:=h;have lt:∀ {j:Nat} {o:Oper},ops[j]?=some o→j∈List.range ops.length:=fun hj=>List.mem_range.2 (List.getElem?_eq_some_iff.1 hj).1
 refine ⟨⟨fun j o hj i hi=>?_,fun j o hj e he hb=>?_⟩,h1,fun j o i p d hj hi aE ho hp hd=>?_,fun j hj hm i hi=>?_⟩
 ·unfold Ck at J;have:=List.all_eq_true.1 J j (lt hj);rw [hj] at this;have:=List.all_eq_true.1 this i hi;simp only [Bool.and_eq_true,decide_eq_true_eq,List.any_eq_true,Bool.or_eq_true,beq_iff_eq,List.contains_iff_mem] at this;obtain ⟨k1,e,k2,k3,k4⟩:=this;exact ⟨k1,e,by simpa using k2,k3,k4⟩
 ·have:=List.all_eq_true.1 h3 j (lt hj);rw [hj] at this;have:=List.all_eq_true.1 this e (by simpa using he)
  simp only [hb,Bool.not_true,Bool.false_or,decide_eq_true_eq] at this;exact this
 ·have:=List.all_eq_true.1 h4 j (List.mem_range.2 hj);rw [ho] at this;have:=List.all_eq_true.1 this i (List.mem_range.2 hi);rw [hp] at this;have hb:(i == j)=false:=by simp [aE]
  rw [hb,Bool.false_or] at this
  dsimp only at this
  rw [hd] at this;simp only [Bool.and_eq_true,bne_iff_ne,Bool.or_eq_true,Bool.not_eq_true',List.contains_iff_mem,or_assoc] at this;refine ⟨this.1,this.2.imp (fun k=>?_) (fun k=>k)⟩
  intro gI;rw [List.contains_iff_mem.2 gI] at k;cases k
 ·have:=List.all_eq_true.1 h5 j (List.mem_range.2 hj);simp only [Bool.or_eq_true,decide_eq_true_eq,List.all_eq_true,List.mem_range,List.contains_iff_mem] at this;rcases this with h | h
  ·omega
  ·exact h i hi
def DB (aC:Array Bool):Nat→Bool:=fun i=>aC.getD i false
theorem CJ {aC:Array Bool} {j:Nat} (hj:j < aC.size) (i:Nat):DB (aC.setIfInBounds j true) i=(DB aC i || i == j):=by
 unfold DB;by_cases e:j=i
 ·subst e; simp [hj]
 ·rw [getD_set_ne false e];have:(i == j)=false:=by simp; exact fun h=>e h.symm
  rw [this,Bool.or_false]
theorem uu {aC:Array Bool} {i:Nat} (hi:i < aC.size) (d:Bool):aC.getD i d=DB aC i:=by
 unfold DB; simp [hi]
def pk (ops:List Oper) (D:Nat→Bool):Prop:=∀ j o,D j=true→ops[j]?=some o→∀ e∈o.after,Region.binds .any e=true→D e.on=true
theorem tP {ops:List Oper} {aS:List (List Nat)} (hc:Order ops aS) {D:Nat→Bool} (hD:pk ops D):∀ (j:Nat) o,ops[j]?=some o→(∀ e∈o.after,Region.binds .any e=true→D e.on=true)→∀ i∈aS.getD j [],D i=true:=by
 intro j
 induction j using Nat.strongRecOn with
 | _ j ih =>
  intro o ho he i hi;obtain ⟨_,e,h1,J,h3⟩:=hc.mask j o ho i hi;rcases h3 with rfl | ⟨h3,h4⟩
  ·exact he e h1 J
  ·have kG:=he e h1 J;cases oH:ops[e.on]? with
   | none=>rw [List.getElem?_eq_none_iff] at oH; have:=(List.getElem?_eq_some_iff.1 ho).1; omega
   | some p=>exact ih e.on h4 p oH (hD e.on p kG oH) i h3
def gr (D:Nat→Bool) (n:Nat):Nat:=((List.range n).filter fun i=>!D i).length
theorem Bg (D:Nat→Bool) (n:Nat):gr D (n+1)=gr D n+if D n then 0 else 1:=by
 unfold gr;rw [List.range_succ,List.filter_append,List.length_append];cases hd:D n <;> simp [hd]
theorem Bt {D D':Nat→Bool} {j:Nat} (h:∀ i,D' i=(D i || i == j)) (hj:D j=false):∀ n,gr D' n+(if j < n then 1 else 0)=gr D n
 | 0=>by simp [gr]
 | n+1=>by
  have ih:=Bt h hj n;rw [Bg,Bg,h n];by_cases e:n=j
  ·subst e;simp only [Nat.lt_irrefl,if_false,Nat.add_zero] at ih;rw [hj]; simp; omega
  ·have:(n == j)=false:=by simp [e]
   rw [this,Bool.or_false];by_cases an:j < n
   ·have e1:(if j < n+1 then 1 else 0)=1:=if_pos (by omega)
    rw [if_pos an] at ih; rw [e1]; generalize (if D n=true then 0 else 1)=z; omega
   ·have e1:(if j < n+1 then 1 else 0)=0:=if_neg (by omega)
    rw [if_neg an] at ih; rw [e1]; generalize (if D n=true then 0 else 1)=z; omega
theorem Fe {D:Nat→Bool} {n i:Nat} (hi:i < n) (hD:D i=false):0 < gr D n:=by
 unfold gr;exact List.length_pos_of_mem (List.mem_filter.2 ⟨List.mem_range.2 hi,by simp [hD]⟩)
theorem A6 {ops:List Oper} {o:Oper} {g:Nat} {want:Bool} {d:Tmp} (hg:o.guard=some (g,want)) (hd:bU ops g=some d):d∈jo ops o:=by
 have cX:(ops[g]?).bind (fun x=>x.dst)=some d:=hd
 unfold jo;refine List.mem_append_right _ ?_;rw [hg]
 dsimp only
 rw [cX];simp
section
variable {P:Program} {E:Env} {r:Option Nat} {n:Nat} {F:Fr} {ops:Array Oper} {Q:Exit→Act→World→Prop} {m:Nat} {aS:List (List Nat)} {k:SK}
theorem Bh (hc:Order ops.toList aS) {aC:Array Bool} (hs:aC.size=ops.size) {j:Nat} (hj:j < ops.size) (h0:DB aC j=false) (h1:∀ i,i < j→DB aC i=true):j∈Region.ready .any ops aC:=by
 rw [mem_ready];refine ⟨by rw [uu (by omega)]; exact h0,ops[j],Array.getElem?_eq_getElem hj,fun e he hb=>?_⟩
 exact h1 _ (hc.back j ops[j] (by simp [hj]) e he hb)
theorem FD (hE:jT P E) (bN:lz F E) (hc:Order ops.toList aS) (acS:∀ j,j < ops.toList.length→m≤j→∀ i,i < j→i∈aS.getD j []) (hk:∀ ν t' H' a' w',bu F ν t' H' a' w'→k t' H'→Q .normal a' w') :
  ∀ (fuel:Nat) (aC:Array Bool) (j0:Nat) (ν:Nu) (t:List Value) (H:aA) (a:Act) (w:World),aC.size=ops.size→(∀ i,DB aC i=decide (i < j0))→m≤j0→j0≤ops.size →
  bu F ν t H a w→nI E ops.toList (ops.toList.drop j0) t H k→ops.size≤j0+fuel→wpAnyIn (WF r) n P .any ops Q fuel aC a w:=by
 intro fuel
 induction fuel with
 | zero =>
  intro aC j0 ν t H a w hs hD hm hle hi h hf;have e:j0=ops.size:=by omega
  subst e;rw [List.drop_eq_nil_of_le (by simp)] at h
  refine ⟨?_,hk _ _ _ _ _ hi h⟩;rw [List.eq_nil_iff_forall_not_mem];intro j hj;rw [mem_ready] at hj;obtain ⟨h1,o,ho,_⟩:=hj;have an:j < ops.size:=(Array.getElem?_eq_some_iff.1 ho).1;rw [uu (by omega),hD j] at h1
  simp at h1; omega
 | succ fuel ih =>
  intro aC j0 ν t H a w hs hD hm hle hi h hf;by_cases e:j0=ops.size
  ·subst e;rw [List.drop_eq_nil_of_le (by simp)] at h
   refine ⟨fun _=>hk _ _ _ _ _ hi h,fun j hj=>?_⟩
   rw [mem_ready] at hj;obtain ⟨h1,o,ho,_⟩:=hj;have an:j < ops.size:=(Array.getElem?_eq_some_iff.1 ho).1;rw [uu (by omega),hD j] at h1
   simp at h1; omega
  ·have an:j0 < ops.size:=by omega
   have hr:=Bh hc hs an (by rw [hD]; simp) (fun i hi=>by rw [hD]; simpa using hi)
   refine ⟨fun hn=>?_,fun j hj=>?_⟩
   ·rw [hn] at hr; cases hr
   ·rw [mem_ready] at hj;obtain ⟨h1,o,ho,he⟩:=hj;have nS:j < ops.size:=(Array.getElem?_eq_some_iff.1 ho).1;rw [uu (by omega),hD j] at h1
    have eF:j0≤j:=by simpa using h1
    have gd:ops.toList[j]?=some o:=by simpa using ho
    have kL:j=j0:=by
     rcases Nat.lt_or_ge j0 j with qU | afi
     ·have gI:=acS j (by simpa using nS) (by omega) j0 qU
      have eW:pk ops.toList (DB aC):=fun i p aP hp e' gf bz=>by
       rw [hD] at aP ⊢;have:=hc.back i p hp e' gf bz;simp at aP ⊢; omega
      have:=tP hc eW j o gd (fun e' gf bz=>he e' gf bz) j0 gI
      rw [hD] at this; simp at this
     ·omega
    subst kL;have HF:ops.toList.drop j=o::ops.toList.drop (j+1):=by
     rw [List.drop_eq_getElem_cons (by simpa using nS)]
     congr 1
     have:=List.getElem?_eq_getElem (l:=ops.toList) (i:=j) (by simpa using nS)
     rw [gd] at this; exact (Option.some.inj this).symm
    rw [HF] at h;unfold wpOpIn;rw [ho];refine Fb hE bN hi (Me h) (fun ν t' H' a' w' aP h'=>?_)
    refine ih _ (j+1) ν t' H' a' w' (by simp [hs]) (fun i=>?_) (by omega) (by omega) aP h' (by omega)
    rw [CJ (by omega),hD i]
    by_cases e':i=j
    ·subst e'; simp
    ·have:(i == j)=false:=by simp [e']
     rw [this,Bool.or_false];simp; omega
theorem EG {D:Nat→Bool} {m:Nat} (hD:∀ i,D i=decide (i < m)):∀ q,m≤q→gr D q=q - m:=by
 intro q
 induction q with
 | zero=>intro h; simp [gr]
 | succ q ihq =>
  intro h;rw [Bg,hD q];by_cases e:m=q+1
  ·subst e;have:∀ q',q'≤q+1→gr D q'=0:=by
    intro q'
    induction q' with
    | zero=>intro _; simp [gr]
    | succ q' ih'=>intro h'; rw [Bg,ih' (by omega),hD q']; simp; omega
   rw [this q (by omega)]; simp
  ·rw [ihq (by omega)]
   have:¬ (q < m):=by omega
   simp [this]; omega
theorem EH {D:Nat→Bool} {i:Nat} (h:D i=false):∃ j,j≤i∧D j=false∧∀ q,q < j→D q=true:=by
 induction i using Nat.strongRecOn with
 | _ i ihi =>
  by_cases c4:∀ j,j < i→D j=true
  ·exact ⟨i,Nat.le_refl _,h,c4⟩
  ·have:∃ j,j < i∧D j=false:=by
    refine Classical.byContradiction fun aE=>c4 fun j hj=>?_
    cases hd:D j with
    | true=>rfl
    | false=>exact absurd ⟨j,hj,hd⟩ aE
   obtain ⟨j,h3,h4⟩:=this;obtain ⟨q,k1,k2,k3⟩:=ihi j h3 h4;exact ⟨q,by omega,k2,k3⟩
theorem Mh (hc:Order ops.toList aS) (uP:m≤ops.size)
  (y5:∀ j o i p d,j < m→i < m→i≠j→ops.toList[j]?=some o→ops.toList[i]?=some p→p.dst=some d→o.dst≠some d∧(d ∉ jo ops.toList o∨i∈aS.getD j []∨j∈aS.getD i []))
  {fl:List Nat} (C6:∀ j,j < ops.size→m≤j→∀ i,i < m→i ∉ fl→i∈aS.getD j [])
  {t0:List Value} {H:aA} {rs:List c6} (hh:∀ i,i < m→pj P ops.toList t0 H aS rs i)
  (pK:∀ (fuel:Nat) (aC:Array Bool) (ν:Nu) (a:Act) (w:World),aC.size=ops.size→pk ops.toList (DB aC)→(∀ i,DB aC i=true→i < m)→(∀ i,i < m→i ∉ fl→DB aC i=true) →
   bu F ν (bc ops.toList rs (DB aC) t0 m) (H++kU rs (DB aC) m) a w→gr (DB aC) ops.size≤fuel→wpAnyIn (WF r) n P .any ops Q fuel aC a w) :
  ∀ (fuel:Nat) (aC:Array Bool) (ν:Nu) (a:Act) (w:World),aC.size=ops.size→pk ops.toList (DB aC)→(∀ i,DB aC i=true→i < m) →
  bu F ν (bc ops.toList rs (DB aC) t0 m) (H++kU rs (DB aC) m) a w→(∀ i,i < m→DB aC i=false→ν (H.length+i)=none)→gr (DB aC) ops.size≤fuel →
  wpAnyIn (WF r) n P .any ops Q fuel aC a w:=by
 have lY:∀ i d,i < m→bU ops.toList i=some d→d < t0.length:=by
  intro i d hi hd;obtain ⟨o,q,h1,J,h3,_⟩:=(hh i hi).ok;unfold bU at hd;rw [h1] at hd;exact h3 d hd
 have pT:xD ops.toList m:=by
  intro i j d hi hj h1 J;rcases Nat.decEq i j with aE | he
  ·obtain ⟨o,q,k1,_⟩:=(hh i hi).ok;obtain ⟨p,q',k2,_⟩:=(hh j hj).ok;unfold bU at h1 J;rw [k1] at h1; rw [k2] at J;exact absurd h1 (y5 i o j p d hi hj (Ne.symm aE) k1 k2 J).1
  ·exact he
 intro fuel
 induction fuel with
 | zero =>
  intro aC ν a w hs eW an hi gk hu;have c4:∀ i,i < ops.size→DB aC i=true:=fun i aP=>by
   cases hd:DB aC i with
   | true=>rfl
   | false=>have:=Fe aP hd; omega
  exact pK 0 aC ν a w hs eW an (fun i aP _=>c4 i (by omega)) hi hu
 | succ fuel ih =>
  intro aC ν a w hs eW an hi gk hu;by_cases pE:∀ i,i < m→i ∉ fl→DB aC i=true
  ·exact pK (fuel+1) aC ν a w hs eW an pE hi hu
  ·-- something of the head has not gone: the least such one may go
   have hex:∃ i,i < m∧i ∉ fl∧DB aC i=false:=by
    refine Classical.byContradiction fun aE=>pE fun i aP hf=>?_
    cases hd:DB aC i with
    | true=>rfl
    | false=>exact absurd ⟨i,aP,hf,hd⟩ aE
   obtain ⟨i1,DZ,Jp,gg⟩:=hex;obtain ⟨i0,P7,fC,jk⟩:=EH gg;have fY:i0 < m:=by omega
   have hr:=Bh hc hs (by omega:i0 < ops.size) fC jk
   refine ⟨(fun hn=>by rw [hn] at hr; cases hr),fun j hj=>?_⟩
   rw [mem_ready] at hj;obtain ⟨h1,o,ho,he⟩:=hj;have nS:j < ops.size:=(Array.getElem?_eq_some_iff.1 ho).1;rw [uu (by omega)] at h1
   have gd:ops.toList[j]?=some o:=by simpa using ho
   have mj:=tP hc eW j o gd (fun e' gf bz=>he e' gf bz)
   have mZ:j < m:=by
    rcases Nat.lt_or_ge j m with h | h
    ·exact h
    ·have:=mj i1 (C6 j nS h i1 DZ Jp);rw [gg] at this; cases this
   obtain ⟨o',q,g1,g2,g3,g4⟩:=(hh j mZ).ok;rw [gd] at g1; cases g1;have Jq:bU ops.toList j=o.dst:=by simp [bU,gd]
   -- what it reads stands as the text's order has it
   have HG:∀ d,d∈jo ops.toList o→(bc ops.toList rs (DB aC) t0 m)[d]?=(bc ops.toList rs (fun i=>decide (i < j)) t0 j)[d]?:=by
    intro d hd;rw [← wB (j:=j) (m:=m) (by omega) (fun i h1 J=>by simp; omega)]
    refine yB pT lY (fun i aP fZ=>?_)
    by_cases e:i=j
    ·subst e; rw [h1]; simp
    ·obtain ⟨p,q',k1,_⟩:=(hh i aP).ok;have Jr:p.dst=some d:=by unfold bU at fZ; rw [k1] at fZ; exact fZ
     rcases (y5 j o i p d mZ aP e gd k1 Jr).2 with h | h | h
     ·exact absurd hd h
     ·rw [mj i h];have:=(hc.mask j o gd i h).1;simp [this]
     ·have hji:=(hc.mask i p k1 j h).1;have:DB aC i=false:=by
       cases cX:DB aC i with
       | false=>rfl
       | true =>
        have:=tP hc eW i p k1 (eW i p cX k1) j h;rw [h1] at this; cases this
      rw [this]; simp; omega
   have c8:∀ i,DB (aC.setIfInBounds j true) i=(DB aC i || i == j):=fun i=>CJ (by omega) i
   have xU:pk ops.toList (DB (aC.setIfInBounds j true)):=by
    intro i p aP hp e' gf bz;rw [c8] at aP ⊢;by_cases e:i=j
    ·subst e;rw [gd] at hp; cases hp;have:DB aC e'.on=true:=he e' gf bz;rw [this]; rfl
    ·have e2:(i == j)=false:=by simp [e]
     rw [e2,Bool.or_false] at aP;rw [eW i p aP hp e' gf bz]; rfl
   have qU:∀ i,DB (aC.setIfInBounds j true) i=true→i < m:=fun i aP=>by
    rw [c8] at aP;by_cases e:i=j
    ·subst e; exact mZ
    ·have e2:(i == j)=false:=by simp [e]
     rw [e2,Bool.or_false] at aP;exact an i aP
   have tc:gr (DB (aC.setIfInBounds j true)) ops.size≤fuel:=by
    have:=Bt c8 h1 ops.size;rw [if_pos nS] at this; omega
   have uU:=Lp (D:=DB aC) (D':=DB (aC.setIfInBounds j true)) pT lY mZ h1 c8 g2;rw [Jq] at uU;have fw:∀ (id:Nat) (c:aj),(H++kU rs (DB (aC.setIfInBounds j true)) m)[id]?=some (some c) ↔
     (H++kU rs (DB aC) m)[id]?=some (some c)∨(id=H.length+j∧q.nb=some c):=by
    intro id c;by_cases bm:id < H.length
    ·rw [List.getElem?_append_left bm,List.getElem?_append_left bm];constructor
     ·exact .inl
     ·rintro (h | ⟨h,_⟩)
      ·exact h
      ·omega
    ·rw [List.getElem?_append_right (by omega),List.getElem?_append_right (by omega),rR,rR]
     constructor
     ·rintro ⟨k1,k2,k3⟩
      rw [c8] at k2;by_cases e:id - H.length=j
      ·refine .inr ⟨by omega,?_⟩
       rw [e,g2] at k3; exact k3
      ·have e2:(id - H.length == j)=false:=by simp [e]
       rw [e2,Bool.or_false] at k2;exact .inl ⟨k1,k2,k3⟩
     ·rintro (⟨k1,k2,k3⟩ | ⟨k1,k2⟩)
      ·exact ⟨k1,by rw [c8,k2]; rfl,k3⟩
      ·have e:id - H.length=j:=by omega
       rw [e];exact ⟨mZ,by rw [c8]; simp,by rw [g2]; exact k2⟩
   have ny:ν (H.length+j)=none:=gk j mZ h1;have HH:(H++kU rs (DB aC) m).length=H.length+m:=by rw [List.length_append,Ky]
   have G5:(H++kU rs (DB (aC.setIfInBounds j true)) m).length=H.length+m:=by rw [List.length_append,Ky]
   -- the state behind it
   have after:∀ v' w' al,nw ν al (H.length+j) w w' q.v v' q.nb→wpAnyIn (WF r) n P .any ops Q fuel (aC.setIfInBounds j true) (a.put o.dst v') w':=by
    intro v' w' al hp;have hb:=hp.below;refine ih _ al _ w' (by simp [hs]) xU qU ⟨?_,?_,?_,fun id bm=>?_,hi.kp.below hb,fun id c lc cF oB dH=>?_,Nu.le_trans hi.mono hp.le⟩ (fun i aP cX=>?_) tc
    ·rw [uU];cases hd:o.dst with
     | none=>exact hi.tm.mono hp.le
     | some d=>rw [rV]; exact (hi.tm.mono hp.le).set hp.val d
    ·cases o.dst <;> exact hi.df.below hb
    ·cases bJ:q.nb with
     | none =>
      have:=hp.Ac bJ;subst this;refine (hi.hp.below hb).sD (fun id c cF=>?_)
      rcases (fw id c).1 cF with h | ⟨_,h⟩
      ·exact h
      ·rw [bJ] at h; cases h
     | some b =>
      obtain ⟨l,hl,hB,hle⟩:=hp.g7 b bJ;have k9:al=ν.add (H.length+j) l:=by
       funext id
       by_cases e:id=H.length+j
       ·subst e; rw [hl,Nu.add_same]
       ·rw [hp.only id e,Nu.iX e]
      subst k9;refine hi.hp.push hb ny _ (fun id c cF=>?_) hle hB
      rcases (fw id c).1 cF with h | ⟨h3,h4⟩
      ·by_cases e:id=H.length+j
       ·obtain ⟨l',cE,_⟩:=hi.hp.aJ id c h;rw [e,ny] at cE; cases cE
       ·exact .inr ⟨e,h⟩
      ·rw [bJ] at h4; cases h4;exact .inl ⟨h3,rfl⟩
    ·rw [G5] at bm;rw [hp.only id (by omega)]
     exact hi.fr id (by rw [HH]; exact bm)
    ·rcases (fw id c).1 cF with h | ⟨h3,h4⟩
     ·have aE:id≠H.length+j:=fun e=>by
       obtain ⟨l',cE,_⟩:=hi.hp.aJ id c h;rw [e,ny] at cE; cases cE
      rw [hp.only id aE] at dH;exact hi.own id c lc h oB dH
     ·obtain ⟨l,hl,_,hle⟩:=hp.g7 c h4;rw [h3,hl] at dH; cases dH;exact .inr (Nat.le_trans hi.kp.size hle)
    ·have aE:i≠j:=fun e=>by subst e; rw [c8] at cX; simp at cX
     rw [hp.only _ (by omega)]
     refine gk i aP ?_;rw [c8] at cX;simp only [Bool.or_eq_false_iff] at cX;exact cX.1
   unfold wpOpIn;rw [ho]
   dsimp only
   have fy:∀ d,d∈jo ops.toList o→∀ v,(bc ops.toList rs (fun i=>decide (i < j)) t0 j)[d]?=some v→∃ v',a.tmps[d]?=some v'∧aq ν v v':=by
    intro d hd v hv;rw [← HG d hd] at hv;obtain ⟨v',k1,k2⟩:=hi.tm.get hv;exact ⟨v',by simpa using k1,k2⟩
   rcases g4 with ⟨G,q1,q2,q3⟩ | ⟨q1,q2,g,want,d,v,q3,q4,q5,q6⟩
   ·have hw:Region.wanted o (yielded ops a.tmps)=true:=by
     rcases q3 with hg | ⟨g,want,d,b,hg,hd,hv,hb⟩
     ·simp [Region.wanted,hg]
     ·obtain ⟨v',k1,k2⟩:=fy d (A6 hg hd) _ hv;rw [k2.kc] at k1;have hy:=yz (ops:=ops) (tmps:=a.tmps) (j:=g) (d:=d) (by simpa [bU] using hd)
      rw [k1] at hy;simp only [Region.wanted,hg,hy];rw [← hb];cases b <;> cases want <;> rfl
    rw [if_pos hw];refine q2 ν a w r n (fun x hx t ht v hv=>fy t ?_ v hv) (hi.hp.sD fun id b hb=>?_) ny _ Q after
    ·unfold jo;exact List.mem_append_left _ (p7 (by rw [ht] at hx; simpa using hx))
    ·rcases q1 id b hb with ⟨h3,h4⟩ | ⟨i,h3,h4,h5,h6⟩
     ·rw [List.getElem?_append_left h3]; exact h4
     ·subst h3;rw [List.getElem?_append_right (by omega)]
      rw [show H.length+i - H.length=i by omega,rR]
      exact ⟨by omega,mj i h5,h6⟩
   ·have hw:Region.wanted o (yielded ops a.tmps)=false:=by
     obtain ⟨v',k1,k2⟩:=fy d (A6 q3 q4) _ q5;have hy:=yz (ops:=ops) (tmps:=a.tmps) (j:=g) (d:=d) (by simpa [bU] using q4)
     rw [k1] at hy;rcases q6 with ⟨b,rfl,hb⟩ | ⟨vs,rfl⟩
     ·rw [k2.kc] at hy;simp only [Region.wanted,q3,hy];rw [← hb];cases b <;> cases want <;> rfl
     ·obtain ⟨ys,rfl,_⟩:=aq.nY (xs:=vs.toList) k2;simp only [Region.wanted,q3,hy]
      rfl
    rw [if_neg (by rw [hw]; simp)]
    refine ⟨fun _ _=>trivial,after undef w ν ⟨ν.le_refl,fun _ _=>rfl,by rw [q1]; exact .undef ν,Below.refl _ _,fun _=>rfl,(fun b hb=>by rw [q2] at hb; cases hb)⟩⟩
theorem VT (hm:P.follows .mixedOrders=true):nN P Pg:=by
 intro E hE r n F bN ops Q id ν tmps H a w k hi h hk;obtain ⟨m,aS,bd,h⟩:=h;have h:=mD h;obtain ⟨P8,h⟩:=yA h;have hc:=KV bd;obtain ⟨rs,iR,kq,gi⟩:=FC (P:=P) hE.toEnvOk (ops:=ops.toList) (t0:=tmps) (H:=H) (aS:=aS) (l:=ops.toList.take m) (ms:=aS) (j:=0) (rs:=[]) rfl
  (fun i o ho=>by
   rw [List.getElem?_take] at ho
   split at ho
   ·simpa using ho
   ·cases ho)
  (fun i _=>by simp) (fun i hi=>by omega) h
 have gi:=ud gi;have hlen:0+(ops.toList.take m).length=m:=by rw [List.length_take]; omega
 rw [hlen] at iR kq gi;refine wpIn_region_any hm ?_;have hD:DB (Array.replicate ops.size false)=fun _=>false:=by
  funext i
  unfold DB;by_cases h:i < ops.size <;> simp [h]
 refine Mh (F:=F) (fl:=[]) hc.toOrder (by have:=hc.le; simpa using this) hc.apart (fun j hj hm i hi _=>hc.tail j (by simpa using hj) hm i (by omega)) kq ?_ ops.size _ ν a _ (by simp) (fun j o hj=>by rw [hD] at hj; cases hj) (fun i aP=>by rw [hD] at aP; cases aP) ?_ (fun i _ _=>hi.fr _ (by omega)) ?_
 ·intro fuel aC ν a w hs eW an c4 hi hu;have hle:m≤ops.size:=by have:=hc.le; simpa using this
  have hD:∀ i,DB aC i=decide (i < m):=fun i=>by
   by_cases h:i < m
   ·rw [c4 i h (by simp)]; simp [h]
   ·cases hd:DB aC i with
    | true=>exact absurd (an i hd) h
    | false=>simp [h]
  have e1:bc ops.toList rs (DB aC) tmps m=bc ops.toList rs (fun i=>decide (i < m)) tmps m:=yq (fun i _=>hD i)
  have e2:kU rs (DB aC) m=rs.map (·.nb):=by
   unfold kU;apply List.ext_getElem?;intro i;rw [List.getElem?_map,List.getElem?_map];by_cases h:i < m
   ·rw [List.getElem?_range h,List.getElem?_eq_getElem (by omega:i < rs.length)]
    simp only [Option.map_some,hD i,h,decide_true,if_true];rw [List.getElem?_eq_getElem (by omega:i < rs.length)]; rfl
   ·rw [List.getElem?_eq_none (by simp; omega),List.getElem?_eq_none (by omega)]; rfl
  rw [e1,e2] at hi;exact FD hE bN hc.toOrder hc.tail hk fuel aC m ν _ _ a w hs hD (Nat.le_refl _) hle hi gi (by
   have:=EG hD ops.size hle; omega)
 ·rw [hD];have e1:bc ops.toList rs (fun _=>false) tmps m=tmps:=wB (j:=0) (by omega) (fun _ _ _=>rfl)
  rw [e1];have kV:Below w.heap.size w { w with drawn:=w.drawn+1 }:=⟨rfl,rfl,rfl,Nat.le_refl _,fun _ _=>rfl⟩
  refine ⟨hi.tm,hi.df.below kV,(hi.hp.below kV).sD (fun id c cF=>?_),fun id bm=>hi.fr id (by rw [List.length_append] at bm; omega),hi.kp.below kV,fun id c lc cF oB dH=>?_,hi.mono⟩
  ·rw [List.getElem?_append] at cF
   split at cF
   ·exact cF
   ·have:=(rR.1 cF).2.1; cases this
  ·rw [List.getElem?_append] at cF
   split at cF
   ·exact hi.own id c lc cF oB dH
   ·have:=(rR.1 cF).2.1; cases this
 ·unfold gr;have:=List.length_filter_le (fun i=>!DB (Array.replicate ops.size false) i) (List.range ops.size)
  simpa using this
end
open Go Go.RowKit
def Iv (E:Env) (o:Oper) (t:List Value) (H:aA) (k:SK):Prop :=
 match o.op with
 | .store ty x y=>CG E t H ty x y fun t' H'=>dq t' o.dst undef fun vy=>k vy H'
 | .call c=>match c.callee with
  | .builtin .append=>match c.args.toList,c.argTypes.toList with
   | [x,y],[ty,ty']=>match Nat.beq ty ty' with
    | true=>bX t x fun xv=>bX t y fun yv=>match BS xv with
     | true=>Gv E [] H ty xv yv fun v _ H'=>dq t o.dst v fun t'=>k t' H'
     | false=>False
    | false=>False
   | _,_=>False
  | .builtin .copy=>match c.args.toList,c.argTypes.toList with
   | [x,y],[ty,_]=>bX t x fun xv=>bX t y fun yv=>Gw E H ty xv yv fun v H'=>dq t o.dst v fun t'=>k t' H'
   | _,_=>False
  | _=>jy H fun aI=>lu E o.op t H aI fun v nb=>dq t o.dst v fun t'=>vd H nb fun H'=>k t' H'
 | _=>jy H fun aI=>lu E o.op t H aI fun v nb=>dq t o.dst v fun t'=>vd H nb fun H'=>k t' H'
def P9:Option Nat→aA→aA→Prop→Prop
 | none,_,_,k=>k
 | some n,H,H',k=>H'.take n=H.take n∧k
def C7 (E:Env) (fz:Option Nat):List Oper→List Value→aA→SK→Prop
 | [],t,H,k=>k t H
 | o::l,t,H,k=>Iv E o t H fun t' H'=>P9 fz H H' (C7 E fz l t' H' k)
theorem Mi {fz:Option Nat} {H H':aA} {k:Prop} (h:P9 fz H H' k):k∧∀ n,fz=some n→H'.take n=H.take n:=by
 cases fz with
 | none=>exact ⟨h,fun n e=>by cases e⟩
 | some m=>exact ⟨h.2,fun n e=>by cases e; exact h.1⟩
def Iw (ops:List Oper) (fl:List Nat) (n:Nat):Option Nat:=match fl.all fun f=>match ops[f]? with | some o=>mG o.op | none=>true with
 | true=>none
 | false=>some n
def GA (ops:List Oper) (m q:Nat) (aS:List (List Nat)) (fl:List Nat):Bool :=
 decide (m+q≤ops.length) && Ck ops aS &&
 (List.range ops.length).all (fun j=>match ops[j]? with
  | some o=>o.after.toList.all fun e=>!Region.binds .any e || decide (e.on < j)
  | none=>true) &&
 (List.range m).all (fun j=>match ops[j]? with
  | some o=>(List.range m).all fun i=>i == j || match ops[i]? with
   | some p=>match p.dst with
    | some d=>(o.dst != some d) && (!(jo ops o).contains d || (aS.getD j []).contains i || (aS.getD i []).contains j)
    | none=>true
   | none=>true
  | none=>true) &&
 fl.all (fun f=>decide (f < m) && match ops[f]? with
  | some o=>o.guard.isNone && ((mG o.op || (mH o.op && (aS.getD f []).all fun i=>fl.contains i)) && ((match o.dst with | some d=>!(iI o.op.operands.toList).contains d | none=>false) && (List.range (m+q)).all fun i=>i == f || (match bU ops i with
   | none=>true
   | some e=>(o.dst != some e) && (!(iI o.op.operands.toList).contains e || (decide (i < m) && (aS.getD f []).contains i)))))
  | none=>false) &&
 (List.range (m+q)).all (fun j=>decide (j < m) || match ops[j]? with
  | some o=>o.guard.isNone && ((List.range j).all fun i=>(aS.getD j []).contains i || fl.contains i) && fl.all fun f=>(aS.getD j []).contains f || match bU ops f with | some d=>!(jo ops o).contains d | none=>false
  | none=>true) &&
 (List.range ops.length).all (fun j=>decide (j < m+q) || (List.range j).all fun i=>(aS.getD j []).contains i)
structure NQ (ops:List Oper) (m q:Nat) (aS:List (List Nat)) (fl:List Nat):Prop extends Order ops aS where
 le:m+q≤ops.length
 apart:∀ j o i p d,j < m→i < m→i≠j→ops[j]?=some o→ops[i]?=some p→p.dst=some d→o.dst≠some d∧(d ∉ jo ops o∨i∈aS.getD j []∨j∈aS.getD i [])
 rr:∀ f∈fl,f < m∧∃ o d,ops[f]?=some o∧o.guard=none∧(mG o.op=true∨(mH o.op=true∧∀ i∈aS.getD f [],i∈fl))∧o.dst=some d∧d ∉ iI o.op.operands.toList∧∀ i e,i < m+q→i≠f→bU ops i=some e→e≠d∧(e∈iI o.op.operands.toList→i < m∧i∈aS.getD f [])
 mid:∀ j o,m≤j→j < m+q→ops[j]?=some o→o.guard=none∧(∀ i,i < j→i∈aS.getD j []∨i∈fl)∧∀ f∈fl,f∈aS.getD j []∨∀ d,bU ops f=some d→d ∉ jo ops o
 tail:∀ j,j < ops.length→m+q≤j→∀ i,i < j→i∈aS.getD j []
theorem Sk {ops:List Oper} {m q:Nat} {aS:List (List Nat)} {fl:List Nat} (h:GA ops m q aS fl=true):NQ ops m q aS fl:=by
 unfold GA at h;simp only [Bool.and_eq_true,decide_eq_true_eq] at h;obtain ⟨⟨⟨⟨⟨⟨h1,J⟩,h3⟩,h4⟩,h5⟩,h6⟩,h7⟩:=h;have lt:∀ {j:Nat} {o:Oper},ops[j]?=some o→j∈List.range ops.length:=fun hj=>List.mem_range.2 (List.getElem?_eq_some_iff.1 hj).1
 refine ⟨⟨fun j o hj i hi=>?_,fun j o hj e he hb=>?_⟩,h1,fun j o i p d hj hi aE ho hp hd=>?_,fun f hf=>?_,fun j o hm hj ho=>?_,fun j hj hm i hi=>?_⟩
 ·unfold Ck at J;have:=List.all_eq_true.1 J j (lt hj);rw [hj] at this;have:=List.all_eq_true.1 this i hi;simp only [Bool.and_eq_true,decide_eq_true_eq,List.any_eq_true,Bool.or_eq_true,beq_iff_eq,List.contains_iff_mem] at this;obtain ⟨k1,e,k2,k3,k4⟩:=this;exact ⟨k1,e,by simpa using k2,k3,k4⟩
 ·have:=List.all_eq_true.1 h3 j (lt hj);rw [hj] at this;have:=List.all_eq_true.1 this e (by simpa using he)
  simp only [hb,Bool.not_true,Bool.false_or,decide_eq_true_eq] at this;exact this
 ·have:=List.all_eq_true.1 h4 j (List.mem_range.2 hj);rw [ho] at this;have:=List.all_eq_true.1 this i (List.mem_range.2 hi);rw [hp] at this;have hb:(i == j)=false:=by simp [aE]
  rw [hb,Bool.false_or] at this
  dsimp only at this
  rw [hd] at this;simp only [Bool.and_eq_true,bne_iff_ne,Bool.or_eq_true,Bool.not_eq_true',List.contains_iff_mem,or_assoc] at this;refine ⟨this.1,this.2.imp (fun k=>?_) (fun k=>k)⟩
  intro gI;rw [List.contains_iff_mem.2 gI] at k;cases k
 ·have:=List.all_eq_true.1 h5 f hf;simp only [Bool.and_eq_true,decide_eq_true_eq] at this;obtain ⟨k1,k2⟩:=this;refine ⟨k1,?_⟩
  split at k2
  ·rename_i o ho;simp only [Bool.and_eq_true,Bool.or_eq_true,Option.isNone_iff_eq_none] at k2;obtain ⟨k2,hx,k3,k4⟩:=k2;cases hd:o.dst with
   | none=>rw [hd] at k3; cases k3
   | some d =>
   rw [hd] at k3;have Hz:d ∉ iI o.op.operands.toList:=fun hm=>by
    have k3:(!(iI o.op.operands.toList).contains d)=true:=k3;rw [List.contains_iff_mem.2 hm] at k3; cases k3
   refine ⟨o,d,ho,k2,hx.imp id (fun h=>⟨h.1,fun i hi=>by simpa using List.all_eq_true.1 h.2 i hi⟩),hd,Hz,fun i e hi aE he=>?_⟩
   have:=List.all_eq_true.1 k4 i (List.mem_range.2 hi);have hb:(i == f)=false:=by simp [aE]
   rw [hb,Bool.false_or,he,hd] at this;simp only [Bool.or_eq_true,Bool.and_eq_true,bne_iff_ne,decide_eq_true_eq,List.contains_iff_mem,Bool.not_eq_true'] at this;obtain ⟨h1,J⟩:=this;refine ⟨fun e'=>h1 (by rw [e']),fun e'=>?_⟩
   rcases J with J | J
   ·rw [List.contains_iff_mem.2 e'] at J; cases J
   ·exact J
  ·cases k2
 ·have:=List.all_eq_true.1 h6 j (List.mem_range.2 hj);have hd:decide (j < m)=false:=by simp; omega
  rw [hd,Bool.false_or,ho] at this;simp only [Bool.and_eq_true,Option.isNone_iff_eq_none,List.all_eq_true,List.mem_range,Bool.or_eq_true,List.contains_iff_mem] at this;obtain ⟨⟨k1,k2⟩,k3⟩:=this;refine ⟨k1,k2,fun f hf=>(k3 f hf).imp (fun h=>h) (fun h d hd=>?_)⟩
  rw [hd] at h;simp only [Bool.not_eq_true'] at h;intro gI;rw [List.contains_iff_mem.2 gI] at h;cases h
 ·have:=List.all_eq_true.1 h7 j (List.mem_range.2 hj);simp only [Bool.or_eq_true,decide_eq_true_eq,List.all_eq_true,List.mem_range,List.contains_iff_mem] at this;rcases this with h | h
  ·omega
  ·exact h i hi
def Ph (E:Env) (ops:List Oper) (t:List Value) (H:aA) (k:SK):Prop :=
 ∃ (m q:Nat) (aS:List (List Nat)) (fl:List Nat),GA ops m q aS fl=true∧jy H fun n0=>uV ops m fun hd tl=>uV tl q fun md tl2 =>
  lQ E ops H n0 hd aS 0 t [] fun t' S=>nQ H S fun G=>C7 E (Iw ops fl n0) md t' G fun t2 G2=>nI E ops tl2 t2 G2 k
structure vf (fz:Option Nat) (P:Program) (F:Fr) (bn:Nu) (ops:List Oper) (fl:List Nat) (D:Nat→Bool) (ν:Nu) (t:List Value) (H:aA) (a:Act) (w:World):Prop where
 len:t.length=a.tmps.toList.length
 tm:∀ (d:Nat) v,t[d]?=some v→(∀ f∈fl,D f=false→bU ops f≠some d)→∃ v',a.tmps.toList[d]?=some v'∧aq ν v v'
 un:∀ f∈fl,D f=false→∀ o d,ops[f]?=some o→o.dst=some d→∃ v G,t[d]?=some v∧ob P bn G o.op t v∧∀ id b,G[id]?=some (some b)→H[id]?=some (some b)∧∃ n,fz=some n∧id < n
 le:bn.le ν
 rest:bu F ν [] H { a with tmps:=#[] } w
theorem NR:∀ {l:List Value} {n:Nat} {v:Value} {k:List Value→Prop},n < l.length→k (l.set n v)→xO l n v k
 | [],_,_,_,h,_=>absurd h (Nat.not_lt_zero _)
 | _::l,0,v,k,_,h=>h
 | x::l,n+1,v,k,h,hk=>NR (l:=l) (by simpa using h) hk
theorem ob.same {P:Program} {bn:Nu} {G:aA} {op:Op} {t t':List Value} {v:Value} (h:ob P bn G op t v) (hs:∀ s∈iI op.operands.toList,t'[s]?=t[s]?):ob P bn G op t' v :=
 ⟨h.1,fun o ν a w hle ho ha=>h.2 o ν a w hle ho fun x hx s nP u hu=>ha x hx s nP u (by rw [hs s (p7 (by rw [← nP]; simpa using hx))]; exact hu)⟩
theorem qH.heap {P:Program} {bn:Nu} {op:Op} {t:List Value} {v:Value} (h:qH P bn op t v) (G:aA):ob P bn G op t v:=⟨h.1,fun o ν a w hle ho ha _=>h.2 o ν a w hle ho ha⟩
theorem Mj {fz:Option Nat} {G H H':aA} (h:∀ id b,G[id]?=some (some b)→H[id]?=some (some b)∧∃ n,fz=some n∧id < n) (hf:∀ n,fz=some n→H'.take n=H.take n) :
  ∀ id b,G[id]?=some (some b)→H'[id]?=some (some b)∧∃ n,fz=some n∧id < n:=fun id b hb=>by
 obtain ⟨h1,n,J,h3⟩:=h id b hb;refine ⟨?_,n,J,h3⟩;have:=congrArg (fun l=>l[id]?) (hf n J)
 simp only [List.getElem?_take,if_pos h3] at this;rw [this]; exact h1
theorem BT {op:Op} {C:Prop} (h:mG op=true∨(mH op=true∧C)):(mG op || mH op)=true:=by
 rcases h with h | ⟨h,_⟩
 ·rw [h]; rfl
 ·rw [h]; simp
theorem F5 {t:List Value} {o:Option Tmp} {v:Value} {k:List Value→Prop} {C:Prop} (h:dq t o v k) (hk:∀ t,k t→C):C:=by
 cases o with
 | none=>exact hk _ h
 | some d=>exact hk _ (o4 h).2
theorem vf.put {fz:Option Nat} {P:Program} {F:Fr} {bn:Nu} {ops:List Oper} {fl:List Nat} {D D':Nat→Bool} {ν al:Nu} {t:List Value} {H H':aA} {a:Act} {w w':World} (h:vf fz P F bn ops fl D ν t H a w) (Js:∀ n,fz=some n→H'.take n=H.take n) (hle:ν.le al)
  (hD:∀ f∈fl,D' f=D f) {v v':Value} (hv:aq al v v') {o:Option Tmp} (ho:∀ d,o=some d→∀ f∈fl,∀ p e,ops[f]?=some p→p.dst=some e→d≠e∧d ∉ iI p.op.operands.toList)
  {k:List Value→Prop} (hk:dq t o v k) (hr:bu F al [] H' { a with tmps:=#[] } w'):∃ t',k t'∧vf fz P F bn ops fl D' al t' H' (a.put o v') w':=by
 cases o with
 | none =>
  refine ⟨t,hk,h.len,fun d u hu hn=>?_,fun f ml hd p e h1 J=>?_,Nu.le_trans h.le hle,hr⟩
  ·obtain ⟨u',k1,k2⟩:=h.tm d u hu (fun f ml hd=>hn f ml (by rw [hD f ml]; exact hd))
   exact ⟨u',k1,k2.mono hle⟩
  ·obtain ⟨u,G,q1,q2,q3⟩:=h.un f ml (by rw [← hD f ml]; exact hd) p e h1 J
   exact ⟨u,G,q1,q2,Mj q3 Js⟩
 | some d0 =>
  obtain ⟨h1,J⟩:=o4 hk;refine ⟨_,J,?_,fun d u hu hn=>?_,fun f ml hd p e k1 k2=>?_,Nu.le_trans h.le hle,hr⟩
  ·rw [rV,List.length_set,List.length_set]; exact h.len
  ·rw [rV];by_cases e:d0=d
   ·subst e;rw [List.getElem?_set_self h1] at hu;cases hu;exact ⟨v',by rw [List.getElem?_set_self (by rw [← h.len]; exact h1)],hv⟩
   ·rw [List.getElem?_set_ne e] at hu ⊢;obtain ⟨u',k1,k2⟩:=h.tm d u hu (fun f ml hd=>hn f ml (by rw [hD f ml]; exact hd))
    exact ⟨u',k1,k2.mono hle⟩
  ·obtain ⟨aE,hns⟩:=ho d0 rfl f ml p e k1 k2;obtain ⟨u,G,q1,q2,q3⟩:=h.un f ml (by rw [← hD f ml]; exact hd) p e k1 k2
   exact ⟨u,G,by rw [List.getElem?_set_ne aE]; exact q1,q2.same fun s hs=>by rw [List.getElem?_set_ne (fun e:d0=s=>hns (by rw [e]; exact hs))],Mj q3 Js⟩
section
variable {fz:Option Nat} {P:Program} {E:Env} {r:Option Nat} {n:Nat} {F:Fr} {ops:Array Oper} {Q:Exit→Act→World→Prop} {m q:Nat} {aS:List (List Nat)} {fl:List Nat} {k:SK}
theorem VU (hE:jT P E) (bN:lz F E) {bn:Nu} {o:Oper} {D D':Nat→Bool} {ν:Nu} {t:List Value} {H:aA} {a:Act} {w:World} (h:vf fz P F bn ops.toList fl D ν t H a w) {k:SK} (Av:∀ t' H',k t' H'→∀ n,fz=some n→H'.take n=H.take n)
  (hD:∀ f∈fl,D' f=D f)
  (fy:∀ f∈fl,D f=false→∀ d,bU ops.toList f=some d→d ∉ jo ops.toList o)
  (ho:∀ d,o.dst=some d→∀ f∈fl,∀ p e,ops.toList[f]?=some p→p.dst=some e→d≠e∧d ∉ iI p.op.operands.toList)
  (hk:Iv E o t H k) {next:Act→World→Prop} {Q:Exit→Act→World→Prop}
  (hn:∀ al t' H' a' w',vf fz P F bn ops.toList fl D' al t' H' a' w'→k t' H'→next a' w'):o.wpIn (WF r) n P a w next Q:=by
 have oH:∀ x∈o.op.operands,fj ν t a x:=fun x hx s hs v hv=>by
  obtain ⟨v',k1,k2⟩:=h.tm s v hv (fun f ml hd eT=>fy f ml hd s eT (by unfold jo; exact List.mem_append_left _ (p7 (by rw [hs] at hx; simpa using hx))))
  exact ⟨v',by simpa using k1,k2⟩
 have quiet:(jy H fun aI=>lu E o.op t H aI fun v nb=>dq t o.dst v fun t'=>vd H nb fun H'=>k t' H')→o.wpIn (WF r) n P a w next Q:=by
  intro hk;have hk:=mD hk;obtain ⟨v,nb,rm,hq⟩:=Bz (P:=P) hE.toEnvOk hk;refine hq o ν a w r n rfl oH h.rest.hp (h.rest.fr _ (Nat.le_refl _)) next Q (fun v' w' al hp=>?_)
  cases hd:o.dst with
  | none =>
   rw [hd] at rm ho;obtain ⟨H',h1,J⟩:=h.rest.quiet hp rm;obtain ⟨t',k1,k2⟩:=h.put (D':=D') (o:=none) (Av _ _ h1) hp.le hD hp.val (fun d hd=>by cases hd) (k:=fun t'=>t'=t) rfl J
   subst k1;exact hn _ _ _ _ _ k2 h1
  | some d =>
   rw [hd] at rm ho;obtain ⟨h1,J⟩:=o4 rm;obtain ⟨H',h3,h4⟩:=h.rest.quiet hp J;obtain ⟨t',k1,k2⟩:=h.put (D':=D') (o:=some d) (Av _ _ h3) hp.le hD hp.val ho (k:=fun t'=>k t' H') (by
    show xO t d v _
    exact NR h1 h3) h4
   exact hn _ _ _ _ _ k2 k1
 unfold Iv at hk
 split at hk
 ·rename_i ty x y au;have hx:fj ν t a x:=oH x (by rw [au]; simp [Op.operands])
  have hy:fj ν t a y:=oH y (by rw [au]; simp [Op.operands])
  obtain ⟨w',H',bC,aP,J⟩:=Lf hE.toEnvOk au h.rest hx hy hk;obtain ⟨t',k1,k2⟩:=h.put (D':=D') (o:=o.dst) (F5 J fun t hk=>Av t _ hk) ν.le_refl hD (.undef ν) ho J aP
  refine ⟨fun _ _=>trivial,?_⟩
  rw [Oper.semAt_eq _ _ _ (by simp [au]),bC]
  exact hn _ _ _ _ _ k2 k1
 ·rename_i c au
  split at hk
  ·rename_i hc
   split at hk
   ·rename_i x y t1 t2 rz D0
    split at hk
    ·rename_i hb;have hb:t1=t2:=Nat.eq_of_beq_eq_true hb;subst hb;have vD:c.args=#[x,y]:=Array.ext' rz;have Ah:c.argTypes=#[t1,t1]:=Array.ext' D0;obtain ⟨xv,jC,vv⟩:=kQ hk (oH x (by rw [au]; simp [Op.operands,Call.operands,vD]))
     obtain ⟨yv,Aw,vw⟩:=kQ jC (oH y (by rw [au]; simp [Op.operands,Call.operands,vD]))
     split at Aw
     ·rename_i hex;obtain ⟨v,v',al,t',H',w',h1,J,h3,h4,h5⟩:=KT hE.toEnvOk bN h.rest vv vw Aw o.type;obtain rfl:t'=[]:=List.eq_nil_of_length_eq_zero (by have:=h3.tm.1; simpa using this)
      obtain ⟨t2,k1,k2⟩:=h.put (D':=D') (F5 h1 fun t hk=>Av t _ hk) (h5 hex) hD J ho h1 h3
      exact jI (by simp [au]) (by simp [execOp,au,resolve,hc,vD,Ah,invoke,builtin,h4]) next Q (hn _ _ _ _ _ k2 k1)
     ·exact Aw.elim
    ·exact hk.elim
   ·exact hk.elim
  ·rename_i hc
   split at hk
   ·rename_i x y t1 t2 rz D0;have vD:c.args=#[x,y]:=Array.ext' rz;have Ah:c.argTypes=#[t1,t2]:=Array.ext' D0;obtain ⟨xv,jC,vv⟩:=kQ hk (oH x (by rw [au]; simp [Op.operands,Call.operands,vD]))
    obtain ⟨yv,Aw,vw⟩:=kQ jC (oH y (by rw [au]; simp [Op.operands,Call.operands,vD]))
    obtain ⟨v,H',w',h1,J,h3,h4⟩:=Lk hE.toEnvOk h.rest vv vw Aw t2 o.type;obtain ⟨t2,k1,k2⟩:=h.put (D':=D') (F5 h1 fun t hk=>Av t _ hk) ν.le_refl hD J ho h1 h3
    exact jI (by simp [au]) (by simp [execOp,au,resolve,hc,vD,Ah,invoke,builtin,h4]) next Q (hn _ _ _ _ _ k2 k1)
   ·exact hk.elim
  ·exact quiet hk
 ·exact quiet hk
theorem VV (hE:jT P E) (bN:lz F E) (hc:NQ ops.toList m q aS fl) (hk:∀ ν t' H' a' w',bu F ν t' H' a' w'→k t' H'→Q .normal a' w') :
  ∀ (fuel:Nat) (aC:Array Bool) (j0:Nat) (bn ν:Nu) (t:List Value) (H:aA) (a:Act) (w:World),aC.size=ops.size→pk ops.toList (DB aC)→m≤j0→j0≤m+q →
  (∀ i,i < j0→i ∉ fl→DB aC i=true)→(∀ i,DB aC i=true→i < j0)→vf fz P F bn ops.toList fl (DB aC) ν t H a w →
  C7 E fz ((ops.toList.take (m+q)).drop j0) t H (fun t' H'=>nI E ops.toList (ops.toList.drop (m+q)) t' H' k)→gr (DB aC) ops.size≤fuel→wpAnyIn (WF r) n P .any ops Q fuel aC a w:=by
 have hle:m+q≤ops.size:=by have:=hc.le; simpa using this
 have xR:∀ (i:Nat) (d:Tmp),i < m+q→m≤i→bU ops.toList i=some d→∀ f∈fl,f≠i→∀ p e,ops.toList[f]?=some p→p.dst=some e→d≠e∧d ∉ iI p.op.operands.toList:=by
  intro i d hi C6 hd f hf aE p e h1 h3;obtain ⟨_,o,d',k1,k2,k3,k4,_,k5⟩:=hc.rr f hf;rw [h1] at k1; cases k1;rw [h3] at k4; cases k4;obtain ⟨q1,q2⟩:=k5 i d hi (Ne.symm aE) hd;exact ⟨q1,fun e'=>by have:=(q2 e').1; omega⟩
 have finish:∀ (fuel:Nat) (aC:Array Bool) (j0:Nat) (bn ν:Nu) (t:List Value) (H:aA) (a:Act) (w:World),aC.size=ops.size→m≤j0→j0≤m+q→(∀ i,DB aC i=true→i < j0)→vf fz P F bn ops.toList fl (DB aC) ν t H a w →
   C7 E fz ((ops.toList.take (m+q)).drop j0) t H (fun t' H'=>nI E ops.toList (ops.toList.drop (m+q)) t' H' k)→gr (DB aC) ops.size≤fuel→(∀ i,i < m+q→DB aC i=true)→wpAnyIn (WF r) n P .any ops Q fuel aC a w:=by
  intro fuel aC j0 bn ν t H a w hs hm kL an hi h hu c4;have e:j0=m+q:=by
   rcases Nat.lt_or_ge j0 (m+q) with h' | h'
   ·have:=an j0 (c4 j0 h'); omega
   ·omega
  subst e;rw [List.drop_eq_nil_of_le (by simp; omega)] at h
  have hD:∀ i,DB aC i=decide (i < m+q):=fun i=>by
   by_cases h:i < m+q
   ·rw [c4 i h]; simp [h]
   ·cases hd:DB aC i with
    | true=>exact absurd (an i hd) h
    | false=>simp [h]
  have aP:bu F ν t H a w:=⟨⟨hi.len,fun d x y hx hy=>by
   obtain ⟨y',k1,k2⟩:=hi.tm d x hx (fun f hf hd=>by have:=(hc.rr f hf).1; rw [c4 f (by omega)] at hd; cases hd)
   rw [hy] at k1; cases k1; exact k2⟩,hi.rest.df,hi.rest.hp,hi.rest.fr,hi.rest.kp,hi.rest.own,hi.rest.mono⟩
  exact FD hE bN hc.toOrder (m:=m+q) hc.tail hk fuel aC (m+q) ν t H a w hs hD (Nat.le_refl _) hle aP h (by
   have:=EG hD ops.size hle; omega)
 intro fuel
 induction fuel with
 | zero =>
  intro aC j0 bn ν t H a w hs eW hm kL pE an hi h hu;exact finish 0 aC j0 bn ν t H a w hs hm kL an hi h hu (fun i aP=>by
   cases hd:DB aC i with
   | true=>rfl
   | false=>have:=Fe (n:=ops.size) (by omega:i < ops.size) hd; omega)
 | succ fuel ih =>
  intro aC j0 bn ν t H a w hs eW hm kL pE an hi h hu;by_cases c4:∀ i,i < m+q→DB aC i=true
  ·exact finish (fuel+1) aC j0 bn ν t H a w hs hm kL an hi h hu c4
  ·have hex:∃ i,i < m+q∧DB aC i=false:=by
    refine Classical.byContradiction fun aE=>c4 fun i aP=>?_
    cases hd:DB aC i with
    | true=>rfl
    | false=>exact absurd ⟨i,aP,hd⟩ aE
   obtain ⟨i1,DZ,gg⟩:=hex;obtain ⟨i0,P7,fC,jk⟩:=EH gg;have hr:=Bh hc.toOrder hs (by omega:i0 < ops.size) fC jk
   refine ⟨(fun hn=>by rw [hn] at hr; cases hr),fun j hj=>?_⟩
   rw [mem_ready] at hj;obtain ⟨h1,o,ho,he⟩:=hj;have nS:j < ops.size:=(Array.getElem?_eq_some_iff.1 ho).1;rw [uu (by omega)] at h1
   have gd:ops.toList[j]?=some o:=by simpa using ho
   have mj:=tP hc.toOrder eW j o gd (fun e' gf bz=>he e' gf bz)
   have c8:∀ i,DB (aC.setIfInBounds j true) i=(DB aC i || i == j):=fun i=>CJ (by omega) i
   have xU:pk ops.toList (DB (aC.setIfInBounds j true)):=by
    intro i p aP hp e' gf bz;rw [c8] at aP ⊢;by_cases e:i=j
    ·subst e;rw [gd] at hp; cases hp;have:DB aC e'.on=true:=he e' gf bz;rw [this]; rfl
    ·have e2:(i == j)=false:=by simp [e]
     rw [e2,Bool.or_false] at aP;rw [eW i p aP hp e' gf bz]; rfl
   have tc:gr (DB (aC.setIfInBounds j true)) ops.size≤fuel:=by
    have:=Bt c8 h1 ops.size;rw [if_pos nS] at this; omega
   by_cases Ax:j∈fl
   ·-- a floating move
    obtain ⟨mZ,o',d,g1,g2,g3,g4,g6,g5⟩:=hc.rr j Ax;rw [gd] at g1; cases g1;obtain ⟨v,G,mn,Jm,hGH⟩:=hi.un j Ax h1 o d gd g4;obtain ⟨vu,D1,acT⟩:=Jm.2 o ν a w hi.le rfl (fun x hx s nP u hu=>by
     have rA:s∈iI o.op.operands.toList:=p7 (by rw [← nP]; simpa using hx)
     obtain ⟨u',r1,r2⟩:=hi.tm s u hu (fun f hf hd eT=>by
      have Ay:=(hc.rr f hf).1;by_cases e:f=j
      ·subst e;have:bU ops.toList f=some d:=by simp [bU,gd,g4]
       rw [this] at eT; cases eT;exact g6 rA
      ·have:=((g5 f s (by omega) e eT).2 rA).2
       rw [mj f this] at hd; cases hd)
     exact ⟨u',by simpa using r1,r2⟩) (hi.rest.hp.sD fun id b hb=>(hGH id b hb).1)
    unfold wpOpIn;rw [ho]
    dsimp only
    rw [if_pos (by simp [Region.wanted,g2])]
    refine jI (v':=vu) (w':=w) Jm.1 acT _ Q ?_;rw [g4];refine ih _ j0 bn ν t H _ w (by simp [hs]) xU hm kL (fun i aP hf=>by rw [c8,pE i aP hf]; rfl) (fun i aP=>?_) ⟨?_,fun e u yd bR=>?_,fun f hf hd p e k1 k2=>?_,hi.le,hi.rest⟩ h tc
    ·rw [c8] at aP;by_cases e:i=j
     ·omega
     ·have e2:(i == j)=false:=by simp [e]
      rw [e2,Bool.or_false] at aP;exact an i aP
    ·rw [rV,List.length_set]; exact hi.len
    ·rw [rV];by_cases e':d=e
     ·subst e';rw [mn] at yd; cases yd;have:d < t.length:=(List.getElem?_eq_some_iff.1 mn).1;exact ⟨vu,by rw [List.getElem?_set_self (by rw [← hi.len]; exact this)],D1⟩
     ·rw [List.getElem?_set_ne e'];refine hi.tm e u yd (fun f hf hd=>?_)
      by_cases e3:f=j
      ·subst e3;intro cX;have:bU ops.toList f=some d:=by simp [bU,gd,g4]
       rw [this] at cX; exact e' (Option.some.inj cX)
      ·exact bR f hf (by rw [c8,hd]; simp [e3])
    ·have aE:f≠j:=fun e3=>by subst e3; rw [c8] at hd; simp at hd
     have bV:DB aC f=false:=by
      rw [c8] at hd;simp only [Bool.or_eq_false_iff] at hd;exact hd.1
     exact hi.un f hf bV p e k1 k2
   ·have eF:j0≤j:=by
     rcases Nat.lt_or_ge j j0 with h' | h'
     ·rw [pE j h' Ax] at h1; cases h1
     ·exact h'
    have Jt:j < m+q:=by
     rcases Nat.lt_or_ge j (m+q) with h' | h'
     ·exact h'
     ·have:=mj i1 (hc.tail j (by simpa using nS) h' i1 (by omega))
      rw [gg] at this; cases this
    obtain ⟨c1,c2,c3⟩:=hc.mid j o (by omega) Jt gd
    have hjj:j=j0:=by
     rcases Nat.lt_or_ge j0 j with h' | h'
     ·rcases c2 j0 h' with J | J
      ·have:=an j0 (mj j0 J); omega
      ·have:=(hc.rr j0 J).1; omega
     ·omega
    subst hjj;have HF:(ops.toList.take (m+q)).drop j=o::(ops.toList.take (m+q)).drop (j+1):=by
     have hl:j < (ops.toList.take (m+q)).length:=by simp; omega
     rw [List.drop_eq_getElem_cons hl]
     congr 1
     have:=List.getElem?_eq_getElem hl;rw [List.getElem?_take,if_pos Jt,gd] at this;exact (Option.some.inj this).symm
    rw [HF] at h;unfold wpOpIn;rw [ho]
    dsimp only
    rw [if_pos (by simp [Region.wanted,c1])]
    refine VU hE bN (D':=DB (aC.setIfInBounds j true)) hi (fun t' H' h'=>(Mi h').2) (fun f hf=>?_) (fun f hf hd d cX=>?_) (fun d hd f hf=>?_) h (fun al t' H' a' w' aP h'=>?_)
    ·have:f≠j:=fun e=>Ax (e ▸ hf)
     rw [c8]; simp [this]
    ·rcases c3 f hf with J | J
     ·rw [mj f J] at hd; cases hd
     ·exact J d cX
    ·exact xR j d Jt (by omega) (by simp [bU,gd,hd]) f hf (fun e=>Ax (e ▸ hf))
    ·refine ih _ (j+1) bn al t' H' a' w' (by simp [hs]) xU (by omega) (by omega) (fun i ia hf=>?_) (fun i ia=>?_) aP (Mi h').1 tc
     ·rw [c8];by_cases e:i=j
      ·simp [e]
      ·rw [pE i (by omega) hf]; rfl
     ·rw [c8] at ia;by_cases e:i=j
      ·omega
      ·have e2:(i == j)=false:=by simp [e]
       rw [e2,Bool.or_false] at ia;have:=an i ia; omega
theorem VW (hm:P.follows .mixedOrders=true):nN P Ph:=by
 intro E hE r n F bN ops Q id ν tmps H a w k hi h hk;obtain ⟨m,q,aS,fl,bd,h⟩:=h;have h:=mD h;obtain ⟨P8,h⟩:=yA h;obtain ⟨afj,h⟩:=yA h;have hc:=Sk bd;obtain ⟨rs,iR,kq,gi⟩:=FC (P:=P) hE.toEnvOk (ops:=ops.toList) (t0:=tmps) (H:=H) (aS:=aS) (l:=ops.toList.take m) (ms:=aS) (j:=0) (rs:=[]) rfl
  (fun i o ho=>by
   rw [List.getElem?_take] at ho
   split at ho
   ·simpa using ho
   ·cases ho)
  (fun i _=>by simp) (fun i hi=>by omega) h
 have gi:=ud gi;have hlen:0+(ops.toList.take m).length=m:=by rw [List.length_take]; omega
 rw [hlen] at iR kq gi;have hD:DB (Array.replicate ops.size false)=fun _=>false:=by
  funext i
  unfold DB;by_cases h:i < ops.size <;> simp [h]
 have hmd:(ops.toList.drop m).take q=(ops.toList.take (m+q)).drop m:=by
  rw [List.drop_take]; congr 1; omega
 have htl:(ops.toList.drop m).drop q=ops.toList.drop (m+q):=by rw [List.drop_drop]
 rw [hmd,htl] at gi;have ba:m+q≤ops.size:=by have:=hc.le; simpa using this
 refine wpIn_region_any hm ?_;refine Mh (F:=F) (fl:=fl) hc.toOrder (by omega) hc.apart (fun j hj hm i hi hf=>?_) kq ?_ ops.size _ ν a _ (by simp) (fun j o hj=>by rw [hD] at hj; cases hj) (fun i aP=>by rw [hD] at aP; cases aP) ?_ (fun i _ _=>hi.fr _ (by omega)) ?_
 ·by_cases h':j < m+q
  ·rcases (hc.mid j ops[j] hm h' (by simp [hj])).2.1 i (by omega) with h | h
   ·exact h
   ·exact absurd h hf
  ·exact hc.tail j (by simpa using hj) (by omega) i (by omega)
 ·intro fuel aC ν a w hs eW an c4 hi hu;have lY:∀ i d,i < m→bU ops.toList i=some d→d < tmps.length:=by
   intro i d hi hd;obtain ⟨o,q,h1,J,h3,_⟩:=(kq i hi).ok;unfold bU at hd;rw [h1] at hd;exact h3 d hd
  have pT:xD ops.toList m:=by
   intro i j d hi hj h1 J;rcases Nat.decEq i j with aE | he
   ·obtain ⟨o,q,k1,_⟩:=(kq i hi).ok;obtain ⟨p,q',k2,_⟩:=(kq j hj).ok;unfold bU at h1 J;rw [k1] at h1; rw [k2] at J;exact absurd h1 (hc.apart i o j p d hi hj (Ne.symm aE) k1 k2 J).1
   ·exact he
  have e2:kU rs (DB aC) m=rs.map (·.nb):=by
   unfold kU;apply List.ext_getElem?;intro i;rw [List.getElem?_map,List.getElem?_map];by_cases h:i < m
   ·rw [List.getElem?_range h,List.getElem?_eq_getElem (by omega:i < rs.length)]
    simp only [Option.map_some];rw [List.getElem?_eq_getElem (by omega:i < rs.length)]
    cases fZ:DB aC i with
    | true=>rfl
    | false =>
     have hf:i∈fl:=Classical.byContradiction fun hn=>by rw [c4 i h hn] at fZ; cases fZ
     obtain ⟨_,o,d,g1,g2,g3,g4,_⟩:=hc.rr i hf;obtain ⟨r',k1,k2,_⟩:=(kq i h).mv o g1 (BT g3) g2;rw [List.getElem?_eq_getElem (by omega:i < rs.length)] at k1
     cases k1;rw [k2]; rfl
   ·rw [List.getElem?_eq_none (by simp; omega),List.getElem?_eq_none (by omega)]; rfl
  have fY:=hi.hp;rw [e2] at hi;refine VV hE bN hc hk fuel aC m ν ν _ _ a w hs eW (Nat.le_refl _) (by omega) c4 an ⟨?_,fun d u yd bR=>?_,fun f hf hd o d k1 k3=>?_,ν.le_refl,⟨.nil ν,hi.df,hi.hp,hi.fr,hi.kp,hi.own,hi.mono⟩⟩ gi hu
  ·have:=hi.tm.1;rw [rO] at this ⊢;exact this
  ·have HI:(bc ops.toList rs (DB aC) tmps m)[d]?=(bc ops.toList rs (fun i=>decide (i < m)) tmps m)[d]?:=by
    refine yB pT lY (fun i aP fZ=>?_)
    have:DB aC i=true:=by
     by_cases hf:i∈fl
     ·cases Qa:DB aC i with
      | true=>rfl
      | false=>exact absurd fZ (bR i hf Qa)
     ·exact c4 i aP hf
    rw [this]; simp [aP]
   rw [← HI] at yd;exact hi.tm.get yd
  ·obtain ⟨Ay,o',d',g1,g2,g3,g4,g6,g5⟩:=hc.rr f hf;rw [k1] at g1; cases g1;rw [k3] at g4; cases g4;obtain ⟨r',q1,q2,G,qG,q3⟩:=(kq f Ay).mv o k1 (BT g3) g2;have pR:∀ (id:Nat) (b:aj),G[id]?=some (some b)→(H++rs.map (·.nb))[id]?=some (some b)∧(H++kU rs (DB aC) m)[id]?=some (some b):=by
    intro id b hb;rcases qG id b hb with ⟨h1,J⟩ | ⟨i,h1,J,h3,h4⟩
    ·rw [List.getElem?_append_left h1,List.getElem?_append_left h1]; exact ⟨J,J⟩
    ·subst h1;have Az:i < m:=by omega
     have fZ:DB aC i=true:=Classical.byContradiction fun hn=>by
      have D2:i∈fl:=Classical.byContradiction fun bR=>hn (c4 i Az bR)
      obtain ⟨_,o2,d2,y1,y2,y3,y4,_⟩:=hc.rr i D2;obtain ⟨r2,z1,z2,_⟩:=(kq i Az).mv o2 y1 (BT y3) y2;rw [z1] at h4;simp [z2] at h4
     rw [List.getElem?_append_right (by omega),List.getElem?_append_right (by omega)]
     rw [show H.length+i - H.length=i by omega]
     refine ⟨?_,rR.2 ⟨Az,fZ,h4⟩⟩;rw [List.getElem?_map];cases hr:rs[i]? with
     | none=>rw [hr] at h4; cases h4
     | some r2=>rw [hr] at h4; simpa using h4
   have hG:bT ν G w:=⟨fun id b hb=>fY.aJ id b (pR id b hb).2,fun x y bx bY lx ly hx hy aE ho e1 e2=>fY.sep x y bx bY lx ly (pR x bx hx).2 (pR y bY hy).2 aE ho e1 e2⟩
   have hV:∃ G2,ob P ν G2 o.op (bc ops.toList rs (fun i=>decide (i < f)) tmps f) r'.v∧∀ id b,G2[id]?=some (some b)→(H++rs.map (·.nb))[id]?=some (some b)∧∃ n,Iw ops.toList fl H.length=some n∧id < n:=by
    cases hp:mG o.op with
    | true=>exact ⟨[],(q3.1 hp ν w hG).heap [],fun id b hb=>by simp at hb⟩
    | false =>
     obtain ⟨hh,mj⟩:=g3.resolve_left (by rw [hp]; simp)
     refine ⟨G,q3.2 hh ν,fun id b hb=>?_⟩
     rcases qG id b hb with ⟨h1,J⟩ | ⟨i,h1,J,h3,h4⟩
     ·refine ⟨by rw [List.getElem?_append_left h1]; exact J,H.length,?_,h1⟩
      unfold Iw;have:(fl.all fun f=>match ops.toList[f]? with | some o=>mG o.op | none=>true)=false:=by
       rw [List.all_eq_false];exact ⟨f,hf,by rw [k1]; simp [hp]⟩
      rw [this]
     ·obtain ⟨_,o2,d2,y1,y2,y3,y4,_⟩:=hc.rr i (mj i h3);obtain ⟨r2,z1,z2,_⟩:=(kq i (by omega)).mv o2 y1 (BT y3) y2
      rw [z1] at h4;simp [z2] at h4
   obtain ⟨G2,q3,qg⟩:=hV;have Ju:bU ops.toList f=some d:=by simp [bU,k1,k3]
   refine ⟨r'.v,G2,ue _ Ju q1 (by simp [Ay]) (lY f d Ay Ju) m Ay pT,q3.same fun s hs=>?_,qg⟩
   by_cases hex:∃ i,i < m∧i≠f∧bU ops.toList i=some s
   ·obtain ⟨i,h1,J,h3⟩:=hex;obtain ⟨_,k5⟩:=g5 i s (by omega) J h3
    obtain ⟨_,k7⟩:=k5 hs;have D2:=(hc.mask f o k1 i k7).1;obtain ⟨o2,r2,w1,w2,_⟩:=(kq i h1).ok;rw [ue _ h3 w2 (by simp [D2]) (lY i s h1 h3) f D2 (fun a b c h4 h5=>pT a b c (by omega) (by omega)),ue _ h3 w2 (by simp [h1]) (lY i s h1 h3) m h1 pT]
   ·have nR:∀ i,i < m→bU ops.toList i=some s→i=f:=fun i h1 J=>Classical.byContradiction fun h3=>hex ⟨i,h1,h3,J⟩
    by_cases Q8:s=d
    ·subst Q8;exact absurd hs g6
    ·rw [wA _ f (fun i aP _ fZ=>by have:=nR i (by omega) fZ; omega),wA _ m (fun i aP Qa fZ=>by
      have:=nR i aP fZ;subst this;rw [Ju] at fZ; exact absurd (Option.some.inj fZ).symm Q8)]
 ·rw [hD];have e1:bc ops.toList rs (fun _=>false) tmps m=tmps:=wB (j:=0) (by omega) (fun _ _ _=>rfl)
  rw [e1];have kV:Below w.heap.size w { w with drawn:=w.drawn+1 }:=⟨rfl,rfl,rfl,Nat.le_refl _,fun _ _=>rfl⟩
  refine ⟨hi.tm,hi.df.below kV,(hi.hp.below kV).sD (fun id c cF=>?_),fun id bm=>hi.fr id (by rw [List.length_append] at bm; omega),hi.kp.below kV,fun id c lc cF oB dH=>?_,hi.mono⟩
  ·rw [List.getElem?_append] at cF
   split at cF
   ·exact cF
   ·have:=(rR.1 cF).2.1; cases this
  ·rw [List.getElem?_append] at cF
   split at cF
   ·exact hi.own id c lc cF oB dH
   ·have:=(rR.1 cF).2.1; cases this
 ·unfold gr;have:=List.length_filter_le (fun i=>!DB (Array.replicate ops.size false) i) (List.range ops.size)
  simpa using this
end
open Go Go.RowKit
def isApp (op:Op):Option (TypeId × Operand × Operand):=match op with
 | .call c=>match c.callee with
  | .builtin .append=>match c.args.toList,c.argTypes.toList with
   | [x,y],[t,t']=>match Nat.beq t t' with
    | true=>some (t,x,y)
    | false=>none
   | _,_=>none
  | _=>none
 | _=>none
theorem Ts {op:Op} {t:TypeId} {x y:Operand} (h:isApp op=some (t,x,y)):∃ c,op=.call c∧c.callee=.builtin .append∧c.args=#[x,y]∧c.argTypes=#[t,t]:=by
 unfold isApp at h
 split at h
 ·rename_i c
  split at h
  ·rename_i hc
   split at h
   ·rename_i x' y' t1 t2 hx ht
    split at h
    ·rename_i hb;cases h;have hb:=Nat.eq_of_beq_eq_true hb;subst hb;exact ⟨c,rfl,hc,Array.ext' hx,Array.ext' ht⟩
    ·cases h
   ·cases h
  ·cases h
 ·cases h
def Qb (E:Env) (tmps:List Value) (G:aA) (n0 aI:Nat) (t:TypeId) (x y:Operand) (k:Value→Option Nat→Option aj→Prop):Prop :=
 bX tmps x fun xv=>bX tmps y fun yv=>cN E.tt t fun ti=>match ti.kind with
  | .slice e=>cN E.tt e fun te=>zP G te.size yv fun s=>match xv with
   | .slice none 0 0=>match s.m with
    | 0=>k (.slice none 0 0) none none
    | m+1=>((m+1)*te.bytes≤140737488355328)∧k (.slice (some ⟨aI,0,none⟩) (m+1) aM) none (some (ph te.size s))
   | .slice (some ⟨id,0,none⟩) n c=>gH G id fun b=>match Nat.beq b.ah te.size && Nat.ble n0 id with
    | true=>(n=b.n∧(n+s.m)*te.bytes≤140737488355328)∧wZ b s fun b'=>k (.slice (some ⟨aI,0,none⟩) (n+s.m) aM) (some (id - n0)) (some b')
    | false=>False
   | _=>False
  | _=>False
structure EPost (ν al:Nu) (aI:Nat) (iQ:Option Loc) (w w':World) (v v':Value) (nb:Option aj):Prop where
 le:ν.le al
 only:∀ id,id≠aI→al id=ν id
 val:aq al v v'
 D3:Below w.heap.size w w'∨∃ l,iQ=some l∧(∃ cur t,w.heap[l.aJ]?=some (.cells cur t (0,0)))∧(∀ q,q≠l.aJ→w'.heap[q]?=w.heap[q]?)∧w.heap.size≤w'.heap.size∧w'.os=w.os∧w'.tape=w.tape∧w'.output=w.output
 Ac:nb=none→al=ν
 g7:∀ b,nb=some b→∃ l,al aI=some l∧bQ al l b w'∧(w.heap.size≤l.aJ∨∃ lo,iQ=some lo∧l.aJ=lo.aJ)
theorem nw.e {ν al:Nu} {aI:Nat} {w w':World} {v v':Value} {nb:Option aj} (h:nw ν al aI w w' v v' nb) (iQ:Option Loc):EPost ν al aI iQ w w' v v' nb :=
 ⟨h.le,h.only,h.val,.inl h.below,h.Ac,fun b hb=>let ⟨l,h1,J,h3⟩:=h.g7 b hb; ⟨l,h1,J,.inl h3⟩⟩
section
variable {P:Program} {E:Env}
theorem UO (hE:EnvOk P E) {tmps:List Value} {G:aA} {n0 aI:Nat} {t:TypeId} {x y:Operand} {k:Value→Option Nat→Option aj→Prop} (h:Qb E tmps G n0 aI t x y k) :
  ∃ v gl nb,k v gl nb∧(∀ i,gl=some i→∃ b,G[n0+i]?=some (some b)∧b.own=true) ∧
   ∀ (ν:Nu) (a:Act) (w:World) (ty:TypeId),fj ν tmps a x→fj ν tmps a y→bT ν G w→ν aI=none →
    ∃ v' w' al,(Builtin.append_ #[t,t] ty #[a.eval x,a.eval y]).run P w=.ok v' w'∧EPost ν al aI (gl.bind fun i=>ν (n0+i)) w w' v v' nb:=by
 obtain ⟨xv,J,vB⟩:=cQ h;clear h;obtain ⟨yv,h,Aq⟩:=cQ J;clear J;obtain ⟨ti,ht,J⟩:=cR h;clear h;obtain ⟨d,hu,hd⟩:=(hE.ty _ _ ht).under
 split at J
 ·rename_i e hk;rw [hk] at hd;have hd:d=.slice e:=hd;subst hd;obtain ⟨te,he,h⟩:=cR J;clear J;have bd:=hE.ty _ _ he;obtain ⟨i,iM,gz,nM,z,hz,iy⟩:=bd.info;obtain ⟨s,J,x8,hs⟩:=Fx h;clear h;have jA:z.cells.size=te.size:=by rw [iy]; simpa using bd.len
  have aek:=bd.bit;have small:∀ q,q*te.bytes≤140737488355328→q≤140737488355328:=fun q hq=>by
   have:q*1≤q*te.bytes:=Nat.mul_le_mul_left _ (by omega)
   omega
  split at J
  ·-- onto nil
   split at J
   ·rename_i hm;refine ⟨_,_,_,J,(fun i hi=>by cases hi),fun ν a w ty vE AA hH hn=>?_⟩
    have hx:=(vB ν a vE).qi;obtain ⟨oy,cy,L,kJ,kK,hC,jX⟩:=hs ν w _ hH (Aq ν a AA);have hL:L.length=s.m*i.size:=by rw [gz]; exact hC.len
    refine ⟨_,w,ν,?_,⟨ν.le_refl,fun _ _=>rfl,.iL,.inl (Below.refl _ _),fun _=>rfl,(fun b hb=>by cases hb)⟩⟩
    rw [hx,kJ];have:=rP (P:=P) (w:=w) (ty:=ty) hu iM (A:=none) (oy:=oy) (n:=0) (c:=0) (m:=s.m) (cy:=cy) (L:=L) hL jX kK (by omega) (w2:=w) (fun a ha=>by cases ha) (fun _=>rfl)
    rw [hm] at this ⊢
    simpa using this
   ·rename_i m hm;obtain ⟨hB,h⟩:=J;refine ⟨_,_,_,h,(fun i hi=>by cases hi),fun ν a w ty vE AA hH hn=>?_⟩
    have hx:=(vB ν a vE).qi;obtain ⟨oy,cy,L,kJ,kK,hC,jX⟩:=hs ν w _ hH (Aq ν a AA);have hL:L.length=s.m*i.size:=by rw [gz]; exact hC.len
    have qT:s.kC=true→∀ r,r < s.m→∀ v∈s.get r,cJ v=true:=fun h r hr v hv=>x8 h r hr ν w hH v hv
    have bC:=A8 (P:=P) (w:=w) (ty:=ty) hu iM hz (A:=none) (oy:=oy) (n:=0) (c:=0) (m:=s.m) (cy:=cy) (O:=[]) (L:=L) (by simp) (fun a ha=>by cases ha) (fun _=>⟨rfl,rfl⟩) hL jX kK (by omega) (by omega) (by rw [nM,hm]; simpa using hB) (by have:=small _ hB; omega)
    have dQ:Ext (ph te.size s) te.size (fun _=>[]) 0 s.get s.m s.kC:=by
     cases s with
     | fl m g=>exact ⟨rfl,rfl,by simp [ph,aj.n,Src.m],fun r hr=>by rw [gp (by omega)]; rfl,fun _=>rfl⟩
     | ex L=>exact ⟨rfl,rfl,by simp [ph,aj.n,Src.m],fun r hr=>by rw [gp (by omega)]; rfl,fun h=>by simp [ph,aj.iY] at h⟩
    have x7:=hC.mono (Nu.kh (l:=⟨w.heap.size,0,te.size,grownCap w (0+s.m) 0 e⟩) hn);have iz:=wk (CR.nil _ te.size (fun _=>[])) x7 dQ (fun h=>⟨fun r hr=>absurd hr (by omega),qT h⟩) (w:=w) jA (iQ:=0) (e:=e)
    have eF:=grownCap_ge w (0+s.m) 0 e;have cC:aq (ν.add aI ⟨w.heap.size,0,te.size,grownCap w (0+s.m) 0 e⟩) (.slice (some ⟨aI,0,none⟩) (m+1) aM) (.slice (some ⟨w.heap.size,0,none⟩) (0+s.m) (grownCap w (0+s.m) 0 e)):=by
     have:=aq.slice (ν:=ν.add aI ⟨w.heap.size,0,te.size,grownCap w (0+s.m) 0 e⟩) aI 0 (0+s.m) aM (grownCap w (0+s.m) 0 e) _ Nu.add_same (.inr rfl) eF (by simp)
     rw [show m+1=0+s.m by omega]
     simpa [Loc.at] using this
    have hq:=nh hn iz (we w _ _ _ _) (Nat.le_refl _) cC;refine ⟨_,_,_,?_,hq.e _⟩;rw [hx,kJ]
    simpa using bC
  ·rename_i id n c;obtain ⟨b,hb,h⟩:=gA J;clear J
   split at h
   ·rename_i dt;rw [Bool.and_eq_true] at dt;obtain ⟨dt,Qc⟩:=dt;have dt:b.ah=te.size:=Nat.eq_of_beq_eq_true dt;have Qc:n0≤id:=Nat.le_of_ble_eq_true Qc;obtain ⟨⟨fV,mi⟩,h⟩:=h;obtain ⟨b',h,ho,dQ⟩:=A9 h;have bm:n0+(id - n0)=id:=by omega
    refine ⟨_,_,_,h,(fun i hi=>by cases hi; rw [bm]; exact ⟨b,hb,(aj.cZ ho).1⟩),fun ν a w ty vE AA hH hn=>?_⟩
    have hx:=vB ν a vE;obtain ⟨oy,cy,L,kJ,kK,hC,jX⟩:=hs ν w _ hH (Aq ν a AA);have hL:L.length=s.m*i.size:=by rw [gz]; exact hC.len
    have qT:s.kC=true→∀ r,r < s.m→∀ v∈s.get r,cJ v=true:=fun h r hr v hv=>x8 h r hr ν w hH v hv
    obtain ⟨l,hl,hB⟩:=hH.aJ id b hb;rw [← dt] at hC jA;have aE:id≠aI:=fun e=>by rw [e,hn] at hl; cases hl
    have hold:(some (id - n0)).bind (fun i=>ν (n0+i))=some l:=by
     show ν (n0+(id - n0))=some l
     rw [bm]; exact hl
    rw [hold];have Ja:∃ A c',a.eval x=.slice (some A) n c'∧n≤c'∧((A=l.at 0 0∧c'≤l.cap)∨(n=0∧c'=0)):=by
     rcases hx.ua with ⟨l',c',cE,h1,J,h3,e⟩ | ⟨h1,J,bb,e⟩
     ·rw [hl] at cE; cases cE;exact ⟨_,c',e,J,.inl ⟨rfl,by omega⟩⟩
     ·exact ⟨bb,0,by rw [e,h1],by omega,.inr ⟨h1,rfl⟩⟩
    obtain ⟨A,c',cm,DS,hA⟩:=Ja;have hO:∃ O,CR ν b.ah b.row n O∧∀ (j:Nat) u,O[j]?=some u→w.cell? (A.add j)=some u:=by
     rcases hA with ⟨rfl,_⟩ | ⟨h0,_⟩
     ·obtain ⟨O,h1,J⟩:=CR.G1 hB (row:=0) (m:=n) (by omega)
      exact ⟨O,h1.congr (fun r hr=>by simp),J⟩
     ·subst h0;exact ⟨[],CR.nil _ _ _,fun j u hu=>by simp at hu⟩
    obtain ⟨O,hO,rk⟩:=hO;have tg:b.pD=true→∀ r,r < b.n→∀ v∈b.row r,cJ v=true:=fun h r hr v hv=>by
     cases b with
     | flat o n e g=>exact hB.plain rfl r hr v hv
     | aO o e rows =>
      have h:rows.all jK=true:=h;have hr:r < rows.length:=hr;have hv:v∈rows.getD r []:=hv;rw [List.getD_eq_getElem?_getD,List.getElem?_eq_getElem hr] at hv;exact yp (List.all_eq_true.1 h _ (List.getElem_mem hr)) v hv
     | cg r=>cases h
    have mQ:(b.pD && s.kC)=true→(∀ r,r < b.n→∀ v∈b.row r,cJ v=true)∧∀ r,r < s.m→∀ v∈s.get r,cJ v=true:=fun h=>by
     rw [Bool.and_eq_true] at h; exact ⟨tg h.1,qT h.2⟩
    by_cases cS:n+s.m≤c'
    ·-- in its place
     obtain ⟨cur,tt,jU,ba,acU⟩:=hB.own (aj.cZ ho).1 (aj.cZ ho).2;have hle:=Nu.kh (l:=l) hn;rcases hA with ⟨rfl,fL⟩ | ⟨h0,oD⟩
     ·obtain ⟨h1,J⟩:=hB.extend (P:=P) ho (Nat.le_refl _) hC dQ mQ (by omega)
      refine ⟨_,w.setCells l.aJ (l.base+b.n*l.ah) L,ν.add aI l,?_,⟨hle,fun j hj=>Nu.iX hj,.slice _ _ _ _ _ l Nu.add_same (.inr rfl) cS (by omega),.inr ⟨l,rfl,⟨cur,tt,jU⟩,fun q hq=>rM _ _ _ _ _ hq,by rw [oW]; exact Nat.le_refl _,(wc _ _ _ _).1,(wc _ _ _ _).2.1,(wc _ _ _ _).2.2⟩,(fun h=>by cases h),fun b2 dG=>by cases dG; exact ⟨l,Nu.add_same,J.mono hle,.inr ⟨l,rfl,rfl⟩⟩⟩⟩
      rw [cm,kJ];refine rP (P:=P) hu iM hL jX kK cS (fun A' th=>?_) (fun h=>by cases h)
      cases th;have:(l.at 0 0).add (n*i.size)=l.at b.n 0:=by
       rw [Loc.jM]; unfold Loc.at; congr 1;rw [hB.ah,gz,dt,fV]; omega
      rw [this]; exact h1
     ·have kI:s.m=0:=by omega
      have x9:L=[]:=List.eq_nil_of_length_eq_zero (by rw [hL,kI]; simp)
      refine ⟨.slice (some A) (n+s.m) c',w,ν.add aI l,?_,⟨hle,fun j hj=>Nu.iX hj,?_,.inl (Below.refl _ _),(fun h=>by cases h),fun b2 dG=>by
       cases dG;have vF:b'.n=b.n:=by rw [dQ.num,kI]; rfl
       have aZ:∀ r,r < b.n→b'.row r=b.row r:=fun r hr=>by rw [dQ.row r (by omega),jn hr]
       refine ⟨l,Nu.add_same,bQ.mono hle ⟨by rw [dQ.ah]; exact hB.ah,fun r hr=>by rw [vF] at hr; rw [aZ r hr,dQ.ah]; exact hB.len r hr,
        fun r hr j v hv=>by rw [vF] at hr; rw [aZ r hr] at hv; exact hB.cell r hr j v hv,
        fun h r hr v hv=>by rw [vF] at hr; rw [aZ r hr] at hv; exact (mQ (dQ.flat h)).1 r hr v hv,
        fun r hr v hv=>by rw [vF] at hr; rw [aZ r hr] at hv; exact hB.one r hr v hv,
        fun _ _=>⟨cur,tt,jU,ba,by rw [vF]; exact acU⟩,(fun r h=>by rw [(aj.cZ dQ.own).2] at h; cases h),hB.live⟩,.inr ⟨l,rfl,rfl⟩⟩⟩⟩
      ·rw [cm,kJ];exact rP (P:=P) hu iM hL jX kK cS (fun A' th=>by rw [x9]; rfl) (fun h=>by cases h)
      ·subst oD;rw [show n+s.m=0 by omega]
       exact .void _ _ _ _ (.inr rfl)
    ·have bC:(Builtin.append_ #[t,t] ty #[a.eval x,a.eval y]).run P w=.ok (.slice (some ⟨w.heap.size,0,none⟩) (n+s.m) (grownCap w (n+s.m) c' e)) (w.drew.alloc (uc (O++L).toArray z (grownCap w (n+s.m) c' e - (n+s.m)) e)):=by
      rw [cm,kJ];exact A8 (P:=P) (w:=w) (ty:=ty) hu iM hz (by rw [hO.len,gz,dt]) (fun a ha=>by cases ha; exact rk) (fun h=>by cases h) hL jX kK DS (by omega) (by rw [nM]; exact mi) (small _ mi)
     have lf:=Nu.kh (l:=⟨w.heap.size,0,b.ah,grownCap w (n+s.m) c' e⟩) hn;have Ij:Ext b' b.ah b.row n s.get s.m (b.pD && s.kC):=by rw [fV]; exact dQ
     have iz:=wk (hO.mono lf) (hC.mono lf) Ij (fun h=>⟨fun r hr v hv=>(mQ h).1 r (by omega) v hv,(mQ h).2⟩) (w:=w) jA (iQ:=c') (e:=e)
     have eF:=grownCap_ge w (n+s.m) c' e;have cC:aq (ν.add aI ⟨w.heap.size,0,b.ah,grownCap w (n+s.m) c' e⟩) (.slice (some ⟨aI,0,none⟩) (n+s.m) aM) (.slice (some ⟨w.heap.size,0,none⟩) (n+s.m) (grownCap w (n+s.m) c' e)):=by
      have:=aq.slice (ν:=ν.add aI ⟨w.heap.size,0,b.ah,grownCap w (n+s.m) c' e⟩) aI 0 (n+s.m) aM (grownCap w (n+s.m) c' e) _ Nu.add_same (.inr rfl) eF (by simp)
      simpa [Loc.at] using this
     have hq:=nh hn iz (we w _ _ _ _) (Nat.le_refl _) cC;exact ⟨_,_,_,bC,hq.e _⟩
   ·exact h.elim
  ·exact J.elim
 ·exact J.elim
end
end Go.Ae
