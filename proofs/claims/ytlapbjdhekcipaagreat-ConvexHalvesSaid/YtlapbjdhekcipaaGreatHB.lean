import Derived.RangeFuncLeaves
import Derived.RangeFuncRecord
import Derived.KernelRfl
import Derived.Test.YtlapbjdhekcipaaGreatHA
set_option linter.unusedVariables false
set_option linter.unusedSimpArgs false
namespace Go.Ae
open Go Go.RowKit
def o8 (ae:Nat):Src→ai
 | .fl m g=>.flat true m ae g
 | .ex L=>.aP true ae L
def ai.pB:ai→Bool
 | .flat _ _ _ _=>true
 | .aP _ _ rows=>rows.all jJ
 | .b6 _=>false
def xn (b:ai) (s:Src) (k:ai→Prop):Prop :=
 match b,s with
 | .flat true n ae get,.fl m news=>k (.flat true (n+m) ae (iH get n news))
 | .aP true ae rows,.ex L=>ta rows L fun l=>k (.aP true ae l)
 | .aP true ae rows,.fl m news=>match Nat.ble 2 ae && rows.all jJ with
  | true=>k (.flat true (rows.length+m) ae (iH (fun j=>rows.getD j []) rows.length news))
  | false=>xU news 0 m fun L=>ta rows L fun l=>k (.aP true ae l)
 | _,_=>False
def Dm (b:ai) (row n:Nat) (s:Src) (k:ai→Prop):Prop :=
 match b,s with
 | .flat _ _ ae get,.fl m news=>k (.flat true (n+m) ae (iH (fun j=>get (fe row j)) n news))
 | .aP _ ae rows,.ex L=>sQ rows row n fun L0=>ta L0 L fun l=>k (.aP true ae l)
 | .aP _ ae rows,.fl m news=>match Nat.ble 2 ae && rows.all jJ with
  | true=>k (.flat true (n+m) ae (iH (fun j=>rows.getD (fe row j) []) n news))
  | false=>sQ rows row n fun L0=>xU news 0 m fun L=>ta L0 L fun l=>k (.aP true ae l)
 | _,_=>False
structure Ext (b':ai) (ae:Nat) (g:Nat→List Value) (n:Nat) (h:Nat→List Value) (m:Nat) (fl:Bool):Prop where
 own:b'.n7=true
 ae:b'.ae=ae
 num:b'.n=n+m
 row:∀ r,r < n+m→b'.row r=iH g n h r
 flat:b'.jM=true→fl=true
theorem SA {l m:List (List Value)} {r:Nat} (h:r < l.length):(l++m).getD r []=l.getD r []:=by
 simp [List.getD,List.getElem?_append_left h]
theorem SB {l m:List (List Value)} {r:Nat} (h:l.length≤r):(l++m).getD r []=m.getD (r - l.length) []:=by
 simp [List.getD,List.getElem?_append_right h]
theorem Cj {ae:Nat} {L0 L:List (List Value)} {g h:Nat→List Value} {n m:Nat} (h0:L0.length=n) (h1:L.length=m) (hg:∀ r,r < n→L0.getD r []=g r) (hh:∀ r,r < m→L.getD r []=h r) (fl:Bool) :
  Ext (.aP true ae (L0++L)) ae g n h m fl:=by
 refine ⟨rfl,rfl,by simp [ai.n,h0,h1],fun r hr=>?_,fun h=>by simp [ai.jM] at h⟩
 show (L0++L).getD r []=_
 by_cases al:r < n
 ·rw [SA (by omega),ji al,hg r al]
 ·rw [SB (by omega),gw (by omega),h0,hh _ (by omega)]
theorem Bu {b:ai} {s:Src} {k:ai→Prop} (h:xn b s k):∃ b',k b'∧b.n7=true∧Ext b' b.ae b.row b.n s.get s.m (b.pB && s.kj):=by
 cases b with
 | flat o n e g =>
  cases o with
  | false=>cases s <;> exact h.elim
  | true =>
   cases s with
   | fl m news=>exact ⟨_,h,rfl,rfl,rfl,rfl,fun r _=>rfl,fun _=>rfl⟩
   | ex L=>exact h.elim
 | aP o e rows =>
  cases o with
  | false=>cases s <;> exact h.elim
  | true =>
   cases s with
   | fl m news =>
    have h:match Nat.ble 2 e && rows.all jJ with
     | true=>k (.flat true (rows.length+m) e (iH (fun j=>rows.getD j []) rows.length news))
     | false=>xU news 0 m fun L=>ta rows L fun l=>k (.aP true e l):=h
    split at h
    ·rename_i hs;rw [Bool.and_eq_true] at hs;exact ⟨_,h,rfl,rfl,rfl,rfl,fun r _=>rfl,fun _=>by show (rows.all jJ && true)=true; rw [hs.2]; rfl⟩
    obtain ⟨L,h,h1,J⟩:=Fw h;have h:=yV h;exact ⟨_,h,rfl,Cj rfl h1 (fun _ _=>rfl) (fun r hr=>by rw [J r hr]; simp [Src.get]) _⟩
   | ex L =>
    have h:=yV h;exact ⟨_,h,rfl,Cj rfl rfl (fun _ _=>rfl) (fun r hr=>rfl) _⟩
 | b6 r=>cases s <;> exact h.elim
theorem LD {b:ai} {row n:Nat} {s:Src} {k:ai→Prop} (h:Dm b row n s k):∃ b',k b'∧Ext b' b.ae (fun j=>b.row (row+j)) n s.get s.m (b.pB && s.kj):=by
 cases b with
 | flat o N e g =>
  cases s with
  | fl m news=>exact ⟨_,h,rfl,rfl,rfl,fun r hr=>by simp [ai.row,aw,Src.get,Src.m],fun _=>rfl⟩
  | ex L=>exact h.elim
 | aP o e rows =>
  have a8:∀ (L0:List (List Value)),(L0.length=n∧row+n≤rows.length)→(∀ (j:Nat) v,L0[j]?=some v→rows[row+j]?=some v)→∀ r,r < n→L0.getD r []=(ai.aP o e rows).row (row+r):=by
   intro L0 h0 h1 r hr;have al:r < L0.length:=by omega
   have:=h1 r _ (List.getElem?_eq_getElem al);simp [ai.row,List.getD,this,List.getElem?_eq_getElem al]
  cases s with
  | fl m news =>
   have h:match Nat.ble 2 e && rows.all jJ with
    | true=>k (.flat true (n+m) e (iH (fun j=>rows.getD (fe row j) []) n news))
    | false=>sQ rows row n fun L0=>xU news 0 m fun L=>ta L0 L fun l=>k (.aP true e l):=h
   split at h
   ·rename_i hs;rw [Bool.and_eq_true] at hs;exact ⟨_,h,rfl,rfl,rfl,fun r hr=>by simp [ai.row,aw,Src.get,Src.m],fun _=>by show (rows.all jJ && true)=true; rw [hs.2]; rfl⟩
   obtain ⟨L0,h,h0,h3⟩:=yQ h;obtain ⟨L,h,h1,J⟩:=Fw h;have h:=yV h;exact ⟨_,h,Cj h0.1 h1 (a8 L0 h0 h3) (fun r hr=>by rw [J r hr]; simp [Src.get]) _⟩
  | ex L =>
   obtain ⟨L0,h,h0,h3⟩:=yQ h;have h:=yV h;exact ⟨_,h,Cj h0.1 rfl (a8 L0 h0 h3) (fun r hr=>rfl) _⟩
 | b6 r=>cases s <;> exact h.elim
def jK (g:Nat→List Value) (q:Nat) (h:Nat→List Value) (m:Nat):Nat→List Value:=fun j=>bif Nat.blt j q then g j else bif Nat.blt j (q+m) then h (j - q) else g j
theorem HU {a b:Nat} (h:b≤a):Nat.blt a b=false:=by
 cases e:Nat.blt a b with
 | false=>rfl
 | true=>rw [Nat.blt_eq] at e; omega
theorem TQ {g h:Nat→List Value} {q m j:Nat} (hj:j < q):jK g q h m j=g j:=by
 have:Nat.blt j q=true:=by rw [Nat.blt_eq]; exact hj
 simp [jK,this]
theorem TR {g h:Nat→List Value} {q m j:Nat} (h1:q≤j) (J:j < q+m):jK g q h m j=h (j - q):=by
 have:Nat.blt j (q+m)=true:=by rw [Nat.blt_eq]; exact J
 simp [jK,this,HU h1]
theorem TS {g h:Nat→List Value} {q m j:Nat} (hj:q+m≤j):jK g q h m j=g j:=by
 simp [jK,HU hj,HU (show q≤j by omega)]
def GQ (E:Env) (tmps:List Value) (H:ay) (t:TypeId) (xv yv:Value) (k:Value→List Value→ay→Prop):Prop :=
 cJ E.tt t fun ti=>match ti.kind with
  | .slice e=>cJ E.tt e fun te=>Ai H te.size yv fun s=>match xv with
   | .slice none 0 0=>match s.m with
    | 0=>k (.slice none 0 0) tmps H
    | m+1=>((m+1)*te.bytes≤140737488355328)∧jw H fun aJ=>pr H (some (o8 te.size s)) fun H'=>k (.slice (some ⟨aJ,0,none⟩) (m+1) aI) tmps H'
   | .slice (some ⟨id,row,none⟩) n c=>gK H id fun b=>match Nat.beq b.ae te.size with
    | true=>match decide (c=aI) with
     | false=>br (Nat.ble (n+s.m) c)
      (row+n=b.n∧xn b s fun b'=>jv H id (some b') fun H'=>k (.slice (some ⟨id,row,none⟩) (n+s.m) c) tmps H')
      ((row+n≤b.n∧(n+s.m)*te.bytes≤140737488355328)∧Dm b row n s fun b'=>jw H fun aJ=>pr H (some b') fun H'=>k (.slice (some ⟨aJ,0,none⟩) (n+s.m) aI) tmps H')
     | true=>match E.iy with
      | true=>match row with
       | 0=>(E.base≤id∧(n≤b.n∧b.n7=true)∧(n+s.m)*te.bytes≤140737488355328)∧Dm b 0 n s fun b1=>zV id b1 fun b'=>∃ aa,∀ a:Nat→Value,u6 a id aa 0 tmps fun zW=>xT id H fun H1=>jv H1 id (some b') fun H'=>k (.slice (some ⟨id,0,none⟩) (n+s.m) aI) zW H'
       | _=>False
      | false=>match Nat.ble E.base id with
       | true=>match row with
        | 0=>(E.base≤id∧n=b.n∧(n+s.m)*te.bytes≤140737488355328)∧xn b s fun b1=>zV id b1 fun b'=>∃ aa,∀ a:Nat→Value,u6 a id aa 0 tmps fun zW=>xT id H fun H1=>jv H1 id (some b') fun H'=>k (.slice (some ⟨id,0,none⟩) (n+s.m) aI) zW H'
        | _=>False
       | false=>match row with
        | 0=>(n=b.n∧(n+s.m)*te.bytes≤140737488355328)∧xn b s fun b'=>jv H id none fun H1=>jw H1 fun aJ=>pr H1 (some b') fun H'=>k (.slice (some ⟨aJ,0,none⟩) (n+s.m) aI) tmps H'
        | _=>False
    | false=>False
   | .slice (some ⟨id,row,some b0⟩) n c=>gK H id fun b=>match Nat.beq b.ae te.size with
    | true=>match b,s with
     | .flat true N ae get,.fl m news=>(n+m≤b0∧row+(n+m)≤N)∧jv H id (some (.flat true N ae (jK get (fe row n) news m))) fun H'=>k (.slice (some ⟨id,row,some b0⟩) (n+m) c) tmps H'
     | _,_=>False
    | false=>False
   | _=>False
  | _=>False
def O9 (E:Env) (tmps:List Value) (H:ay) (t:TypeId) (x:Operand) (k:ay→Prop):Prop :=
 bS tmps x fun xv=>cJ E.tt t fun ti=>match ti.kind with
  | .slice e=>cJ E.tt e fun te=>match xv with
   | .slice (some ⟨id,row,_⟩) n _=>gK H id fun b=>match Nat.beq b.ae te.size with
    | true=>match b with
     | .flat true N ae get=>(row+n≤N∧mG te.zero=true)∧jv H id (some (.flat true N ae (jK get row (fun _=>te.zero) n))) k
     | _=>False
    | false=>False
   | _=>False
  | _=>False
def GR (E:Env) (H:ay) (t:TypeId) (xv yv:Value) (k:Value→ay→Prop):Prop :=
 cJ E.tt t fun ti=>match ti.kind with
  | .slice e=>cJ E.tt e fun te=>Ai H te.size yv fun s=>match s,xv with
   | .fl m news,.slice (some ⟨id,row,_⟩) n _=>gK H id fun b=>match Nat.beq b.ae te.size with
    | true=>match b with
     | .flat true N ae get=>row+n≤N∧jv H id (some (.flat true N ae (jK get row news (Nat.min m n)))) fun H'=>k (.int .i64 (Nat.min m n)) H'
     | _=>False
    | false=>False
   | _,_=>False
  | _=>False
def Oi (E:Env) (tmps:List Value) (H:ay) (t:TypeId) (x y:Operand) (k:Value→List Value→ay→Prop):Prop :=
 bS tmps x fun xv=>bS tmps y fun yv=>GQ E tmps H t xv yv k
def Ck:Value→Bool
 | .slice (some _) _ c=>!decide (c=aI)
 | _=>true
section
variable {P:Program} {E:Env} {F:Fr}
theorem E5 (z:Array Value) (n:Nat):(Builtin.zeroCells z n).size=n*z.size:=by simp [Builtin.zeroCells]
theorem Tj {O L:List Value} {z:Value} {k q:Nat} (hq:q < (O++L).length):((O++L).toArray++Builtin.zeroCells z.cells k)[q]?=(O++L)[q]?:=by
 rw [Array.getElem?_append_left (by simpa using hq)]
 simp
theorem bP.extend {ν:Nu} {l:Loc} {b b':ai} {w:World} (hB:bP ν l b w) (ho:b.n7=true) {n m:Nat} (gB:n≤b.n) {news:Nat→List Value} {L:List Value} {fl:Bool}
  (hC:CR ν b.ae news m L) (hx:Ext b' b.ae b.row n news m fl) (tG:fl=true→(∀ r,r < b.n→∀ v∈b.row r,cG v=true)∧∀ r,r < m→∀ v∈news r,cG v=true) (fO:n+m≤l.cap) :
  (storeCells (l.at n 0) L).run P w=.ok () (w.setCells l.aL (l.base+n*l.ae) L)∧bP ν l b' (w.setCells l.aL (l.base+n*l.ae) L):=by
 obtain ⟨cur,t,jV,aW,_⟩:=hB.own (ai.cZ ho).1 (ai.cZ ho).2;have he:=hB.ae;have yh:l.base+n*l.ae+L.length≤cur.size:=by
  rw [hC.len,he];have:(n+m)*b.ae≤l.cap*b.ae:=Nat.mul_le_mul_right _ fO;rw [Nat.add_mul] at this;rw [he] at aW;omega
 have sR:∀ j,j < L.length→(w.cell? ⟨l.aL,l.base+n*l.ae+j,none⟩).isSome=true:=by
  intro j hj;simp only [World.cell?];rw [jV];simp;omega
 refine ⟨?_,?_⟩
 ·have:=run_storeCells_cells (P:=P) l.aL (l.base+n*l.ae) L 0 w (by simpa using sR) (fun j hj=>by simp [World.frozen?,jV]) hC.one
  simpa [Loc.at] using this
 ·obtain ⟨pG,J,h3⟩:=Bp l.aL L (l.base+n*l.ae) w cur t jV;refine ⟨by rw [hx.ae]; exact he,fun r hr=>?_,fun r hr j v hv=>?_,fun h r hr v hv=>?_,fun r hr v hv=>?_,fun _ _=>⟨pG,t,J,by rw [h3]; exact aW,by rw [hx.num]; exact fO⟩,(fun r h=>by rw [(ai.cZ hx.own).2] at h; cases h),by rw [oQ]; exact hB.live⟩
  ·rw [hx.num] at hr;rw [hx.row r hr,hx.ae];by_cases h:r < n
   ·rw [ji h]; exact hB.len r (by omega)
   ·rw [gw (by omega)]; exact hC.row _ (by omega)
  ·rw [hx.num] at hr;rw [hx.row r hr] at hv;by_cases h:r < n
   ·rw [ji h] at hv;obtain ⟨v',h4,h5⟩:=hB.cell r (by omega) j v hv
    have hj:j < b.ae:=by rw [← hB.len r (by omega)]; exact (List.getElem?_eq_some_iff.1 hv).1
    refine ⟨v',?_,h5⟩;rw [World.cell?_setCells_out l.aL _ _ _ _ (fun _ _=>?_)]
    ·exact h4
    ·left
     simp only [Loc.at,he];have:(r+1)*b.ae≤n*b.ae:=Nat.mul_le_mul_right _ h;rw [Nat.add_mul] at this; omega
   ·rw [gw (by omega)] at hv
    obtain ⟨v',h4,h5⟩:=hC.cell (r - n) (by omega) j v hv
    have al:=(List.getElem?_eq_some_iff.1 h4).1;refine ⟨v',?_,h5⟩;have:=World.cell?_setCells_in l.aL L (l.base+n*l.ae) w sR _ al;have e:l.at r j=⟨l.aL,l.base+n*l.ae+((r - n)*b.ae+j),none⟩:=by
     unfold Loc.at
     congr 1
     rw [he];have:r*b.ae=n*b.ae+(r - n)*b.ae:=by rw [← Nat.add_mul]; congr 1; omega
     omega
    rw [e,this,← h4,List.getElem?_eq_getElem al]
  ·rw [hx.num] at hr;rw [hx.row r hr] at hv;obtain ⟨h6,h7⟩:=tG (hx.flat h);by_cases h:r < n
   ·rw [ji h] at hv; exact h6 r (by omega) v hv
   ·rw [gw (by omega)] at hv; exact h7 _ (by omega) v hv
  ·rw [hx.num] at hr;rw [hx.row r hr] at hv;by_cases h:r < n
   ·rw [ji h] at hv; exact hB.one r (by omega) v hv
   ·rw [gw (by omega)] at hv; exact hC.s9 _ (by omega) v hv
theorem Kept.setCells {O:Nat→Prop} {W w:World} (h:Kept O W w) {b:Nat} (hb:O b∨W.heap.size≤b) (o:Nat) (L:List Value):Kept O W (w.setCells b o L):=by
 obtain ⟨o1,o2,o3⟩:=wC b L o w;refine ⟨o1.trans h.os,o2.trans h.tape,o3.trans h.output,by rw [oQ]; exact h.size,fun q h1 J=>?_⟩
 rw [rU]
 ·exact h.aL q h1 J
 ·intro e;subst e;rcases hb with h' | h'
  ·exact J h'
  ·omega
theorem wJ {ν:Nu} {ae n m:Nat} {g h:Nat→List Value} {O L:List Value} {b':ai} {fl:Bool} (hO:CR ν ae g n O) (hC:CR ν ae h m L) (hx:Ext b' ae g n h m fl)
  (tG:fl=true→(∀ r,r < n→∀ v∈g r,cG v=true)∧∀ r,r < m→∀ v∈h r,cG v=true) {w:World} {z:Value} (hz:z.cells.size=ae) {iP:Nat} {e:TypeId} :
  bP ν ⟨w.heap.size,0,ae,grownCap w (n+m) iP e⟩ b' (w.drew.alloc (uu (O++L).toArray z (grownCap w (n+m) iP e - (n+m)) e)):=by
 have eK:=grownCap_ge w (n+m) iP e;have Rl:=hO.append hC;refine X0 Rl hx.row hx.num hx.ae (fun hf r hr v hv=>?_) (C:=(O++L).toArray++Builtin.zeroCells z.cells (grownCap w (n+m) iP e - (n+m))) (t:=e) ?_ (fun q hq=>Tj hq) eK ?_ (ai.cZ hx.own).2
 ·obtain ⟨h1,J⟩:=tG (hx.flat hf);by_cases h:r < n
  ·rw [ji h] at hv; exact h1 r h v hv
  ·rw [gw (by omega)] at hv; exact J _ (by omega) v hv
 ·show (w.heap.push _)[w.heap.size]?=_
  simp [uu]
 ·rw [Array.size_append,E5,hz];simp only [List.size_toArray];rw [Rl.len,← Nat.add_mul];apply Nat.le_of_eq
  congr 1
  omega
theorem wD (w:World) (C:Array Value) (z:Value) (k:Nat) (e:TypeId):Below w.heap.size w (w.drew.alloc (uu C z k e)):=((Below.refl _ w).drew).alloc (Nat.le_refl _) _
theorem bP.iy {ν:Nu} {l:Loc} {N ae:Nat} {get:Nat→List Value} {w:World} (hB:bP ν l (.flat true N ae get) w) {q m:Nat} (hq:q+m≤N) {news:Nat→List Value} {L:List Value}
  (hC:CR ν ae news m L) (hs:∀ r,r < m→∀ v∈news r,cG v=true) :
  (storeCells (l.at q 0) L).run P w=.ok () (w.setCells l.aL (l.base+q*l.ae) L)∧bP ν l (.flat true N ae (jK get q news m)) (w.setCells l.aL (l.base+q*l.ae) L):=by
 obtain ⟨cur,t,jV,aW,fO⟩:=hB.own rfl rfl;have fO:N≤l.cap:=fO;have he:l.ae=ae:=hB.ae;have yh:l.base+q*l.ae+L.length≤cur.size:=by
  rw [hC.len,he];have:(q+m)*ae≤l.cap*ae:=Nat.mul_le_mul_right _ (by omega)
  rw [Nat.add_mul] at this;rw [he] at aW;omega
 have sR:∀ j,j < L.length→(w.cell? ⟨l.aL,l.base+q*l.ae+j,none⟩).isSome=true:=by
  intro j hj;simp only [World.cell?];rw [jV];simp;omega
 refine ⟨?_,?_⟩
 ·have:=run_storeCells_cells (P:=P) l.aL (l.base+q*l.ae) L 0 w (by simpa using sR) (fun j hj=>by simp [World.frozen?,jV]) hC.one
  simpa [Loc.at] using this
 ·obtain ⟨pG,J,h3⟩:=Bp l.aL L (l.base+q*l.ae) w cur t jV;have rows:∀ r,r < N→(jK get q news m r=get r∧(r < q∨q+m≤r))∨(jK get q news m r=news (r - q)∧q≤r∧r < q+m):=fun r _=>by
   by_cases h:r < q
   ·exact .inl ⟨TQ h,.inl h⟩
   ·by_cases h':r < q+m
    ·exact .inr ⟨TR (by omega) h',by omega,h'⟩
    ·exact .inl ⟨TS (by omega),.inr (by omega)⟩
  refine ⟨he,fun r hr=>?_,fun r hr j v hv=>?_,fun _ r hr v hv=>?_,fun r hr v hv=>?_,fun _ _=>⟨pG,t,J,by rw [h3]; exact aW,fO⟩,(fun r h=>by cases h),by rw [oQ]; exact hB.live⟩
  ·have hr:r < N:=hr;show (jK get q news m r).length=ae
   rcases rows r hr with ⟨e,_⟩ | ⟨e,h1,J⟩
   ·rw [e]; exact hB.len r hr
   ·rw [e]; exact hC.row _ (by omega)
  ·have hr:r < N:=hr;have hv:(jK get q news m r)[j]?=some v:=hv;rcases rows r hr with ⟨e,h1⟩ | ⟨e,h1,J⟩
   ·rw [e] at hv;obtain ⟨v',h4,h5⟩:=hB.cell r hr j v hv;have hj:j < ae:=by have e':(get r).length=ae:=hB.len r hr; rw [← e']; exact (List.getElem?_eq_some_iff.1 hv).1
    refine ⟨v',?_,h5⟩;rw [World.cell?_setCells_out l.aL _ _ _ _ (fun _ _=>?_)]
    ·exact h4
    ·rcases h1 with h | h
     ·left
      simp only [Loc.at,he];have:(r+1)*ae≤q*ae:=Nat.mul_le_mul_right _ h;rw [Nat.add_mul] at this; omega
     ·right
      simp only [Loc.at,he,hC.len];have:(q+m)*ae≤r*ae:=Nat.mul_le_mul_right _ h;rw [Nat.add_mul] at this; omega
   ·rw [e] at hv;obtain ⟨v',h4,h5⟩:=hC.cell (r - q) (by omega) j v hv
    have al:=(List.getElem?_eq_some_iff.1 h4).1;refine ⟨v',?_,h5⟩;have:=World.cell?_setCells_in l.aL L (l.base+q*l.ae) w sR _ al;have e:l.at r j=⟨l.aL,l.base+q*l.ae+((r - q)*ae+j),none⟩:=by
     unfold Loc.at
     congr 1
     rw [he];have:r*ae=q*ae+(r - q)*ae:=by rw [← Nat.add_mul]; congr 1; omega
     omega
    rw [e,this,← h4,List.getElem?_eq_getElem al]
  ·have hr:r < N:=hr;have hv:v∈jK get q news m r:=hv;rcases rows r hr with ⟨e,_⟩ | ⟨e,h1,J⟩
   ·rw [e] at hv; exact hB.plain rfl r hr v hv
   ·rw [e] at hv; exact hs _ (by omega) v hv
  ·have hr:r < N:=hr;have hv:v∈jK get q news m r:=hv;rcases rows r hr with ⟨e,_⟩ | ⟨e,h1,J⟩
   ·rw [e] at hv; exact hB.one r hr v hv
   ·rw [e] at hv; exact hC.s9 _ (by omega) v hv
theorem bu.iy {ν:Nu} {tmps:List Value} {H:ay} {a:Act} {w:World} (hi:bu F ν tmps H a w) {id N ae:Nat} {get:Nat→List Value} (hb:H[id]?=some (some (.flat true N ae get))) {l:Loc} (hl:ν id=some l)
  {q m:Nat} (hq:q+m≤N) {news:Nat→List Value} {L:List Value} (hC:CR ν ae news m L) (hs:∀ r,r < m→∀ v∈news r,cG v=true) :
  (storeCells (l.at q 0) L).run P w=.ok () (w.setCells l.aL (l.base+q*l.ae) L)∧bu F ν tmps (H.set id (some (.flat true N ae (jK get q news m)))) a (w.setCells l.aL (l.base+q*l.ae) L):=by
 obtain ⟨l0,eW,hB⟩:=hi.hp.aL id _ hb;rw [hl] at eW; cases eW;obtain ⟨h1,iC⟩:=hB.iy (P:=P) hq hC hs;have al:id < H.length:=(List.getElem?_eq_some_iff.1 hb).1;have n9:∀ q',q'≠l.aL→(w.setCells l.aL (l.base+q*l.ae) L).heap[q']?=w.heap[q']?:=fun q' Js=>rU _ _ _ _ _ Js
 have pR:w.heap.size≤(w.setCells l.aL (l.base+q*l.ae) L).heap.size:=by rw [oQ]; exact Nat.le_refl _
 refine ⟨h1,hi.tm,(let ⟨_,_,u9,_⟩:=hB.own rfl rfl; hi.df.eP u9 n9),?_,fun j hj=>hi.fr j (by simpa using hj),hi.kp.setCells (hi.own id _ l hb rfl hl) _ _,fun j bj lj hj ou c6=>?_,hi.mono⟩
 ·refine hi.hp.eP (id:=id) (fun _ _=>rfl) (fun j bj hj aD=>?_) (fun bj hj=>?_)
  ·rw [List.getElem?_set_ne (Ne.symm aD)] at hj;refine ⟨bj,hj,rfl,fun lj c6 rr=>rr.same (n9 _ ?_) pR⟩
   exact Ne.symm (hi.hp.sep id j _ bj l lj hb hj (Ne.symm aD) rfl hl c6)
  ·rw [List.getElem?_set_self al] at hj;cases hj;exact ⟨l,hl,iC,fun j lj bj aD hj c6=>Ne.symm (hi.hp.sep id j _ bj l lj hb hj (Ne.symm aD) rfl hl c6)⟩
 ·by_cases e':j=id
  ·subst e'; rw [hl] at c6; cases c6; exact hi.own j _ l hb rfl hl
  ·rw [List.getElem?_set_ne (Ne.symm e')] at hj; exact hi.own j bj lj hj ou c6
theorem CR.adb {ν:Nu} {z:Value} {zs:List Value} (hz:z.cells=⟨zs⟩) (HV:bf ν zs zs) (q7:∀ v∈zs,v.oneCell'=true) (h0:0 < zs.length) (n:Nat):CR ν zs.length (fun _=>zs) n (Builtin.zeroCells z.cells n).toList:=by
 have aW:z.cells.size=zs.length:=by rw [hz]; rfl
 have kU:∀ j,j < n*zs.length→(Builtin.zeroCells z.cells n)[j]?=zs[j % zs.length]?:=fun j hj=>by
  rw [KH _ _ _ (by rw [aW]; exact hj) (by rw [aW]; exact h0),aW,hz]; simp
 refine ⟨by simp [E5,aW],fun _ _=>rfl,fun r hr j v hv=>?_,fun u hu=>?_,fun _ _ v hv=>q7 v hv⟩
 ·have hj:=(List.getElem?_eq_some_iff.1 hv).1;have al:r*zs.length+j < n*zs.length:=by
   have:(r+1)*zs.length≤n*zs.length:=Nat.mul_le_mul_right _ hr;rw [Nat.add_mul] at this; omega
  refine ⟨v,?_,HV.2 j v v hv hv⟩;rw [Array.getElem?_toList,kU _ al,Nat.mul_comm,Nat.mul_add_mod,Nat.mod_eq_of_lt hj]; exact hv
 ·obtain ⟨j,hj,rfl⟩:=List.getElem_of_mem hu;have gl:j < n*zs.length:=by simpa [E5,aW] using hj
  have h1:=kU j gl;rw [← Array.getElem?_toList,List.getElem?_eq_getElem hj] at h1;exact q7 _ (List.mem_of_getElem? h1.symm)
theorem Tk (hE:EnvOk P E) {ν:Nu} {tmps:List Value} {H:ay} {a:Act} {w:World} (hi:bu F ν tmps H a w) {t:TypeId} {x:Operand} {k:ay→Prop}
  (h:O9 E tmps H t x k) (ty:TypeId):∃ H' w',k H'∧bu F ν tmps H' a w'∧(Builtin.clear_ #[t] ty #[a.eval x]).run P w=.ok (.tuple #[]) w':=by
 obtain ⟨xv,J,hx⟩:=kG h (hi.mA x);clear h;obtain ⟨ti,ht,h⟩:=cO J;clear J;obtain ⟨d,hu,hd⟩:=(hE.ty _ _ ht).under
 split at h
 ·rename_i e hk;rw [hk] at hd;have hd:d=.slice e:=hd;subst hd;obtain ⟨te,he,J⟩:=cO h;clear h;have bc:=hE.ty _ _ he
  split at J
  ·rename_i id row sp n c;obtain ⟨b,hb,h⟩:=gD J;clear J
   split at h
   ·rename_i dv;have dv:b.ae=te.size:=Nat.eq_of_beq_eq_true dv
    split at h
    ·rename_i N ae get _;have dv:ae=te.size:=dv;obtain ⟨⟨hN,c5⟩,h⟩:=h;obtain ⟨al,h⟩:=mq h;obtain ⟨l,hl,hB⟩:=hi.hp.aL id _ hb;obtain ⟨i,iL,gA,nz,z,hz,iB⟩:=bc.info;have yw:=CR.adb (ν:=ν) iB (bc.self ν) bc.one (by rw [bc.len]; exact bc.bit.1) n
     rw [bc.len,← dv] at yw;have hsc:∀ r,r < n→∀ v∈te.zero,cG v=true:=fun _ _ v hv=>dI c5 v hv
     have xV:n=0∨(0 < n∧∃ c',a.eval x=.slice (some (l.at row 0)) n c'):=by
      rcases hx.CX with ⟨l',c',cC,_,_,e⟩ | ⟨h0,_⟩
      ·rw [hl] at cC; cases cC;rcases Nat.eq_zero_or_pos n with h | h
       ·exact .inl h
       ·exact .inr ⟨h,c',e⟩
      ·exact .inl h0
     rcases xV with h0 | ⟨lP,c',cj⟩
     ·subst h0;have:=(hi.iy (P:=P) hb hl (q:=row) (m:=0) hN (CR.nil _ _ (fun _=>te.zero)) (fun r hr=>absurd hr (by omega))).2
      refine ⟨_,w,h,this,?_⟩;have:∃ o,a.eval x=.slice o 0 0∨∃ c',a.eval x=.slice o 0 c':=by
       rcases hx.CX with ⟨l',c',_,_,_,e⟩ | ⟨_,bb,e⟩
       ·exact ⟨_,.inr ⟨_,e⟩⟩
       ·exact ⟨_,.inl e⟩
      obtain ⟨o,e | ⟨c',e⟩⟩:=this <;> rw [e] <;> cases o <;> simp [Builtin.clear_,dG hu]
     ·obtain ⟨h1,J⟩:=hi.iy (P:=P) hb hl (q:=row) hN yw hsc;refine ⟨_,_,h,J,?_⟩;obtain ⟨m,rfl⟩:∃ m,n=m+1:=⟨n - 1,by omega⟩
      rw [cj];simp [Builtin.clear_,dG hu,wA iL hz,h1]
    ·exact h.elim
   ·exact h.elim
  ·exact J.elim
 ·exact h.elim
theorem CR.pre {ν:Nu} {ae m q:Nat} {g:Nat→List Value} {L:List Value} (h:CR ν ae g m L) (hq:q≤m):CR ν ae g q (L.take (q*ae)):=by
 have hle:q*ae≤m*ae:=Nat.mul_le_mul_right _ hq;refine ⟨by rw [List.length_take,h.len]; omega,fun r hr=>h.row r (by omega),fun r hr j v hv=>?_,fun u hu=>h.one u (List.mem_of_mem_take hu),fun r hr=>h.s9 r (by omega)⟩
 obtain ⟨v',h1,J⟩:=h.cell r (by omega) j v hv
 have hj:j < ae:=by rw [← h.row r (by omega)]; exact (List.getElem?_eq_some_iff.1 hv).1
 have:(r+1)*ae≤q*ae:=Nat.mul_le_mul_right _ hr;rw [Nat.add_mul] at this;exact ⟨v',by rw [List.getElem?_take_of_lt (by omega)]; exact h1,J⟩
theorem LF (hE:EnvOk P E) {ν:Nu} {tmps:List Value} {H:ay} {a:Act} {w:World} (hi:bu F ν tmps H a w) {t:TypeId} {xv yv x' y':Value} {k:Value→ay→Prop} (hx:au ν xv x') (hy:au ν yv y')
  (h:GR E H t xv yv k) (t2 ty:TypeId):∃ v H' w',k v H'∧au ν v v∧bu F ν tmps H' a w'∧(Builtin.copy_ #[t,t2] ty #[x',y']).run P w=.ok v w':=by
 obtain ⟨ti,ht,J⟩:=cO h;clear h;obtain ⟨d,hu,hd⟩:=(hE.ty _ _ ht).under
 split at J
 ·rename_i e hk;rw [hk] at hd;have hd:d=.slice e:=hd;subst hd;obtain ⟨te,he,h⟩:=cO J;clear J;have bc:=hE.ty _ _ he;obtain ⟨i,iL,gA,nz,z,hz,iB⟩:=bc.info;obtain ⟨s,J,yx,hs⟩:=FR h;clear h;obtain ⟨oy,cy,L,kz,kA,hC,jZ⟩:=hs ν w _ hi.hp hy;have q8:s.kj=true→∀ r,r < s.m→∀ v∈s.get r,cG v=true:=fun h r hr v hv=>yx h r hr ν w hi.hp v hv
  split at J
  ·rename_i m news id row sp n c;obtain ⟨b,hb,h⟩:=gD J;clear J
   split at h
   ·rename_i dv;have dv:b.ae=te.size:=Nat.eq_of_beq_eq_true dv
    split at h
    ·rename_i N ae get _;have dv:ae=te.size:=dv;obtain ⟨hN,h⟩:=h;obtain ⟨al,h⟩:=mq h;obtain ⟨l,hl,hB⟩:=hi.hp.aL id _ hb;have AA:CR ν te.size news m L:=hC;have Aj:Nat.min m n≤m:=Nat.min_le_left _ _;have afG:Nat.min m n≤n:=Nat.min_le_right _ _;have Jt:CR ν ae news (Nat.min m n) (L.take (Nat.min m n*te.size)):=by rw [dv]; exact AA.pre Aj
     obtain ⟨h1,h3⟩:=hi.iy (P:=P) hb hl (q:=row) (m:=Nat.min m n) (by omega) Jt (fun r hr=>q8 rfl r (by show r < m; omega))
     have AH:y'=.slice oy m cy:=kz;have hf:(Builtin.firstCells i.size (Nat.min m n) (.slice oy m cy)).run P w=.ok (L.take (Nat.min m n*te.size)).toArray w:=by
      cases oy with
      | none =>
       have ky:m=0:=kA rfl;subst ky;have:L=[]:=List.eq_nil_of_length_eq_zero (by rw [AA.len]; simp)
       subst this;rw [run_firstCells_none]; simp
      | some b0 =>
       refine run_firstCells_some (P:=P) w i.size (Nat.min m n) b0 m cy _ (by rw [gA]; exact (AA.pre Aj).len) fun j v hv=>jZ b0 rfl j v ?_
       have:=(List.getElem?_eq_some_iff.1 hv).1;rw [List.length_take] at this;rw [List.getElem?_take_of_lt (by omega)] at hv
       exact hv
     rcases hx.CX with ⟨l',c',cC,_,_,e⟩ | ⟨h0,bb,e⟩
     ·rw [hl] at cC; cases cC;refine ⟨_,_,_,h,.int _ _,h3,?_⟩;rw [e,AH];simp [Builtin.copy_,dG hu,Builtin.lenOf,sizeOf,typeInfo,iL,hf,h1]
      rfl
     ·subst h0;have hq:Nat.min m 0=0:=Nat.min_zero m;have h4:=(hi.iy (P:=P) hb hl (q:=row) (m:=Nat.min m 0) (news:=news) (L:=[]) (by omega) (by rw [hq]; exact CR.nil _ _ _) (fun r hr=>absurd hr (by omega))).2
      refine ⟨_,_,w,h,.int _ _,h4,?_⟩;rw [e,AH];rw [hq,Nat.zero_mul,List.take_zero] at hf;cases bb <;> simp [Builtin.copy_,dG hu,Builtin.lenOf,sizeOf,typeInfo,iL,hq,hf] <;> rfl
    ·exact h.elim
   ·exact h.elim
  ·exact J.elim
 ·exact J.elim
theorem Lc (hE:EnvOk P E) (bL:k9 F E) {ν:Nu} {tmps:List Value} {H:ay} {a:Act} {w:World} (hi:bu F ν tmps H a w) {t:TypeId} {xv yv x' y':Value} {k:Value→List Value→ay→Prop}
  (hx:au ν xv x') (hy:au ν yv y') (h:GQ E tmps H t xv yv k) (ty:TypeId) :
  ∃ v v' ak t' H' w',k v t' H'∧au ak v v'∧bu F ak t' H' a w'∧(Builtin.append_ #[t,t] ty #[x',y']).run P w=.ok v' w'∧(Ck xv=true→ν.le ak):=by
 obtain ⟨ti,ht,J⟩:=cO h;clear h;obtain ⟨d,hu,hd⟩:=(hE.ty _ _ ht).under
 split at J
 ·rename_i e hk;rw [hk] at hd;have hd:d=.slice e:=hd;subst hd;obtain ⟨te,he,h⟩:=cO J;clear J;have bc:=hE.ty _ _ he;obtain ⟨i,iL,gA,nz,z,hz,iB⟩:=bc.info;obtain ⟨s,J,yx,hs⟩:=FR h;clear h;obtain ⟨oy,cy,L,kz,kA,hC,jZ⟩:=hs ν w _ hi.hp hy;have hL:L.length=s.m*i.size:=by rw [gA]; exact hC.len
  have jz:z.cells.size=te.size:=by rw [iB]; simpa using bc.len
  have aeM:=bc.bit;have small:∀ q,q*te.bytes≤140737488355328→q≤140737488355328:=fun q hq=>by
   have:q*1≤q*te.bytes:=Nat.mul_le_mul_left _ (by omega)
   omega
  have q8:s.kj=true→∀ r,r < s.m→∀ v∈s.get r,cG v=true:=fun h r hr v hv=>yx h r hr ν w hi.hp v hv
  split at J
  ·-- onto nil
   have hx:=hx.qn
   split at J
   ·rename_i hm;have yy:L=[]:=List.eq_nil_of_length_eq_zero (by rw [hL,hm]; simp)
    refine ⟨_,_,ν,_,_,w,J,.ju,hi,?_,fun _=>ν.le_refl⟩
    rw [hx,kz];have:=rY (P:=P) (w:=w) (ty:=ty) hu iL (A:=none) (oy:=oy) (n:=0) (c:=0) (m:=s.m) (cy:=cy) (L:=L) hL jZ kA (by omega) (w2:=w) (fun a ha=>by cases ha) (fun _=>rfl)
    rw [hm] at this ⊢
    simpa using this
   ·rename_i m hm;obtain ⟨hB,h⟩:=J;have h:=mr h;have bB:=Bt (P:=P) (w:=w) (ty:=ty) hu iL hz (A:=none) (oy:=oy) (n:=0) (c:=0) (m:=s.m) (cy:=cy) (O:=[]) (L:=L) (by simp) (fun a ha=>by cases ha) (fun _=>⟨rfl,rfl⟩) hL jZ kA (by omega) (by omega) (by rw [nz,hm]; simpa using hB) (by have:=small _ hB; omega)
    have pH:ν H.length=none:=hi.fr _ (Nat.le_refl _);have dV:Ext (o8 te.size s) te.size (fun _=>[]) 0 s.get s.m s.kj:=by
     cases s with
     | fl m g=>exact ⟨rfl,rfl,by simp [o8,ai.n,Src.m],fun r hr=>by rw [gw (by omega)]; rfl,fun _=>rfl⟩
     | ex L=>exact ⟨rfl,rfl,by simp [o8,ai.n,Src.m],fun r hr=>by rw [gw (by omega)]; rfl,fun h=>by simp [o8,ai.jM] at h⟩
    have yw:=hC.mono (Nu.kd (l:=⟨w.heap.size,0,te.size,grownCap w (0+s.m) 0 e⟩) pH);have iC:=wJ (CR.nil _ te.size (fun _=>[])) yw dV (fun h=>⟨fun r hr=>absurd hr (by omega),q8 h⟩) (w:=w) jz (iP:=0) (e:=e)
    have eK:=grownCap_ge w (0+s.m) 0 e;have cm:au (ν.add H.length ⟨w.heap.size,0,te.size,grownCap w (0+s.m) 0 e⟩) (.slice (some ⟨H.length,0,none⟩) (m+1) aI) (.slice (some ⟨w.heap.size,0,none⟩) (0+s.m) (grownCap w (0+s.m) 0 e)):=by
     have:=au.slice (ν:=ν.add H.length ⟨w.heap.size,0,te.size,grownCap w (0+s.m) 0 e⟩) H.length 0 (0+s.m) aI (grownCap w (0+s.m) 0 e) _ Nu.add_same (.inr rfl) eK (by simp)
     rw [show m+1=0+s.m by omega]
     simpa [Loc.at] using this
    have hq:=mW pH iC (wD w _ _ _ _) (Nat.le_refl _) cm;obtain ⟨H',h1,J⟩:=hi.quiet hq (k:=fun H'=>k _ tmps H') h
    refine ⟨_,_,_,_,_,_,h1,cm,J,?_,fun _=>Nu.kd pH⟩
    rw [hx,kz]
    simpa using bB
  ·rename_i id row n c;obtain ⟨b,hb,h⟩:=gD J;clear J;obtain ⟨l,hl,hB⟩:=hi.hp.aL id b hb
   split at h
   ·rename_i dv;have dv:b.ae=te.size:=Nat.eq_of_beq_eq_true dv;rw [← dv] at hC jz
    -- what the slice may be
    have Ju:∃ A c',x'=.slice (some A) n c'∧n≤c'∧(c'=c∨c=aI)∧((A=l.at row 0∧row+c'≤l.cap)∨(n=0∧c'=0)):=by
     rcases hx.uq with ⟨l',c',cC,h1,J,h3,e⟩ | ⟨h1,J,bb,e⟩
     ·rw [hl] at cC; cases cC;exact ⟨_,c',e,J,h1,.inl ⟨rfl,h3⟩⟩
     ·exact ⟨bb,0,by rw [e,h1],by omega,J.imp (fun h=>h) (fun h=>h),.inr ⟨h1,rfl⟩⟩
    obtain ⟨A,c',cj,Es,ld,hA⟩:=Ju
    -- its cells
    have hold:row+n≤b.n→∃ O,CR ν b.ae (fun j=>b.row (row+j)) n O∧∀ (j:Nat) u,O[j]?=some u→w.cell? (A.add j)=some u:=by
     intro hle;rcases hA with ⟨rfl,_⟩ | ⟨h0,_⟩
     ·exact CR.Hr hB hle
     ·subst h0;exact ⟨[],CR.nil _ _ _,fun j u hu=>by simp at hu⟩
    have tJ:b.pB=true→∀ r,r < b.n→∀ v∈b.row r,cG v=true:=fun h r hr v hv=>by
     cases b with
     | flat o n e g=>exact hB.plain rfl r hr v hv
     | aP o e rows =>
      have h:rows.all jJ=true:=h;have hr:r < rows.length:=hr;have hv:v∈rows.getD r []:=hv;rw [List.getD_eq_getElem?_getD,List.getElem?_eq_getElem hr] at hv;exact yI (List.all_eq_true.1 h _ (List.getElem_mem hr)) v hv
     | b6 r=>cases h
    have mH:(b.pB && s.kj)=true→(∀ r,r < b.n→∀ v∈b.row r,cG v=true)∧∀ r,r < s.m→∀ v∈s.get r,cG v=true:=fun h=>by
     rw [Bool.and_eq_true] at h; exact ⟨tJ h.1,q8 h.2⟩
    -- in its place
    have GS:∀ b' (q:Nat),b.n7=true→Ext b' b.ae b.row q s.get s.m (b.pB && s.kj)→row+n=q→q≤b.n→n+s.m≤c'→∃ w2,(Builtin.append_ #[t,t] ty #[x',y']).run P w=.ok (.slice (some A) (n+s.m) c') w2 ∧
      bP ν l b' w2∧Kept F.O F.W w2∧w.heap.size≤w2.heap.size∧∀ q,q≠l.aL→w2.heap[q]?=w.heap[q]?:=by
     intro b' q ho dV AI rz cP;rcases hA with ⟨rfl,fO⟩ | ⟨h0,ov⟩
     ·obtain ⟨h1,J⟩:=hB.extend (P:=P) ho rz hC dV mH (by omega)
      refine ⟨_,?_,J,hi.kp.setCells (hi.own id b l hb (ai.cZ ho).1 hl) _ _,by rw [oQ]; exact Nat.le_refl _,fun q hq=>rU _ _ _ _ _ hq⟩
      rw [cj,kz];refine rY (P:=P) hu iL hL jZ kA cP (fun A' tK=>?_) (fun h=>by cases h)
      cases tK;have:(l.at row 0).add (n*i.size)=l.at q 0:=by
       rw [Loc.jN]; unfold Loc.at; congr 1;rw [hB.ae,← AI,Nat.add_mul,gA,dv]; omega
      rw [this]; exact h1
     ·have ky:s.m=0:=by omega
      have yy:L=[]:=List.eq_nil_of_length_eq_zero (by rw [hL,ky]; simp)
      refine ⟨w,?_,?_,hi.kp,Nat.le_refl _,fun _ _=>rfl⟩
      ·rw [cj,kz];refine rY (P:=P) hu iL hL jZ kA cP (fun A' tK=>by rw [yy]; rfl) (fun h=>by cases h)
      ·have fZ:b'.n=q:=by rw [dV.num,ky]; rfl
       have a8:∀ r,r < q→b'.row r=b.row r:=fun r hr=>by rw [dV.row r (by omega),ji hr]
       exact ⟨by rw [dV.ae]; exact hB.ae,fun r hr=>by rw [fZ] at hr; rw [a8 r hr,dV.ae]; exact hB.len r (by omega),
        fun r hr j v hv=>by rw [fZ] at hr; rw [a8 r hr] at hv; exact hB.cell r (by omega) j v hv,
        fun h r hr v hv=>by rw [fZ] at hr; rw [a8 r hr] at hv; exact (mH (dV.flat h)).1 r (by omega) v hv,
        fun r hr v hv=>by rw [fZ] at hr; rw [a8 r hr] at hv; exact hB.one r (by omega) v hv,
        fun _ _=>by obtain ⟨cur,tt,q1,q2,q3⟩:=hB.own (ai.cZ ho).1 (ai.cZ ho).2; exact ⟨cur,tt,q1,q2,by rw [fZ]; omega⟩,(fun r h=>by rw [(ai.cZ dV.own).2] at h; cases h),hB.live⟩
    have Qs:n+s.m≤c'→∀ ak,ak id=some l→au ak (.slice (some ⟨id,row,none⟩) (n+s.m) c) (.slice (some A) (n+s.m) c'):=by
     intro cP ak cC;rcases hA with ⟨rfl,fO⟩ | ⟨h0,ov⟩
     ·exact .slice _ _ _ _ _ l cC ld cP fO
     ·have ky:s.m=0:=by omega
      subst ov;rw [h0,ky];exact .void _ _ _ _ ld
    have grow:(n+s.m)*te.bytes≤140737488355328→c' < n+s.m→∀ O,O.length=n*i.size→(∀ (j:Nat) u,O[j]?=some u→w.cell? (A.add j)=some u) →
      (Builtin.append_ #[t,t] ty #[x',y']).run P w=.ok (.slice (some ⟨w.heap.size,0,none⟩) (n+s.m) (grownCap w (n+s.m) c' e)) (w.drew.alloc (uu (O++L).toArray z (grownCap w (n+s.m) c' e - (n+s.m)) e)):=by
     intro hB cP O hO1 hO2;rw [cj,kz];exact Bt (P:=P) (w:=w) (ty:=ty) hu iL hz hO1 (fun a ha=>by cases ha; exact hO2) (fun h=>by cases h) hL jZ kA Es cP (by rw [nz]; exact hB) (small _ hB)
    -- a block that stays
    have Et:row+n=b.n→n+s.m≤c'→(xn b s fun b'=>jv H id (some b') fun H'=>k (.slice (some ⟨id,row,none⟩) (n+s.m) c) tmps H') →
      ∃ v v' ak t' H' w',k v t' H'∧au ak v v'∧bu F ak t' H' a w'∧(Builtin.append_ #[t,t] ty #[x',y']).run P w=.ok v' w'∧ν.le ak:=fun AI cP h=>by
     obtain ⟨b',h,ho,dV⟩:=Bu h;obtain ⟨al,h⟩:=mq h;obtain ⟨w2,bB,iC,gO,pR,n9⟩:=GS b' _ ho dV AI (Nat.le_refl _) cP;refine ⟨_,_,ν,_,_,w2,h,Qs cP ν hl,⟨hi.tm,(let ⟨_,_,u9,_⟩:=hB.own (ai.cZ ho).1 (ai.cZ ho).2; hi.df.eP u9 n9),?_,fun j hj=>hi.fr j (by simpa using hj),gO,fun j bj lj hj ou c6=>?_,hi.mono⟩,bB,ν.le_refl⟩
     ·refine hi.hp.eP (id:=id) (fun _ _=>rfl) (fun j bj hj aD=>?_) (fun bj hj=>?_)
      ·rw [List.getElem?_set_ne (Ne.symm aD)] at hj;refine ⟨bj,hj,rfl,fun lj c6 rr=>rr.same (n9 _ ?_) pR⟩
       exact Ne.symm (hi.hp.sep id j b bj l lj hb hj (Ne.symm aD) (ai.cZ ho).1 hl c6)
      ·rw [List.getElem?_set_self al] at hj;cases hj;exact ⟨l,hl,iC,fun j lj bj aD hj c6=>Ne.symm (hi.hp.sep id j b bj l lj hb hj (Ne.symm aD) (ai.cZ ho).1 hl c6)⟩
     ·by_cases e':j=id
      ·subst e'; rw [hl] at c6; cases c6; exact hi.own j b l hb (ai.cZ ho).1 hl
      ·rw [List.getElem?_set_ne (Ne.symm e')] at hj; exact hi.own j bj lj hj ou c6
    -- a new block
    have Eu:row+n≤b.n→(n+s.m)*te.bytes≤140737488355328→c' < n+s.m→(Dm b row n s fun b'=>jw H fun aJ=>pr H (some b') fun H'=>k (.slice (some ⟨aJ,0,none⟩) (n+s.m) aI) tmps H') →
      ∃ v v' ak t' H' w',k v t' H'∧au ak v v'∧bu F ak t' H' a w'∧(Builtin.append_ #[t,t] ty #[x',y']).run P w=.ok v' w'∧ν.le ak:=fun hle me cP h=>by
     obtain ⟨b',h,dV⟩:=LD h;have h:=mr h;obtain ⟨O,hO,rA⟩:=hold hle;have bB:=grow me cP O (by rw [hO.len,gA,dv]) rA
     have pH:ν H.length=none:=hi.fr _ (Nat.le_refl _);have kV:=Nu.kd (l:=⟨w.heap.size,0,b.ae,grownCap w (n+s.m) c' e⟩) pH;have iC:=wJ (hO.mono kV) (hC.mono kV) dV (fun h=>⟨fun r hr v hv=>(mH h).1 (row+r) (by omega) v hv,(mH h).2⟩) (w:=w) jz (iP:=c') (e:=e)
     have eK:=grownCap_ge w (n+s.m) c' e;have cm:au (ν.add H.length ⟨w.heap.size,0,b.ae,grownCap w (n+s.m) c' e⟩) (.slice (some ⟨H.length,0,none⟩) (n+s.m) aI) (.slice (some ⟨w.heap.size,0,none⟩) (n+s.m) (grownCap w (n+s.m) c' e)):=by
      have:=au.slice (ν:=ν.add H.length ⟨w.heap.size,0,b.ae,grownCap w (n+s.m) c' e⟩) H.length 0 (n+s.m) aI (grownCap w (n+s.m) c' e) _ Nu.add_same (.inr rfl) eK (by simp)
      simpa [Loc.at] using this
     have hq:=mW pH iC (wD w _ _ _ _) (Nat.le_refl _) cm;obtain ⟨H',h1,J⟩:=hi.quiet hq (k:=fun H'=>k _ tmps H') h
     exact ⟨_,_,_,_,_,_,h1,cm,J,bB,kV⟩
    -- a block that is put in place of the old one
    have IB:∀ b1:ai,b.n7=true→Ext b1 b.ae b.row n s.get s.m (b.pB && s.kj)→c=aI→row=0→E.base≤id→n≤b.n→(n+s.m)*te.bytes≤140737488355328 →
      (zV id b1 fun b'=>∃ aa,∀ a:Nat→Value,u6 a id aa 0 tmps fun zW=>xT id H fun H1=>jv H1 id (some b') fun H'=>k (.slice (some ⟨id,0,none⟩) (n+s.m) aI) zW H') →
      ∃ v v' ak t' H' w',k v t' H'∧au ak v v'∧bu F ak t' H' a w'∧(Builtin.append_ #[t,t] ty #[x',y']).run P w=.ok v' w':=fun b1 ho dV eJ ade Dn fZ me tL=>by
     subst ade;obtain ⟨b',h,ho1,Rm⟩:=LB tL;obtain ⟨aa,h⟩:=h;obtain ⟨af,Jv⟩:=Oh hi.tm;obtain ⟨t',h,jB⟩:=Fu (h af) ν _ hi.tm (fun j y hy ak=>by rw [Nat.zero_add]; exact Jv j y hy ak)
     obtain ⟨H1,h,mc,Ev⟩:=Fv h;obtain ⟨al,h⟩:=mq h;by_cases cP:n+s.m≤c'
     ·obtain ⟨w2,bB,iC,gO,pR,n9⟩:=GS b1 _ ho dV (Nat.zero_add n) fZ cP;have iC:=Rm ν ν l w2 (fun _ _=>rfl) iC
      have hv:=Qs cP ν hl;rw [eJ] at hv;refine ⟨_,_,ν,_,_,w2,h,hv,⟨jB ν (fun _ _=>rfl),(let ⟨_,_,u9,_⟩:=hB.own (ai.cZ ho).1 (ai.cZ ho).2; hi.df.eP u9 n9),?_,fun j hj=>hi.fr j (by simpa [mc] using hj),gO,fun j bj lj hj ou c6=>?_,hi.mono⟩,bB⟩
      ·refine hi.hp.eP (id:=id) (fun _ _=>rfl) (fun j bj hj aD=>?_) (fun bj hj=>?_)
       ·rw [List.getElem?_set_ne (Ne.symm aD)] at hj;obtain ⟨b0,kB,vQ,tL⟩:=Ev j bj hj;refine ⟨b0,kB,vQ,fun lj c6 rr=>tL ν ν lj w2 (fun _ _=>rfl) (rr.same (n9 _ ?_) pR)⟩
        exact Ne.symm (hi.hp.sep id j b b0 l lj hb kB (Ne.symm aD) (ai.cZ ho).1 hl c6)
       ·rw [List.getElem?_set_self al] at hj;cases hj;exact ⟨l,hl,iC,fun j lj bj aD hj c6=>Ne.symm (hi.hp.sep id j b bj l lj hb hj (Ne.symm aD) (ai.cZ ho).1 hl c6)⟩
      ·by_cases e':j=id
       ·subst e'; rw [hl] at c6; cases c6; exact hi.own j b l hb (ai.cZ ho).1 hl
       ·rw [List.getElem?_set_ne (Ne.symm e')] at hj;obtain ⟨b0,kB,vQ,_⟩:=Ev j bj hj;exact hi.own j b0 lj kB (by rw [← vQ]; exact ou) c6
     ·have cP:c' < n+s.m:=by omega
      obtain ⟨O,hO,rA⟩:=hold (by omega)
      have bB:=grow me cP O (by rw [hO.len,gA,dv]) rA
      have eK:=grownCap_ge w (n+s.m) c' e;have gX:ν.off (ν.add id ⟨w.heap.size,0,b.ae,grownCap w (n+s.m) c' e⟩) id:=fun j hj=>Nu.iV hj
      have IC:=wD w (O++L).toArray z (grownCap w (n+s.m) c' e - (n+s.m)) e;have Jw:CR ν b.ae b.row n O:=hO.congr (fun r hr=>by simp)
      have iC:bP ν ⟨w.heap.size,0,b.ae,grownCap w (n+s.m) c' e⟩ b1 _:=wJ Jw hC dV (fun h=>⟨fun r hr v hv=>(mH h).1 r (by omega) v hv,(mH h).2⟩) (w:=w) jz (iP:=c') (e:=e)
      have hF:F.ν.le (ν.add id ⟨w.heap.size,0,b.ae,grownCap w (n+s.m) c' e⟩):=by
       intro j lj hj;have aD:j≠id:=by
        intro e';subst e';rw [F.fresh j (by have:=bL.n0; omega)] at hj
        cases hj
       rw [Nu.iV aD]; exact hi.mono j lj hj
      have cm:au (ν.add id ⟨w.heap.size,0,b.ae,grownCap w (n+s.m) c' e⟩) (.slice (some ⟨id,0,none⟩) (n+s.m) aI) (.slice (some ⟨w.heap.size,0,none⟩) (n+s.m) (grownCap w (n+s.m) c' e)):=by
       have:=au.slice (ν:=ν.add id ⟨w.heap.size,0,b.ae,grownCap w (n+s.m) c' e⟩) id 0 (n+s.m) aI (grownCap w (n+s.m) c' e) _ Nu.add_same (.inr rfl) eK (by simp)
       simpa [Loc.at] using this
      have q9:id < H.length:=by rw [← mc]; exact al
      refine ⟨_,_,ν.add id ⟨w.heap.size,0,b.ae,grownCap w (n+s.m) c' e⟩,_,_,_,h,cm,⟨jB _ gX,hi.df.below IC,?_,fun j hj=>?_,hi.kp.below IC,fun j bj lj hj ou c6=>?_,hF⟩,bB⟩
      ·refine hi.hp.eP (id:=id) gX (fun j bj hj aD=>?_) (fun bj hj=>?_)
       ·rw [List.getElem?_set_ne (Ne.symm aD)] at hj;obtain ⟨b0,kB,vQ,tL⟩:=Ev j bj hj;exact ⟨b0,kB,vQ,fun lj c6 rr=>tL ν _ lj _ gX (rr.below IC)⟩
       ·rw [List.getElem?_set_self al] at hj;cases hj;refine ⟨_,Nu.add_same,Rm ν _ _ _ gX iC,fun j lj bj aD hj c6=>?_⟩
        obtain ⟨lj',e1,e2⟩:=hi.hp.aL j bj hj;rw [c6] at e1; cases e1;have:=e2.live;simp only;omega
      ·have hj:H.length≤j:=by simpa [mc] using hj
       rw [Nu.iV (by omega)]; exact hi.fr j hj
      ·by_cases e':j=id
       ·subst e';rw [Nu.add_same] at c6;cases c6;exact .inr hi.kp.size
       ·rw [List.getElem?_set_ne (Ne.symm e')] at hj;obtain ⟨b0,kB,vQ,_⟩:=Ev j bj hj;rw [Nu.iV e'] at c6;exact hi.own j b0 lj kB (by rw [← vQ]; exact ou) c6
    split at h
    ·rename_i eJ;have eJ:c≠aI:=of_decide_eq_false eJ;have hc:c'=c:=ld.resolve_right eJ;cases s8:Nat.ble (n+s.m) c with
     | true =>
      have cP:=Nat.le_of_ble_eq_true s8;obtain ⟨AI,h⟩:=CB h s8;obtain ⟨v,v',ak,t',H',w',h1,J,h3,h4,h5⟩:=Et AI (by omega) h
      exact ⟨v,v',ak,t',H',w',h1,J,h3,h4,fun _=>h5⟩
     | false =>
      have cP:c < n+s.m:=by
       rcases Nat.lt_or_ge c (n+s.m) with h' | h'
       ·exact h'
       ·rw [Nat.ble_eq_true_of_le h'] at s8; cases s8
      obtain ⟨⟨hle,me⟩,h⟩:=Ch h s8;obtain ⟨v,v',ak,t',H',w',h1,J,h3,h4,h5⟩:=Eu hle me (by omega) h
      exact ⟨v,v',ak,t',H',w',h1,J,h3,h4,fun _=>h5⟩
    ·rename_i eJ;have eJ:c=aI:=of_decide_eq_true eJ;have nx:Ck (.slice (some ⟨id,row,none⟩) n c)=true→False:=fun hx=>by rw [eJ] at hx; simp [Ck] at hx
     split at h
     ·have AJ:row=0:=by
       cases row with
       | zero=>rfl
       | succ r=>exact h.elim
      clear Et Eu;subst AJ;obtain ⟨⟨Dn,⟨fZ,ho⟩,me⟩,h⟩:=h;obtain ⟨b1,h,dV⟩:=LD h;obtain ⟨v,v',ak,t',H',w',h1,J,h3,h4⟩:=IB b1 ho (by simpa using dV) eJ rfl Dn fZ me h
      exact ⟨v,v',ak,t',H',w',h1,J,h3,h4,fun hx=>(nx hx).elim⟩
     ·split at h
      ·have AJ:row=0:=by
        cases row with
        | zero=>rfl
        | succ r=>exact h.elim
       clear Et Eu;subst AJ;obtain ⟨⟨Dn,fZ,me⟩,h⟩:=h;obtain ⟨b1,h,ho,dV⟩:=Bu h;obtain ⟨v,v',ak,t',H',w',h1,J,h3,h4⟩:=IB b1 ho (by rw [fZ]; exact dV) eJ rfl Dn (Nat.le_of_eq fZ) me h
       exact ⟨v,v',ak,t',H',w',h1,J,h3,h4,fun hx=>(nx hx).elim⟩
      ·have AJ:row=0:=by
        cases row with
        | zero=>rfl
        | succ r=>exact h.elim
       clear Et Eu IB;subst AJ;obtain ⟨⟨fZ,me⟩,h⟩:=h;obtain ⟨b',h,ho,dV⟩:=Bu h;obtain ⟨al,h⟩:=mq h;have h:=mr h;have gd:bu F ν tmps (H.set id none) a w:=by
        have hle:ay.le (H.set id none) H:=fun j bj hj=>by
         by_cases e':j=id
         ·subst e'; rw [List.getElem?_set_self al] at hj; cases hj
         ·rw [List.getElem?_set_ne (Ne.symm e')] at hj; exact hj
        exact ⟨hi.tm,hi.df,hi.hp.sN hle,fun j hj=>hi.fr j (by simpa using hj),hi.kp,fun j bj lj hj ou c6=>hi.own j bj lj (hle j bj hj) ou c6,hi.mono⟩
       have pH:ν (H.set id none).length=none:=gd.fr _ (Nat.le_refl _);have iP:∀ j bj,(H.set id none)[j]?=some (some bj)→j≠id∧H[j]?=some (some bj):=fun j bj hj=>by
        by_cases e':j=id
        ·subst e'; rw [List.getElem?_set_self al] at hj; cases hj
        ·rw [List.getElem?_set_ne (Ne.symm e')] at hj; exact ⟨e',hj⟩
       by_cases cP:n+s.m≤c'
       ·obtain ⟨w2,bB,iC,gO,pR,n9⟩:=GS b' _ ho dV (by rw [fZ]; simp) (Nat.le_refl _) cP
        have h:=yO h;have kV:=Nu.kd (l:=l) pH;have zv:∀ j bj,(H.set id none++[some b'])[j]?=some (some bj)→(j < (H.set id none).length∧j≠id∧H[j]?=some (some bj))∨(j=(H.set id none).length∧bj=b'):=fun j bj hj=>by
         rw [List.getElem?_append] at hj
         split at hj
         ·rename_i ID;exact .inl ⟨ID,iP j bj hj⟩
         ·rename_i eK;have:j - (H.set id none).length=0:=by
           rcases Nat.lt_or_ge (j - (H.set id none).length) 1 with h' | h'
           ·omega
           ·rw [List.getElem?_eq_none (by simpa using h')] at hj; cases hj
          rw [this] at hj;cases hj;exact .inr ⟨by omega,rfl⟩
        have hv:au (ν.add (H.set id none).length l) (.slice (some ⟨(H.set id none).length,0,none⟩) (n+s.m) aI) (.slice (some A) (n+s.m) c'):=by
         rcases hA with ⟨rfl,fO⟩ | ⟨h0,ov⟩
         ·exact .slice _ _ _ _ _ l Nu.add_same (.inr rfl) cP fO
         ·have ky:s.m=0:=by omega
          subst ov;rw [h0,ky];exact .void _ _ _ _ (.inr rfl)
        refine ⟨_,_,ν.add (H.set id none).length l,_,_,w2,h,hv,⟨hi.tm.mono kV,(let ⟨_,_,u9,_⟩:=hB.own (ai.cZ ho).1 (ai.cZ ho).2; hi.df.eP u9 n9),⟨fun j bj hj=>?_,fun i j bi bj li lj h1 J aD Jr e1 e2=>?_⟩,fun j hj=>?_,gO,fun j bj lj hj ou c6=>?_,Nu.le_trans hi.mono kV⟩,bB,fun hx=>(nx hx).elim⟩
        ·rcases zv j bj hj with ⟨q1,q2,q3⟩ | ⟨q1,q2⟩
         ·obtain ⟨lj,e1,e2⟩:=hi.hp.aL j bj q3;refine ⟨lj,kV _ _ e1,(e2.same (n9 _ ?_) pR).mono kV⟩;exact Ne.symm (hi.hp.sep id j b bj l lj hb q3 (Ne.symm q2) (ai.cZ ho).1 hl e1)
         ·subst q1; subst q2;exact ⟨l,Nu.add_same,iC.mono kV⟩
        ·rcases zv i bi h1 with ⟨q1,q2,q3⟩ | ⟨q1,q2⟩
         ·rw [Nu.iV (by omega)] at e1
          rcases zv j bj J with ⟨p1,p2,p3⟩ | ⟨p1,p2⟩
          ·rw [Nu.iV (by omega)] at e2
           exact hi.hp.sep i j bi bj li lj q3 p3 aD Jr e1 e2
          ·subst p1;rw [Nu.add_same] at e2; cases e2;exact Ne.symm (hi.hp.sep id i b bi l li hb q3 (Ne.symm q2) (ai.cZ ho).1 hl e1)
         ·subst q1;rw [Nu.add_same] at e1; cases e1;rcases zv j bj J with ⟨p1,p2,p3⟩ | ⟨p1,p2⟩
          ·rw [Nu.iV (by omega)] at e2
           exact hi.hp.sep id j b bj l lj hb p3 (Ne.symm p2) (ai.cZ ho).1 hl e2
          ·exact absurd p1.symm aD
        ·have hj:H.length+1≤j:=by simpa using hj
         rw [Nu.iV (by simp; omega)]; exact hi.fr j (by omega)
        ·rcases zv j bj hj with ⟨q1,q2,q3⟩ | ⟨q1,q2⟩
         ·rw [Nu.iV (by omega)] at c6
          exact hi.own j bj lj q3 ou c6
         ·subst q1;rw [Nu.add_same] at c6; cases c6;exact hi.own id b l hb (ai.cZ ho).1 hl
       ·obtain ⟨O,hO,rA⟩:=hold (by omega)
        have bB:=grow me (by omega) O (by rw [hO.len,gA,dv]) rA
        have kV:=Nu.kd (l:=⟨w.heap.size,0,b.ae,grownCap w (n+s.m) c' e⟩) pH;have Jw:CR ν b.ae b.row n O:=hO.congr (fun r hr=>by simp)
        have IE:Ext b' b.ae b.row n s.get s.m (b.pB && s.kj):=by rw [fZ]; exact dV
        have iC:=wJ (Jw.mono kV) (hC.mono kV) IE (fun h=>⟨fun r hr v hv=>(mH h).1 r (by omega) v hv,(mH h).2⟩) (w:=w) jz (iP:=c') (e:=e)
        have eK:=grownCap_ge w (n+s.m) c' e;have cm:au (ν.add (H.set id none).length ⟨w.heap.size,0,b.ae,grownCap w (n+s.m) c' e⟩) (.slice (some ⟨(H.set id none).length,0,none⟩) (n+s.m) aI) (.slice (some ⟨w.heap.size,0,none⟩) (n+s.m) (grownCap w (n+s.m) c' e)):=by
         have:=au.slice (ν:=ν.add (H.set id none).length ⟨w.heap.size,0,b.ae,grownCap w (n+s.m) c' e⟩) (H.set id none).length 0 (n+s.m) aI (grownCap w (n+s.m) c' e) _ Nu.add_same (.inr rfl) eK (by simp)
         simpa [Loc.at] using this
        have hq:=mW pH iC (wD w _ _ _ _) (Nat.le_refl _) cm;obtain ⟨H',h1,J⟩:=gd.quiet hq (k:=fun H'=>k _ tmps H') h
        exact ⟨_,_,_,_,_,_,h1,cm,J,bB,fun hx=>(nx hx).elim⟩
   ·exact h.elim
  ·rename_i id row b0 n c;obtain ⟨b,hb,h⟩:=gD J;clear J
   split at h
   ·rename_i dv;have dv:b.ae=te.size:=Nat.eq_of_beq_eq_true dv
    split at h
    ·rename_i N ae get m news _;have dv:ae=te.size:=dv;obtain ⟨⟨je,hN⟩,h⟩:=h;obtain ⟨al,h⟩:=mq h;obtain ⟨l,hl,hB⟩:=hi.hp.aL id _ hb;rw [aw] at h;have Jt:CR ν ae news m L:=by rw [dv]; exact hC
     have vR:∀ r,r < m→∀ v∈news r,cG v=true:=q8 rfl;obtain ⟨h1,J⟩:=hi.iy (P:=P) hb hl (q:=row+n) (m:=m) (by omega) Jt vR
     have AH:y'=.slice oy m cy:=kz;have Jx:L.length=m*i.size:=hL;have Qt:oy=none→m=0:=kA;rcases hx.XW with ⟨l',c',cC,h3,h4,h5,eJ,e⟩ | ⟨h3,h4,eJ,bb,e⟩
     ·rw [hl] at cC; cases cC;subst eJ;refine ⟨_,_,ν,_,_,_,h,.l8 _ _ _ _ c' l hl h3 (by omega) h5,J,?_,fun _=>ν.le_refl⟩
      rw [e,AH];refine rY (P:=P) hu iL Jx jZ Qt (by omega) (fun A' tK=>?_) (fun h=>by cases h)
      cases tK;have e2:(l.at row 0).add (n*i.size)=l.at (row+n) 0:=by
       rw [Loc.jN]; unfold Loc.at; congr 1;rw [show l.ae=ae from hB.ae,gA,Nat.add_mul,dv]; omega
      rw [e2]; exact h1
     ·have ky:m=0:=by omega
      subst eJ;subst h3;subst ky;subst h4;have yy:L=[]:=List.eq_nil_of_length_eq_zero (by rw [Jx]; simp)
      subst yy;refine ⟨_,_,ν,_,_,w,h,.kS _ _ bb,J,?_,fun _=>ν.le_refl⟩
      rw [e,AH];exact rY (P:=P) hu iL Jx jZ Qt (by omega) (fun A' tK=>rfl) (fun h=>by cases h)
    ·exact h.elim
   ·exact h.elim
  ·exact J.elim
 ·exact J.elim
theorem SQ (hE:EnvOk P E) (bL:k9 F E) {ν:Nu} {tmps:List Value} {H:ay} {a:Act} {w:World} (hi:bu F ν tmps H a w) {t:TypeId} {x y:Operand} {k:Value→List Value→ay→Prop}
  (h:Oi E tmps H t x y k) (ty:TypeId):∃ v v' ak t' H' w',k v t' H'∧au ak v v'∧bu F ak t' H' a w'∧(Builtin.append_ #[t,t] ty #[a.eval x,a.eval y]).run P w=.ok v' w':=by
 obtain ⟨xv,J,hx⟩:=kG h (hi.mA x);clear h;obtain ⟨yv,h,hy⟩:=kG J (hi.mA y);obtain ⟨v,v',ak,t',H',w',h1,J,h3,h4,_⟩:=Lc hE bL hi hx hy h ty;exact ⟨v,v',ak,t',H',w',h1,J,h3,h4⟩
end
open Go Go.RowKit
def yi:List Nat→Nat→Nat→Option Nat
 | [],_,_=>none
 | a::l,id,k=>match Nat.beq a id with
  | true=>some k
  | false=>yi l id (k+1)
theorem Mw:∀ {l:List Nat} {id k j:Nat},yi l id k=some j→k≤j∧l[j - k]?=some id
 | [],id,k,j,h=>by cases h
 | a::l,id,k,j,h=>by
  unfold yi at h
  split at h
  ·rename_i e;cases h;exact ⟨Nat.le_refl _,by simp [Nat.eq_of_beq_eq_true e]⟩
  ·obtain ⟨h1,J⟩:=Mw h;refine ⟨by omega,?_⟩
   rw [show j - k=(j - (k+1))+1 by omega,List.getElem?_cons_succ]; exact J
def gY (σ:List Nat):Nat→Value→Option Value
 | 0,_=>none
 | k+1,v=>match v with
  | .bool b=>some (.bool b)
  | .int q n=>some (.int q n)
  | .string s=>some (.string s)
  | .pointer none=>some (.pointer none)
  | .pointer (some ⟨id,row,sp⟩)=>match yi σ id 0 with | some j=>some (.pointer (some ⟨j,row,sp⟩)) | none=>some (.chan none)
  | .slice none n c=>some (.slice none n c)
  | .slice (some ⟨id,row,sp⟩) n c=>match yi σ id 0 with | some j=>some (.slice (some ⟨j,row,sp⟩) n c) | none=>some (.chan none)
  | .nilFunc=>some .nilFunc
  | .chan none=>some (.chan none)
  | .agg ⟨l⟩=>match l.foldr (fun v acc=>match gY σ k v,acc with | some x,some xs=>some (x::xs) | _,_=>none) (some []) with | some l'=>some (.agg ⟨l'⟩) | none=>none
  | .tuple ⟨l⟩=>match l.foldr (fun v acc=>match gY σ k v,acc with | some x,some xs=>some (x::xs) | _,_=>none) (some []) with | some l'=>some (.tuple ⟨l'⟩) | none=>none
  | .func fn ⟨l⟩ ⟨m⟩=>match l.foldr (fun v acc=>match gY σ k v,acc with | some x,some xs=>some (x::xs) | _,_=>none) (some []),m.foldr (fun v acc=>match gY σ k v,acc with | some x,some xs=>some (x::xs) | _,_=>none) (some []) with
   | some l',some m'=>some (.func fn ⟨l'⟩ ⟨m'⟩) | _,_=>none
  | _=>none
def np (σ:List Nat) (k:Nat) (l:List Value):Option (List Value):=l.foldr (fun v acc=>match gY σ k v,acc with | some x,some xs=>some (x::xs) | _,_=>none) (some [])
theorem FU {σ:List Nat} {m:Nat} {x:Value} {xs l:List Value} (h:np σ m (x::xs)=some l):∃ y ys,l=y::ys∧gY σ m x=some y∧np σ m xs=some ys:=by
 unfold np at h;rw [List.foldr_cons] at h
 split at h
 ·rename_i y ys h1 J;exact ⟨y,ys,(Option.some.inj h).symm,h1,J⟩
 ·cases h
theorem y6 {σ:List Nat} {m:Nat} {ν ak:Nu} (h:∀ v v2 r,gY σ m v=some v2→au ν v r→au ak v2 r):∀ {xs l rs:List Value},np σ m xs=some l→bf ν xs rs→bf ak l rs
 | [],l,rs,h1,J=>by
  have:l=[]:=by simp [np] at h1; exact h1
  rw [this,J.iU]; exact .nil _
 | x::xs,l,rs,h1,J=>by
  obtain ⟨y,ys,rfl,e1,e2⟩:=FU h1;obtain ⟨r,bZ,rfl,k1,k2⟩:=J.jm;exact .cons (h _ _ _ e1 k1) (y6 h e2 k2)
theorem Hs {σ:List Nat} {id j:Nat} {ν:Nu} (h:yi σ id 0=some j):(ν.comp σ) j=ν id:=by
 have:=(Mw h).2;rw [Nat.sub_zero] at this;simp [Nu.comp,this]
theorem Ns {σ:List Nat} {ν:Nu}:∀ (m:Nat) (v v2 r:Value),gY σ m v=some v2→au ν v r→au (ν.comp σ) v2 r:=by
 intro m
 induction m with
 | zero=>intro v v2 r h; simp [gY] at h
 | succ m ih =>
  intro v v2 r h hr;cases hr with
  | bool b=>cases h; exact .bool b
  | int q n=>cases h; exact .int q n
  | str s=>cases h; exact .str s
  | mD=>cases h; exact .mD
  | ptr id row sp l hl =>
   unfold gY at h
   dsimp only at h
   split at h
   ·rename_i j hj;cases h;exact .ptr j row sp l (by rw [Hs hj]; exact hl)
   ·cases h; exact .dead _ rfl
  | ju=>cases h; exact .ju
  | slice id row n c c' l hl hc hn hr =>
   unfold gY at h
   dsimp only at h
   split at h
   ·rename_i j hj;cases h;exact .slice j row n c c' l (by rw [Hs hj]; exact hl) hc hn hr
   ·cases h; exact .dead _ rfl
  | void id row c a hc =>
   unfold gY at h
   dsimp only at h
   split at h
   ·cases h; exact .void _ row c a hc
   ·cases h; exact .dead _ rfl
  | l8 id row m' n c' l hl hm hn hr =>
   unfold gY at h
   dsimp only at h
   split at h
   ·rename_i j hj;cases h;exact .l8 j row m' n c' l (by rw [Hs hj]; exact hl) hm hn hr
   ·cases h; exact .dead _ rfl
  | kS id row a =>
   unfold gY at h
   dsimp only at h
   split at h
   ·cases h; exact .kS _ row a
   ·cases h; exact .dead _ rfl
  | mE=>cases h; exact .mE
  | func fn xs ys nw dj h1 J h3 h4 =>
   unfold gY at h
   dsimp only at h
   split at h
   ·rename_i l1 l2 e1 e2;cases h;have t1:=y6 ih e1 ⟨h1,J⟩;have t2:=y6 ih e2 ⟨h3,h4⟩;exact .func _ _ _ _ _ t1.1 t1.2 t2.1 t2.2
   ·cases h
  | agg xs ys h1 J =>
   unfold gY at h
   dsimp only at h
   split at h
   ·rename_i l1 e1;cases h;have t1:=y6 ih e1 ⟨h1,J⟩;exact .agg _ _ t1.1 t1.2
   ·cases h
  | tuple xs ys h1 J =>
   unfold gY at h
   dsimp only at h
   split at h
   ·rename_i l1 e1;cases h;have t1:=y6 ih e1 ⟨h1,J⟩;exact .tuple _ _ t1.1 t1.2
   ·cases h
  | dead w hw=>cases h; exact .dead _ (by assumption)
theorem Wl {σ:List Nat} {m:Nat} {v v2:Value} (h:gY σ m v=some v2) (h1:v.oneCell'=true):v2.oneCell'=true:=by
 cases m with
 | zero=>simp [gY] at h
 | succ m =>
  unfold gY at h
  split at h
  all_goals first
   | (exfalso; simp [Value.oneCell'] at h1; done)
   | (cases h; rfl)
   | (split at h <;> first | (cases h; rfl) | cases h)
   | cases h
theorem Gn {σ:List Nat} {m:Nat} {p:Value→Prop} (hp:∀ v v2,gY σ m v=some v2→p v→p v2):∀ {xs l:List Value},np σ m xs=some l→(∀ v∈xs,p v)→(l.length=xs.length∧∀ v∈l,p v)
 | [],l,h,_=>by
  have:l=[]:=by simp [np] at h; exact h
  subst this;exact ⟨rfl,fun v hv=>by simp at hv⟩
 | x::xs,l,h,hx=>by
  obtain ⟨y,ys,rfl,e1,e2⟩:=FU h;obtain ⟨h1,J⟩:=Gn hp e2 (fun v hv=>hx v (by simp [hv]))
  refine ⟨by simp [h1],fun v hv=>?_⟩
  rcases List.mem_cons.1 hv with e | e
  ·rw [e]; exact hp x y e1 (hx x (by simp))
  ·exact J v e
def Ak (a:Nat→Value) (σ aa:List Nat):Nat→List Value→(List Value→Prop)→Prop
 | _,[],k=>k []
 | i,v::l,k=>match Jq i aa with
  | true=>Ah (gY σ 3 v) fun v'=>Ak a σ aa (i+1) l fun l'=>k (v'::l')
  | false=>Ak a σ aa (i+1) l fun l'=>k (a i::l')
theorem FW {a:Nat→Value} {σ aa:List Nat}:∀ {t:List Value} {i:Nat} {k:List Value→Prop},Ak a σ aa i t k→∀ (ν:Nu) r,bf ν t r→(∀ (j:Nat) (y:Value),r[j]?=some y→∀ ak:Nu,au ak (a (i+j)) y)→∃ t',k t'∧bf (ν.comp σ) t' r
 | [],i,k,h,ν,r,hr,ha=>⟨[],h,by rw [hr.iU]; exact .nil _⟩
 | v::l,i,k,h,ν,r,hr,ha=>by
  obtain ⟨y,ys,rfl,h1,J⟩:=hr.jm;obtain ⟨hx,ha⟩:=Nr ha;unfold Ak at h
  split at h
  ·obtain ⟨v',e,h⟩:=FQ h;obtain ⟨l',h3,h4⟩:=FW h ν ys J ha;exact ⟨_,h3,.cons (Ns 3 _ _ _ e h1) h4⟩
  ·obtain ⟨l',h3,h4⟩:=FW h ν ys J ha;exact ⟨_,h3,.cons (hx _) h4⟩
def GU (σ:List Nat):List (List Value)→(List (List Value)→Prop)→Prop
 | [],k=>k []
 | r::l,k=>Ah (np σ 3 r) fun r'=>GU σ l fun l'=>k (r'::l')
theorem KP {σ:List Nat}:∀ {l:List (List Value)} {k:List (List Value)→Prop},GU σ l k→∃ l',k l'∧l'.length=l.length∧∀ (i:Nat) r',l'[i]?=some r'→∃ r,l[i]?=some r∧np σ 3 r=some r'
 | [],k,h=>⟨[],h,rfl,fun i r hr=>by simp at hr⟩
 | r::l,k,h=>by
  obtain ⟨r',e,h⟩:=FQ h;obtain ⟨l',h,h1,J⟩:=KP h;refine ⟨_,h,by simp [h1],fun i q hq=>?_⟩
  cases i with
  | zero=>simp at hq; subst hq; exact ⟨r,rfl,e⟩
  | succ i=>simpa using J i q (by simpa using hq)
def Qu (σ:List Nat) (b:ai) (k:ai→Prop):Prop :=
 match b with
 | .flat o n e g=>k (.flat o n e g)
 | .aP o e rows=>GU σ rows fun iX=>k (.aP o e iX)
 | .b6 r=>k (.b6 r)
theorem Vh {σ:List Nat} {b:ai} {k:ai→Prop} (h:Qu σ b k):∃ b',k b'∧b'.own=b.own∧∀ (ν:Nu) (l:Loc) (w:World),bP ν l b w→bP (ν.comp σ) l b' w:=by
 cases b with
 | flat o n e g =>
  exact ⟨_,h,rfl,fun ν l w hB=>hB.Gm (hB.plain rfl)⟩
 | b6 r=>exact ⟨_,h,rfl,fun ν l w hB=>hB.Gm (fun r hr=>absurd hr (Nat.not_lt_zero r))⟩
 | aP o e rows =>
  obtain ⟨iX,h,h1,J⟩:=KP h;refine ⟨_,h,rfl,fun ν l w hB=>?_⟩
  have a8:∀ r,r < iX.length→∃ q,(ai.aP o e rows).row r=q∧np σ 3 q=some ((ai.aP o e iX).row r)∧r < rows.length:=by
   intro r hr;obtain ⟨q,h3,h4⟩:=J r _ (List.getElem?_eq_getElem hr);refine ⟨q,by simp [ai.row,List.getD,h3],?_,by omega⟩
   simpa [ai.row,List.getD,List.getElem?_eq_getElem hr] using h4
  -- cell by cell, against the real cells of the row
  have real:∀ (xs:List Value) (P:Nat→Value→Prop),(∀ (j:Nat) v,xs[j]?=some v→∃ v',P j v'∧au ν v v')→∀ l,np σ 3 xs=some l→∀ (j:Nat) v,l[j]?=some v→∃ v',P j v'∧au (ν.comp σ) v v':=by
   intro xs
   induction xs with
   | nil =>
    intro P _ l hl j v hv;have:l=[]:=by simp [np] at hl; exact hl
    rw [this] at hv; simp at hv
   | cons x xs ih =>
    intro P hP l hl j v hv;obtain ⟨y,ys,rfl,e1,e2⟩:=FU hl;cases j with
    | zero =>
     simp at hv; subst hv;obtain ⟨v',h3,h4⟩:=hP 0 x rfl;exact ⟨v',h3,Ns 3 _ _ _ e1 h4⟩
    | succ j =>
     exact ih (fun j=>P (j+1)) (fun j v hv=>hP (j+1) v (by simpa using hv)) ys e2 j v (by simpa using hv)
  refine ⟨hB.ae,fun r hr=>?_,fun r hr j v hv=>?_,fun h=>by simp [ai.jM] at h,fun r hr v hv=>?_,fun ho _=>?_,(fun r h=>nomatch h),hB.live⟩
  ·obtain ⟨q,h3,h4,h5⟩:=a8 r hr;have:=(Gn (p:=fun _=>True) (fun _ _ _ _=>trivial) h4 (fun _ _=>trivial)).1
   rw [this,← h3]; exact hB.len r h5
  ·obtain ⟨q,h3,h4,h5⟩:=a8 r hr;exact real q (fun j v'=>w.cell? (l.at r j)=some v') (fun j v hv=>hB.cell r h5 j v (by rw [h3]; exact hv)) _ h4 j v hv
  ·obtain ⟨q,h3,h4,h5⟩:=a8 r hr;exact (Gn (p:=fun v=>v.oneCell'=true) (fun _ _ h h'=>Wl h h') h4 (fun v hv=>hB.one r h5 v (by rw [h3]; exact hv))).2 v hv
  ·obtain ⟨cur,t,q1,q2,q3⟩:=hB.own ho rfl;exact ⟨cur,t,q1,q2,by simp only [ai.n] at q3 ⊢; omega⟩
def vd (H:ay):Nat→(Option ai→Prop)→Prop:=fun id k=>match H,id with
 | [],_=>k none
 | b::_,0=>k b
 | _::H,n+1=>vd H n k
theorem LG:∀ {H:ay} {id:Nat} {k:Option ai→Prop},vd H id k→∃ b,k b∧∀ c,b=some c→H[id]?=some (some c)
 | [],_,k,h=>by
  have h:k none:=by unfold vd at h; exact h
  exact ⟨none,h,fun c hc=>by cases hc⟩
 | b::_,0,k,h=>by
  have h:k b:=by unfold vd at h; exact h
  exact ⟨b,h,fun c hc=>by rw [hc]; rfl⟩
 | _::H,n+1,k,h=>by
  have h:vd H n k:=by unfold vd at h; exact h
  obtain ⟨b,h1,J⟩:=LG h;exact ⟨b,h1,fun c hc=>by simpa using J c hc⟩
def DQ (σ:List Nat) (H:ay):List Nat→(ay→Prop)→Prop
 | [],k=>k []
 | s::l,k=>vd H s fun b=>match b with
  | none=>DQ σ H l fun H'=>k (none::H')
  | some b=>Qu σ b fun b'=>DQ σ H l fun H'=>k (some b'::H')
theorem FX {σ:List Nat} {H:ay}:∀ {l:List Nat} {k:ay→Prop},DQ σ H l k→∃ H',k H'∧H'.length=l.length∧∀ (j:Nat) b',H'[j]?=some (some b')→∃ s b,l[j]?=some s∧H[s]?=some (some b)∧b'.own=b.own ∧
  ∀ (ν:Nu) (lc:Loc) (w:World),bP ν lc b w→bP (ν.comp σ) lc b' w
 | [],k,h=>⟨[],h,rfl,fun j b hj=>by simp at hj⟩
 | s::l,k,h=>by
  obtain ⟨b,h,hb⟩:=LG h;cases b with
  | none =>
   obtain ⟨H',h1,J,h3⟩:=FX (l:=l) h;refine ⟨_,h1,by simp [J],fun j b' hj=>?_⟩
   cases j with
   | zero=>simp at hj
   | succ j=>simpa using h3 j b' (by simpa using hj)
  | some b =>
   obtain ⟨b1,h,ho,hr⟩:=Vh h;obtain ⟨H',h1,J,h3⟩:=FX (l:=l) h;refine ⟨_,h1,by simp [J],fun j b' hj=>?_⟩
   cases j with
   | zero=>simp at hj; subst hj; exact ⟨s,b,rfl,hb b rfl,ho,hr⟩
   | succ j=>simpa using h3 j b' (by simpa using hj)
def Dp (a:Nat):List Nat→Bool
 | []=>true
 | b::l=>match Nat.beq a b with
  | true=>false
  | false=>Dp a l
theorem LH {a:Nat}:∀ {l:List Nat},Dp a l=true→a ∉ l
 | [],_=>by simp
 | b::l,h=>by
  unfold Dp at h
  split at h
  ·cases h
  ·rename_i e;rw [List.mem_cons,not_or];exact ⟨Nat.ne_of_beq_eq_false e,LH h⟩
def DR:List Nat→Bool
 | []=>true
 | a::l=>match Dp a l with
  | true=>DR l
  | false=>false
theorem Mx:∀ {l:List Nat},DR l=true→l.Nodup
 | [],_=>by simp
 | a::l,h=>by
  unfold DR at h
  split at h
  ·rename_i e; exact List.nodup_cons.2 ⟨LH e,Mx h⟩
  ·cases h
def preB (base:Nat):Nat→List Nat→Bool
 | k,[]=>Nat.ble base k
 | k,a::l=>match Nat.ble base k with
  | true=>true
  | false=>match Nat.beq a k with
   | true=>preB base (k+1) l
   | false=>false
theorem My {base:Nat}:∀ {l:List Nat} {k:Nat},preB base k l=true→∀ j,k+j < base→l[j]?=some (k+j)
 | [],k,h,j,hj=>by
  have:=Nat.le_of_ble_eq_true h;omega
 | a::l,k,h,j,hj=>by
  unfold preB at h
  split at h
  ·rename_i e; have:=Nat.le_of_ble_eq_true e; omega
  ·split at h
   ·rename_i e;have e:=Nat.eq_of_beq_eq_true e;cases j with
    | zero=>simp [e]
    | succ j =>
     have:=My h j (by omega)
     rw [List.getElem?_cons_succ,this]; congr 1; omega
   ·cases h
def Ht (base:Nat) (σ:List Nat):Bool:=match preB base 0 σ with
 | true=>DR σ
 | false=>false
theorem Tl {base:Nat} {σ:List Nat} (h:Ht base σ=true):(∀ j,j < base→σ[j]?=some j)∧σ.Nodup:=by
 unfold Ht at h
 split at h
 ·rename_i e;exact ⟨fun j hj=>by have:=My e j (by omega); simpa using this,Mx h⟩
 ·cases h
def IF (E:Env) (σ aa:List Nat) (t:List Value) (H:ay) (k:SK):Prop :=
 match Ht E.base σ with
 | true=>∀ a:Nat→Value,Ak a σ aa 0 t fun t'=>DQ σ H σ fun H'=>k t' H'
 | false=>False
theorem Vi {E:Env} {F:Fr} (bL:k9 F E) {σ aa:List Nat} {ν:Nu} {t:List Value} {H:ay} {a:Act} {w:World} {k:SK} (hi:bu F ν t H a w) (h:IF E σ aa t H k) :
  ∃ t' H',k t' H'∧bu F (ν.comp σ) t' H' a w:=by
 unfold IF at h
 split at h
 ·rename_i hb;obtain ⟨AK,dM⟩:=Tl hb;obtain ⟨af,Jv⟩:=Oh hi.tm;obtain ⟨t',h,ht⟩:=FW (h af) ν _ hi.tm (fun j y hy ak=>by rw [Nat.zero_add]; exact Jv j y hy ak)
  obtain ⟨H',h,mc,hH⟩:=FX h;have ng:∀ (j s:Nat),σ[j]?=some s→(ν.comp σ) j=ν s:=fun j s hj=>by simp [Nu.comp,hj]
  refine ⟨t',H',h,⟨ht,hi.df,⟨fun j b' hj=>?_,fun i j bi bj li lj aQ gl aD ho e1 e2=>?_⟩,fun j hj=>?_,hi.kp,fun j b' l hj ho hl=>?_,fun id l bm=>?_⟩⟩
  ·obtain ⟨s,b,h1,J,h3,h4⟩:=hH j b' hj;obtain ⟨l,h5,h6⟩:=hi.hp.aL s b J;exact ⟨l,by rw [ng j s h1]; exact h5,h4 ν l w h6⟩
  ·obtain ⟨s,b,h1,J,h3,h4⟩:=hH i bi aQ;obtain ⟨s',b',fi,j3,tM,rB⟩:=hH j bj gl;rw [ng i s h1] at e1;rw [ng j s' fi] at e2;refine hi.hp.sep s s' b b' li lj J j3 (fun e=>aD ?_) (by rw [← h3]; exact ho) e1 e2
   subst e;exact (List.getElem?_inj (List.getElem?_eq_some_iff.1 h1).1 dM).1 (h1.trans fi.symm)
  ·rw [mc] at hj;simp [Nu.comp,List.getElem?_eq_none hj]
  ·obtain ⟨s,b,h1,J,h3,h4⟩:=hH j b' hj;rw [ng j s h1] at hl;exact hi.own s b l J (by rw [← h3]; exact ho) hl
  ·have al:id < F.n0:=by
    rcases Nat.lt_or_ge id F.n0 with h | h
    ·exact h
    ·rw [F.fresh id h] at bm; cases bm
   rw [ng id id (AK id (by have:=bL.n0; omega))]
   exact hi.mono id l bm
 ·exact h.elim
def IG (E:Env) (t:List Value) (H:ay) (k:SK):Prop:=k t H∨∃ σ aa,IF E σ aa t H k
theorem Mz {E:Env} {F:Fr} (bL:k9 F E) {ν:Nu} {t:List Value} {H:ay} {a:Act} {w:World} {k:SK} (hi:bu F ν t H a w) (h:IG E t H k) :
  ∃ ak t' H',k t' H'∧bu F ak t' H' a w:=by
 rcases h with h | ⟨σ,aa,h⟩
 ·exact ⟨ν,t,H,h,hi⟩
 ·obtain ⟨t',H',h1,J⟩:=Vi bL hi h;exact ⟨_,t',H',h1,J⟩
inductive bw:List (Option Value)→List Value→Prop
 | nil:bw [] []
 | aa {v:Value} {ps:List (Option Value)} {vs:List Value} (h:bw ps vs):bw (some v::ps) (v::vs)
 | skip {v:Value} {ps:List (Option Value)} {vs:List Value} (h:bw ps vs):bw (none::ps) (v::vs)
def qO (a:Nat→Value):Nat→List (Option Value)→List Value
 | _,[]=>[]
 | i,some v::ps=>v::qO a (i+1) ps
 | i,none::ps=>a i::qO a (i+1) ps
def aF (n:Nat) (ps:List (Option Value)):List (Option Value):=match n with
 | 0=>ps
 | n+1=>none::aF n ps
def zs (a:Nat→Value) (i n:Nat) (l:List Value):List Value:=match n with
 | 0=>l
 | n+1=>a i::zs a (i+1) n l
theorem bw.sk:∀ (n:Nat) {ps:List (Option Value)} {vs:List Value},bw ps (vs.drop n)→Nat.ble n vs.length=true→bw (aF n ps) vs
 | 0,_,_,h,_=>h
 | n+1,_,[],_,h=>by simp at h
 | n+1,_,v::vs,h,hn=>.skip (bw.sk n (vs:=vs) h (by simpa using hn))
theorem bI {ps:List (Option Value)} {vs:List Value} (h:bw ps vs):∃ a:Nat→Value,vs=qO a 0 ps:=by
 have key:∀ (ps:List (Option Value)) (vs:List Value),bw ps vs→∀ i,∃ a:Nat→Value,vs=qO a i ps:=by
  intro ps vs h
  induction h with
  | nil=>exact fun i=>⟨fun _=>undef,rfl⟩
  | aa h ih=>
   intro i;obtain ⟨a,ha⟩:=ih (i+1);exact ⟨a,by rw [ha]; rfl⟩
  | @skip v ps vs h ih =>
   intro i;obtain ⟨a,ha⟩:=ih (i+1);refine ⟨fun j=>if j=i then v else a j,?_⟩
   have e:∀ (ps:List (Option Value)) (k:Nat),i < k→qO (fun j=>if j=i then v else a j) k ps=qO a k ps:=by
    intro ps
    induction ps with
    | nil=>intros; rfl
    | cons p ps ih =>
     intro k hk;cases p with
     | none=>simp only [qO,ih (k+1) (by omega),if_neg (show k≠i by omega)]
     | some p=>simp only [qO,ih (k+1) (by omega)]
   simp only [qO,e ps (i+1) (by omega),ha,if_true]
 exact key ps vs h 0
open Go Go.RowKit
def PO (E:Env) (o:Oper) (tmps:List Value) (H:ay) (k:SK) (q:Prop):Prop :=
 match o.op with
 | .store t x y=>C2 E tmps H t x y fun t' H'=>dr t' o.dst undef fun vP=>k vP H'
 | .call c=>match c.callee with
  | .builtin .append=>match c.args.toList,c.argTypes.toList with
   | [x,y],[t,t']=>match Nat.beq t t' with
    | true=>Oi E tmps H t x y fun v t1 H1=>dr t1 o.dst v fun t2=>k t2 H1
    | false=>q
   | _,_=>False
  | .builtin .clear=>match c.args.toList,c.argTypes.toList with
   | [x],[t]=>O9 E tmps H t x fun H1=>dr tmps o.dst (.tuple #[]) fun t2=>k t2 H1
   | _,_=>False
  | .builtin .copy=>match c.args.toList,c.argTypes.toList with
   | [x,y],[t,_]=>bS tmps x fun xv=>bS tmps y fun yv=>GR E H t xv yv fun v H1=>dr tmps o.dst v fun t2=>k t2 H1
   | _,_=>False
  | .value f=>bS tmps f fun fv=>match fv with
   | .func (.func g) a b=>match E.Ψ g with
    | some G=>qD tmps c.args.toList fun vs=>qZ a.toList vs fun l=>qZ l b.toList fun args=>G args H fun v H'=>dr tmps o.dst v fun t'=>k t' H'
    | none=>q
   | .func (.yield l) a b=>match a.toList,b.toList,E.ys with
    | [],[],(l',G)::_=>l'=l∧qD tmps c.args.toList fun vs=>G vs H fun v H'=>dr tmps o.dst v fun t'=>k t' H'
    | _,_,_=>False
   | _=>False
  | _=>q
 | _=>q
def zX (E:Env) (o:Oper) (tmps:List Value) (H:ay) (k:SK):Prop :=
 PO E o tmps H k (jw H fun aJ=>kZ E o.op tmps H aJ fun v nb=>dr tmps o.dst v fun t'=>vx H nb fun H'=>k t' H')
def xW (E:Env) (ops:List Oper) (o:Oper) (tmps:List Value) (H:ay) (k:SK):Prop :=
 match o.guard with
 | none=>zX E o tmps H k
 | some (j,want)=>match (ops[j]?).bind (·.dst) with
  | some d=>qY tmps d fun v=>match v with
   | .bool b=>match want with
    | true=>br b (zX E o tmps H k) (dr tmps o.dst undef fun t'=>k t' H)
    | false=>br b (dr tmps o.dst undef fun t'=>k t' H) (zX E o tmps H k)
   | .tuple _=>dr tmps o.dst undef fun t'=>k t' H
   | _=>False
  | none=>False
def nq (E:Env) (ops:List Oper):List Oper→List Value→ay→SK→Prop
 | [],t,H,k=>k t H
 | [o],t,H,k=>xW E ops o t H k
 | o::p::l,t,H,k=>xW E ops o t H fun t' H'=>nq E ops (p::l) t' H' k
theorem MA {E:Env} {ops l:List Oper} {o:Oper} {t:List Value} {H:ay} {k:SK} (h:nq E ops (o::l) t H k):xW E ops o t H fun t' H'=>nq E ops l t' H' k:=by
 cases l with
 | nil=>exact h
 | cons p l=>exact h
section
variable {P:Program} {E:Env} {r:Option Nat} {n:Nat} {F:Fr}
def uR (ν:Nu) (H:ay) (x:Nat):Prop:=∃ id c l,H[id]?=some (some c)∧c.own=true∧ν id=some l∧x=l.aL
theorem bu.called {ν ak:Nu} {tmps:List Value} {H H':ay} {a:Act} {w w':World} (hi:bu F ν tmps H a w) (hle:ν.le ak) (AL:bU ak H' w') (Al:∀ id,H'.length≤id→ak id=none)
  (tN:Kept (uR ν H) w w') (kl:∀ id b l,H'[id]?=some (some b)→b.own=true→ak id=some l→uR ν H l.aL∨w.heap.size≤l.aL):bu F ak tmps H' a w':=by
 have hO:∀ x,uR ν H x→F.O x∨F.W.heap.size≤x:=by
  rintro x ⟨id,c,l,h1,J,h3,rfl⟩
  exact hi.own id c l h1 J h3
 refine ⟨hi.tm.mono hle,BX hi.df fun D hD=>?_,AL,Al,hi.kp.then tN hO,fun id b l h5 h6 h7=>(kl id b l h5 h6 h7).elim (hO _) (fun h=>.inr (Nat.le_trans hi.kp.size h)),Nu.le_trans hi.mono hle⟩
 refine (tN.aL D (Array.getElem?_eq_some_iff.1 hD).1 ?_).trans hD
 rintro ⟨id,c,l,h1,J,h3,rfl⟩
 obtain ⟨l',h4,hB⟩:=hi.hp.aL id c h1;rw [h3] at h4; cases h4;cases hr:c.rc with
 | none =>
  obtain ⟨cur,t,h5,_⟩:=hB.own J hr;rw [h5] at hD; cases hD
 | some r =>
  have:=hB.lr r hr;rw [this] at hD; cases hD
theorem LI (hE:jU P E) (bL:k9 F E) {o:Oper} {ν:Nu} {tmps:List Value} {H:ay} {a:Act} {w:World} (hi:bu F ν tmps H a w) {k:SK}
  (h:zX E o tmps H k) {next:Act→World→Prop} {Q:Exit→Act→World→Prop}
  (hk:∀ ν t' H' a' w',bu F ν t' H' a' w'→k t' H'→next a' w'):o.wpIn (WF r) n P a w next Q:=by
 have quiet:(jw H fun aJ=>kZ E o.op tmps H aJ fun v nb=>dr tmps o.dst v fun t'=>vx H nb fun H'=>k t' H')→o.wpIn (WF r) n P a w next Q:=by
  intro h;have h:=mr h;obtain ⟨v,nb,rC,hq⟩:=BW (P:=P) hE.toEnvOk h;refine hq o ν a w r n rfl (fun x _=>hi.mA x) hi.hp (hi.fr _ (Nat.le_refl _)) next Q (fun v' w' ak hp=>?_)
  have sR:∀ (k':ay→Prop),vx H nb k'→∃ H',k' H'∧bu F ak tmps H' a w':=fun k' Jp=>hi.quiet hp Jp
  -- first the new block, then the slot
  cases hd:o.dst with
  | none =>
   rw [hd] at rC;obtain ⟨H',h1,J⟩:=sR _ rC;exact hk _ _ _ _ _ J h1
  | some d =>
   rw [hd] at rC;obtain ⟨h1,J⟩:=oV rC;obtain ⟨H',h3,h4⟩:=sR _ J;refine hk ak (tmps.set d v) H' _ w' ⟨?_,h4.df,h4.hp,h4.fr,h4.kp,h4.own,h4.mono⟩ h3;rw [sj];exact h4.tm.set hp.val d
 unfold zX PO at h
 split at h
 ·rename_i t x y ho;exact Ti hE.toEnvOk ho hi h hk
 ·rename_i c ho
  split at h
  ·rename_i hc
   split at h
   ·rename_i x y t t' hx ht
    split at h
    ·rename_i hb;have hb:t=t':=Nat.eq_of_beq_eq_true hb;subst hb;obtain ⟨v,v',ak,t1,H1,w1,h,hv,aQ,bB⟩:=SQ hE.toEnvOk bL hi h o.type;obtain ⟨t2,h,hJ⟩:=aQ.dst hv h;have hx:c.args=#[x,y]:=Array.ext' hx;have ht:c.argTypes=#[t,t]:=Array.ext' ht;exact jH (by simp [ho]) (by simp [execOp,ho,resolve,hc,hx,ht,invoke,builtin,bB]) next Q (hk _ _ _ _ _ hJ h)
    ·exact quiet h
   ·exact h.elim
  ·rename_i hc
   split at h
   ·rename_i x t hx ht;obtain ⟨H1,w1,h,aQ,bB⟩:=Tk hE.toEnvOk hi h o.type;obtain ⟨t2,h,hJ⟩:=aQ.dst (.tuple [] [] rfl (fun i x y hx _=>by simp at hx)) h
    have hx:c.args=#[x]:=Array.ext' hx;have ht:c.argTypes=#[t]:=Array.ext' ht;exact jH (by simp [ho]) (by simp [execOp,ho,resolve,hc,hx,ht,invoke,builtin,bB]) next Q (hk _ _ _ _ _ hJ h)
   ·exact h.elim
  ·rename_i hc
   split at h
   ·rename_i x y t t2 hx ht;obtain ⟨xv,J,vM⟩:=kG h (hi.mA x);clear h;obtain ⟨yv,h,vN⟩:=kG J (hi.mA y);obtain ⟨v,H1,w1,h,hv,aQ,bB⟩:=LF hE.toEnvOk hi vM vN h t2 o.type;obtain ⟨t2,h,hJ⟩:=aQ.dst hv h;have hx:c.args=#[x,y]:=Array.ext' hx;have ht:c.argTypes=#[t,_]:=Array.ext' ht;exact jH (by simp [ho]) (by simp [execOp,ho,resolve,hc,hx,ht,invoke,builtin,bB]) next Q (hk _ _ _ _ _ hJ h)
   ·exact h.elim
  ·rename_i f hc;have h0:=h;obtain ⟨fv,J,hf⟩:=kG h (hi.mA f);clear h
   split at J
   ·rename_i g xa ya
    split at J
    ·rename_i G hG;obtain ⟨vs,h,fx⟩:=Fh J (fun z _=>hi.mA z)
     clear J;have J:=wO (wO h);clear h;have bc:=hE.ft g G hG;obtain ⟨ys,dj,jY,h3,h4⟩:=hf.sE;have n3:=(h3.append fx).append h4;refine ⟨fun _ _=>trivial,?_⟩
     have bB:(execOp a.eval o).run P w=.ok (.enter g ⟨(ys++c.args.toList.map a.eval)++dj⟩) w:=by
      simp only [execOp,ho,resolve,hc,jY,Deferred.ofValue,Sem.run_bind,Sem.run_pure,Result.andThen_ok,invoke,bc.enters]
      congr 2
      apply Array.ext';simp
     rw [Oper.semAt_eq _ _ _ (by simp [ho]),bB]
     refine ⟨fun h=>by simp [WF,Fence.wide] at h,?_⟩
     have zS:=bc.calls _ H _ J ν _ w (n - 1) (uR ν H) n3 hi.hp hi.fr (fun id b l h5 h6 h7=>⟨id,b,l,h5,h6,h7,rfl⟩)
     have zu:CallsIn (WF r) (n - 1) P g ⟨(ys++c.args.toList.map a.eval)++dj⟩ w _:=zS;refine zu.mono ?_
     rintro e w' ⟨v,v',ak,H',rfl,h,hv,hle,AL,Al,tN,kl⟩
     have aQ:bu F ak tmps H' a w':=hi.called hle AL Al tN kl;obtain ⟨t',h,hJ⟩:=aQ.dst hv h;exact hk _ _ _ _ _ hJ h
    ·exact quiet J
   ·rename_i l xa ya
    split at J
    ·rename_i l' G rest vS AM Ew;obtain ⟨rfl,J⟩:=J;obtain ⟨vs,J,fx⟩:=Fh J (fun z _=>hi.mA z)
     obtain ⟨ys,dj,jY,h3,h4⟩:=hf.sE;rw [vS] at h3; rw [AM] at h4;have e1:=h3.iU;have e2:=h4.iU;subst e1; subst e2;obtain ⟨fn,tm,Rn,body,hy,aaN⟩:=hE.ys l' G rest Ew _ H _ J ν _ w (n - 1) (uR ν H) (Nu.le_trans bL.nu hi.mono) fx hi.hp hi.fr (fun id b l h5 h6 h7=>⟨id,b,l,h5,h6,h7,rfl⟩)
     refine ⟨fun _ _=>trivial,?_⟩
     have bB:(execOp a.eval o).run P w=.ok (.round l' fn tm Rn body) w:=by
      simp only [execOp,ho,resolve,hc,jY,Deferred.ofValue,Sem.run_bind,Sem.run_pure,Result.andThen_ok,invoke];have e:(⟨List.map a.eval c.args.toList⟩:Array Value)=Array.map a.eval c.args:=Array.ext' (by simp)
      rw [e] at hy
      simpa using hy
     rw [Oper.semAt_eq _ _ _ (by simp [ho]),bB]
     refine ⟨fun h=>by simp [WF,Fence.wide] at h,?_⟩
     have X1:RoundIn (WF r) (n - 1) P l' fn tm Rn body w _:=aaN;refine X1.mono ?_
     rintro e w' ⟨v,v',ak,H',rfl,h,hv,hle,AL,Al,tN,kl⟩
     have aQ:bu F ak tmps H' a w':=hi.called hle AL Al tN kl;obtain ⟨t',h,hJ⟩:=aQ.dst hv h;exact hk _ _ _ _ _ hJ h
    ·exact J.elim
   ·exact J.elim
  ·exact quiet h
 ·exact quiet h
theorem yR {ops:Array Oper} {tmps:Array Value} {j:Nat} {d:Tmp} (hd:(ops[j]?).bind (·.dst)=some d):yielded ops tmps j=match tmps[d]? with | some (.bool b)=>some b | _=>none:=by
 unfold yielded;rw [hd]
 rfl
theorem Fx (hE:jU P E) (bL:k9 F E) {ops:Array Oper} {o:Oper} {ν:Nu} {tmps:List Value} {H:ay} {a:Act} {w:World} (hi:bu F ν tmps H a w) {k:SK}
  (h:xW E ops.toList o tmps H k) {next:Act→World→Prop} {Q:Exit→Act→World→Prop}
  (hk:∀ ν t' H' a' w',bu F ν t' H' a' w'→k t' H'→next a' w') :
  if Region.wanted o (yielded ops a.tmps) then o.wpIn (WF r) n P a w next Q else (∀ f,o.about P w a.eval=some f→(WF r).fn f)∧next (a.put o.dst undef) w:=by
 unfold xW at h;have skip:(dr tmps o.dst undef fun t'=>k t' H)→(∀ f,o.about P w a.eval=some f→(WF r).fn f)∧next (a.put o.dst undef) w:=fun h=>by
  obtain ⟨t',h1,J⟩:=hi.dst (.undef ν) h;exact ⟨fun _ _=>trivial,hk _ _ _ _ _ J h1⟩
 split at h
 ·rename_i hg;have:Region.wanted o (yielded ops a.tmps)=true:=by simp [Region.wanted,hg]
  rw [if_pos this];exact LI hE bL hi h hk
 ·rename_i j want hg
  split at h
  ·rename_i d hd;have cV:(ops[j]?).bind (·.dst)=some d:=by simpa using hd
   obtain ⟨v,hv,h⟩:=oU h;obtain ⟨v',oq,hr⟩:=hi.tm.get hv;have aeN:a.tmps[d]?=some v':=by simpa using oq
   have hy:=yR (tmps:=a.tmps) cV;rw [aeN] at hy
   split at h
   ·rename_i b;have:=hr.j7;subst this;have hw:Region.wanted o (yielded ops a.tmps)=(b == want):=by
     simp only [Region.wanted,hg,hy];cases b <;> cases want <;> rfl
    rw [hw];cases want <;> cases b <;> first | exact LI hE bL hi h hk | exact skip h
   ·rename_i vs;obtain ⟨ys,rfl,_⟩:=au.nR (xs:=vs.toList) hr;have hw:Region.wanted o (yielded ops a.tmps)=false:=by
     simp only [Region.wanted,hg,hy]
     rfl
    rw [hw];simp only [Bool.false_eq_true,if_false];exact skip h
   ·exact h.elim
  ·exact h.elim
theorem MB (hE:jU P E) (bL:k9 F E) {ops:Array Oper} {Q:Exit→Act→World→Prop}:∀ {l:List Oper} {idx:List Nat} {ν:Nu} {tmps:List Value} {H:ay} {a:Act} {w:World} {k:SK},
  idx.map (ops[·]?)=l.map some→bu F ν tmps H a w→nq E ops.toList l tmps H k→(∀ ν t' H' a' w',bu F ν t' H' a' w'→k t' H'→Q .normal a' w')→wpOpsIn (WF r) n P ops Q idx a w
 | [],idx,ν,tmps,H,a,w,k,he,hi,h,hk=>by
  have:idx=[]:=by cases idx with
   | nil=>rfl
   | cons=>simp at he
  subst this;exact hk _ _ _ _ _ hi h
 | o::l,idx,ν,tmps,H,a,w,k,he,hi,h,hk=>by
  cases idx with
  | nil=>simp at he
  | cons i idx =>
   simp only [List.map_cons,List.cons.injEq] at he;simp only [wpOpsIn,he.1];exact Fx hE bL hi (MA h) (fun ν t' H' a' w' aQ h'=>MB hE bL he.2 aQ h' hk)
theorem SR (hE:jU P E) (bL:k9 F E) {ops:Array Oper} {Q:Exit→Act→World→Prop} {id:Nat} {ν:Nu} {tmps:List Value} {H:ay} {a:Act} {w:World} {k:SK}
  (hi:bu F ν tmps H a w) (h:nq E ops.toList ops.toList tmps H k) (hk:∀ ν t' H' a' w',bu F ν t' H' a' w'→k t' H'→Q .normal a' w'):(Code.region id ops false).wpIn (WF r) n P Q a w:=by
 refine wpIn_region (MB hE bL ?_ hi h hk);apply List.ext_getElem?;intro i;simp only [List.getElem?_map,List.getElem?_range,Array.getElem?_toList];by_cases al:i < ops.size
 ·simp [al]
 ·simp [al]
end
open Go Go.RowKit
abbrev XK:=Nat→List Value→ay→Prop
def CE (body:List Value→ay→SK→Prop):Nat→List Value→ay→Prop
 | 0,_,_=>False
 | m+1,t,H=>body t H (CE body m)
def HW:List Value→List Nat→List Value→(List Value→Prop)→Prop
 | t,[],[],k=>k t
 | t,p::ps,x::xs,k=>yd t p x fun t'=>HW t' ps xs k
 | _,_,_,_=>False
theorem LJ:∀ {t:List Value} {ps:List Nat} {xs:List Value} {k:List Value→Prop},HW t ps xs k→ps.length=xs.length∧∃ t1,k t1∧∀ (ν:Nu) (a:Array Value) (as:List Value),bf ν t a.toList→bf ν xs as→bf ν t1 ((ps.zip as).foldl (fun t (p,v)=>t.setIfInBounds p v) a).toList
 | t,[],[],k,h=>⟨rfl,t,h,fun ν a as ha hx=>ha⟩
 | t,p::ps,x::xs,k,h=>by
  obtain ⟨al,h⟩:=oV h;obtain ⟨h1,t1,J,h3⟩:=LJ h;refine ⟨by simp [h1],t1,J,fun ν a as ha hx=>?_⟩
  obtain ⟨y,ys,rfl,k1,k2⟩:=hx.jm;refine h3 ν (a.setIfInBounds p y) ys ?_ k2;rw [Array.toList_setIfInBounds];exact ha.set k1 p
 | _,[],_::_,_,h=>h.elim
 | _,_::_,[],_,h=>h.elim
def Dq (H:ay) (id:Nat) (k:Loop→Prop):Prop :=
 gK H id fun b=>match b with
  | .b6 r=>k r
  | _=>False
def Dr (R:LoopState→Option Code→Loop) (γ:Nat) (jump:Option Code) (K:Value→ay→Prop) (H:ay):Prop :=
 Dq H γ fun r=>r=R .busy none∧jv H γ (some (.b6 (R (match jump with | none=>.ready | some _=>.done) jump))) fun H'=>K (.bool (match jump with | none=>true | some _=>false)) H'
def aaO (R:LoopState→Option Code→Loop) (γ:Nat) (t:List Value) (kn:SK) (kx:XK) (kr:SK) (H:ay):Prop :=
 Dq H γ fun r=>jv H γ none fun H'=>match r.state,r.pending with
  | .busy,_=>False
  | _,none=>kn t H'
  | _,some (.exit i)=>kx i t H'
  | _,some .ret=>kr t H'
  | _,_=>False
def vc:Env→(Env→List Oper→List Value→ay→SK→Prop)→Code→List Value→ay→SK→XK→SK→Prop
 | _,_,.skip,t,H,kn,_,_=>kn t H
 | E,_,.region _ ops false,t,H,kn,_,_=>nq E ops.toList ops.toList t H kn
 | E,D,.region _ ops true,t,H,kn,_,_=>D E ops.toList t H kn
 | E,D,.seq a b,t,H,kn,kx,kr=>vc E D a t H (fun t H=>vc E D b t H kn kx kr) kx kr
 | E,D,.cond c x y,t,H,kn,kx,kr=>bS t c fun v=>match v with
  | .bool b=>br b (vc E D x t H kn kx kr) (vc E D y t H kn kx kr)
  | _=>False
 | E,D,.block id c,t,H,kn,kx,kr=>vc E D c t H kn (fun i t H=>match Nat.beq i id with | true=>kn t H | false=>kx i t H) kr
 | _,_,.exit id,t,H,_,kx,_=>kx id t H
 | _,_,.ret,t,H,_,_,kr=>kr t H
 | E,D,.loop c,t,H,_,kx,kr =>
  (∃ I:Nat→List Value→ay→Prop,(IG E t H fun t H=>∃ n,I n t H)∧∀ n t H,I n t H→vc E D c t H (fun t H=>IG E t H fun t H=>∃ m,m < n∧I m t H) kx kr) ∨
  (∃ m,CE (fun t H k=>vc E D c t H k kx kr) m t H)
 | E,D,.rangeFunc g ps assign body,t,H,kn,kx,kr=>match E.rd with
  | true=>False
  | false=>bS t g fun gv=>match gv with
   | .func (.func f) a b=>match a.toList,E.It f with
    | [],some I=>∀ (l:Nat) (nu:Nu) (fn:FuncId) (tm:Array Value) (df:Nat),jw H fun γ=>pr H (some (.b6 ⟨.ready,none,fn,tm,ps,assign,body,df⟩)) fun H1 =>
     I l (fun args H K=>Dq H γ fun r=>r=⟨.ready,none,fn,tm,ps,assign,body,df⟩∧HW t ps.toList args fun t1=>jw H fun n0 =>
       vc { E with base:=n0,rd:=true } D assign t1 H (fun t2 H2=>Dq H2 γ fun r2=>r2=⟨.ready,none,fn,tm,ps,assign,body,df⟩∧jv H2 γ (some (.b6 ⟨.busy,none,fn,tm,ps,assign,body,df⟩)) fun H3 =>
         vc { E with base:=n0,rd:=true } D body t2 H3 (fun _ H4=>Dr (fun s p=>⟨s,p,fn,tm,ps,assign,body,df⟩) γ none K H4) (fun i _ H4=>Dr (fun s p=>⟨s,p,fn,tm,ps,assign,body,df⟩) γ (some (.exit i)) K H4)
          (fun _ H4=>Dr (fun s p=>⟨s,p,fn,tm,ps,assign,body,df⟩) γ (some .ret) K H4))
        (fun _ _ _=>False) (fun _ _=>False))
      nu (.func (.yield l) #[] #[]::b.toList) H1 fun _ H2=>aaO (fun s p=>⟨s,p,fn,tm,ps,assign,body,df⟩) γ t kn kx kr H2
    | _,_=>False
   | _=>False
 | _,_,_,_,_,_,_,_=>False
def w6 (E:Env) (H:ay) (tmps:List Value):List ResultVar→(List Value→Prop)→Prop
 | [],k=>k []
 | .tmp t::l,k=>qY tmps t fun v=>w6 E H tmps l fun vs=>k (v::vs)
 | .cell a t::l,k=>qY tmps a fun av=>match av with
  | .pointer (some ⟨id,row,sp⟩)=>cJ E.tt t fun ti=>gK H id fun b=>Is b row fun cs=>uY cs (sp.getD 0) ti.size fun us=>w6 E H tmps l fun vs=>k (valOf ti.agg us::vs)
  | _=>False
def DS (vs:List Value) (k:Value→Prop):Prop :=
 match vs with
 | [v]=>k v
 | vs=>k (.tuple ⟨vs⟩)
def xH:Value→Bool
 | .bool _ | .int _ _ | .string _ | .pointer none | .nilFunc=>true
 | .agg cs=>jJ cs.toList
 | .func _ a b=>a.toList.isEmpty && b.toList.isEmpty
 | _=>false
def uk:List Value→Bool
 | []=>true
 | v::l=>xH v && uk l
def C3:Value→Bool
 | .tuple vs=>uk vs.toList
 | .func _ a b=>uk a.toList && uk b.toList
 | v=>xH v
theorem bf.MC {ν:Nu}:∀ {l:List Value},jJ l=true→bf ν l l
 | [],_=>.nil ν
 | v::l,h=>by
  simp only [jJ,Bool.and_eq_true] at h;exact .cons (au.kH h.1) (bf.MC h.2)
theorem Ld {v:Value} (h:xH v=true):(∀ ν,au ν v v)∧∀ ν w,au ν v w→w=v:=by
 cases v with
 | bool b=>exact ⟨fun ν=>.bool b,fun ν w hw=>hw.j7⟩
 | int k n=>exact ⟨fun ν=>.int k n,fun ν w hw=>hw.fN⟩
 | string s=>exact ⟨fun ν=>.str s,fun ν w hw=>hw.sL⟩
 | pointer a =>
  cases a with
  | none=>exact ⟨fun ν=>.mD,fun ν w hw=>by cases hw; rfl⟩
  | some a=>simp [xH] at h
 | nilFunc=>exact ⟨fun ν=>.mE,fun ν w hw=>by cases hw; rfl⟩
 | agg cs =>
  have h':jJ cs.toList=true:=h;refine ⟨fun ν=>?_,fun ν w hw=>?_⟩
  ·have:=bf.MC (ν:=ν) h';exact .agg _ _ this.1 this.2
  ·obtain ⟨ys,rfl,hy⟩:=au.uO (xs:=cs.toList) hw;rw [bf.kJ (yI h') hy]
 | func fn a b =>
  simp only [xH,Bool.and_eq_true,List.isEmpty_iff] at h;refine ⟨fun ν=>?_,fun ν w hw=>?_⟩
  ·have e1:a=⟨[]⟩:=Array.ext' h.1;have e2:b=⟨[]⟩:=Array.ext' h.2;subst e1; subst e2;exact .func fn [] [] [] [] rfl (fun i x y hx _=>by simp at hx) rfl (fun i x y hx _=>by simp at hx)
  ·obtain ⟨ys,dj,rfl,h1,J⟩:=hw.sE;rw [h.1] at h1; rw [h.2] at J;rw [h1.iU,J.iU];rw [Array.ext' (xs:=a) (ys:=⟨[]⟩) h.1,Array.ext' (xs:=b) (ys:=⟨[]⟩) h.2]
 | _=>simp [xH] at h
theorem Bn:∀ {l:List Value},uk l=true→(∀ ν,bf ν l l)∧∀ ν m,bf ν l m→m=l
 | [],_=>⟨fun ν=>.nil ν,fun ν m hm=>hm.iU⟩
 | v::l,h=>by
  simp only [uk,Bool.and_eq_true] at h;obtain ⟨h1,J⟩:=Ld h.1;obtain ⟨h3,h4⟩:=Bn h.2;refine ⟨fun ν=>.cons (h1 ν) (h3 ν),fun ν m hm=>?_⟩
  obtain ⟨y,ys,rfl,k1,k2⟩:=hm.jm;rw [J ν y k1,h4 ν ys k2]
theorem wE {v:Value} (h:C3 v=true):(∀ ν,au ν v v)∧∀ ν w,au ν v w→w=v:=by
 cases v with
 | tuple vs =>
  have h':uk vs.toList=true:=h;obtain ⟨h1,J⟩:=Bn h';refine ⟨fun ν=>.tuple _ _ (h1 ν).1 (h1 ν).2,fun ν w hw=>?_⟩
  obtain ⟨ys,rfl,hy⟩:=au.nR (xs:=vs.toList) hw;rw [J ν ys hy]
 | func fn a b =>
  simp only [C3,Bool.and_eq_true] at h;obtain ⟨h1,J⟩:=Bn h.1;obtain ⟨h3,h4⟩:=Bn h.2;refine ⟨fun ν=>.func fn _ _ _ _ (h1 ν).1 (h1 ν).2 (h3 ν).1 (h3 ν).2,fun ν w hw=>?_⟩
  obtain ⟨ys,dj,rfl,k1,k2⟩:=hw.sE;rw [J ν ys k1,h4 ν dj k2]
 | _=>exact Ld h
def BY:List Value→Bool
 | []=>true
 | v::l=>C3 v && BY l
theorem E6:∀ {l:List Value},BY l=true→(∀ ν,bf ν l l)∧∀ ν m,bf ν l m→m=l
 | [],_=>⟨fun ν=>.nil ν,fun ν m hm=>hm.iU⟩
 | v::l,h=>by
  simp only [BY,Bool.and_eq_true] at h;obtain ⟨h1,J⟩:=wE h.1;obtain ⟨h3,h4⟩:=E6 h.2;refine ⟨fun ν=>.cons (h1 ν) (h3 ν),fun ν m hm=>?_⟩
  obtain ⟨y,ys,rfl,k1,k2⟩:=hm.jm;rw [J ν y k1,h4 ν ys k2]
def nC (P:Program) (D:Env→List Oper→List Value→ay→SK→Prop):Prop :=
 ∀ (E:Env),jU P E→∀ (r:Option Nat) (n:Nat) (F:Fr),k9 F E→∀ (ops:Array Oper) (Q:Exit→Act→World→Prop) (id:Nat) (ν:Nu) (tmps:List Value) (H:ay) (a:Act) (w:World) (k:SK),
  bu F ν tmps H a w→D E ops.toList tmps H k→(∀ ν t' H' a' w',bu F ν t' H' a' w'→k t' H'→Q .normal a' w')→(Code.region id ops true).wpIn (WF r) n P Q a w
section
variable {P:Program} {E:Env} {r:Option Nat} {n:Nat} {F:Fr} {D:Env→List Oper→List Value→ay→SK→Prop}
theorem bu.Oj {F:Fr} {ν:Nu} {t:List Value} {H:ay} {a:Act} {w:World} (hi:bu F ν t H a w) {γ:Nat} {r:Loop} {l:Loc} (r':Loop) (hb:H[γ]?=some (some (.b6 r))) (hl:ν γ=some l) :
  bu F ν t (H.set γ (some (.b6 r'))) a (w.putObj l.aL (.loop r')):=by
 have al:γ < H.length:=(List.getElem?_eq_some_iff.1 hb).1;obtain ⟨l',cC,hB⟩:=hi.hp.aL γ _ hb;rw [hl] at cC; cases cC;have DT:=hB.lr r rfl;have hw:l.aL < w.heap.size:=(Array.getElem?_eq_some_iff.1 DT).1;have dg:∀ (id:Nat) (b:ai),(H.set γ (some (.b6 r')))[id]?=some (some b)→(id=γ∧b=.b6 r')∨(id≠γ∧H[id]?=some (some b)):=fun id b h=>by
  by_cases e:id=γ
  ·subst e; rw [List.getElem?_set_self al] at h; cases h; exact .inl ⟨rfl,rfl⟩
  ·rw [List.getElem?_set_ne (Ne.symm e)] at h; exact .inr ⟨e,h⟩
 refine ⟨hi.tm,BX hi.df fun D hD=>(World.putObj_heap_other (fun e=>by rw [e,DT] at hD; cases hD)).trans hD,⟨fun id b h=>?_,fun i j bi bj li lj h1 J aD ho e1 e2=>?_⟩,fun id bm=>hi.fr id (by simpa using bm),
  hi.kp.then (O':=fun x=>x=l.aL) ⟨rfl,rfl,rfl,by simp,fun b h1 J=>World.putObj_heap_other J⟩ (fun b bE=>by subst bE; exact hi.own γ _ _ hb rfl hl),fun id b l' h ho cC=>?_,hi.mono⟩
 ·rcases dg id b h with ⟨rfl,rfl⟩ | ⟨aD,h⟩
  ·exact ⟨l,hl,hB.ae,fun r hr=>absurd hr (Nat.not_lt_zero r),fun r hr=>absurd hr (Nat.not_lt_zero r),(fun h=>nomatch h),fun r hr=>absurd hr (Nat.not_lt_zero r),(fun _ h=>nomatch h),fun r hr=>by cases hr; exact World.putObj_heap_same hw,by simpa using hw⟩
  ·obtain ⟨l',cC,hB'⟩:=hi.hp.aL id b h;exact ⟨l',cC,hB'.same (World.putObj_heap_other (Ne.symm (hi.hp.sep γ id _ b l l' hb h (Ne.symm aD) rfl hl cC))) (by simp)⟩
 ·rcases dg i bi h1 with ⟨rfl,rfl⟩ | ⟨hni,g1⟩ <;> rcases dg j bj J with ⟨rfl,rfl⟩ | ⟨hnj,g2⟩
  ·exact absurd rfl aD
  ·exact hi.hp.sep _ j _ bj li lj hb g2 aD rfl e1 e2
  ·exact hi.hp.sep i _ bi _ li lj g1 hb aD ho e1 e2
  ·exact hi.hp.sep i j bi bj li lj g1 g2 aD ho e1 e2
 ·rcases dg id b h with ⟨rfl,rfl⟩ | ⟨aD,h⟩
  ·exact hi.own _ _ _ hb rfl cC
  ·exact hi.own id b l' h ho cC
theorem Wm (hD:nC P D):∀ (c:Code) {E:Env} {r:Option Nat} {n:Nat} {F:Fr},jU P E→k9 F E→(E.rd=false→r=none)→∀ {ν:Nu} {t:List Value} {H:ay} {a:Act} {w:World} {kn:SK} {kx:XK} {kr:SK} {Q:Exit→Act→World→Prop},
  bu F ν t H a w→vc E D c t H kn kx kr→(∀ ν t H a w,bu F ν t H a w→kn t H→Q .normal a w)→(∀ i ν t H a w,bu F ν t H a w→kx i t H→Q (.exit i) a w) →
  (∀ ν t H a w,bu F ν t H a w→kr t H→Q .ret a w)→c.wpIn (WF r) n P Q a w:=by
 intro c
 induction c with
 | skip=>exact fun hE bL fC=>fun hi h hn _ _=>wpIn_skip (hn _ _ _ _ _ hi h)
 | region id ops d =>
  intro E r n F hE bL fC ν t H a w kn kx kr Q hi h hn _ _;cases d with
  | false=>exact SR hE bL hi h hn
  | true=>exact hD E hE r n F bL ops Q id ν t H a w kn hi h hn
 | seq x y Jy Jz =>
  intro E r n F hE bL fC ν t H a w kn kx kr Q hi h hn hx hr;exact wpIn_seq (Jy hE bL fC hi h (fun ν t H a w aQ h'=>Jz hE bL fC aQ h' hn hx hr) hx hr)
 | cond c x y Jy Jz =>
  intro E r n F hE bL fC ν t H a w kn kx kr Q hi h hn hx hr;obtain ⟨v,h,hv⟩:=kG h (hi.mA c)
  split at h
  ·rename_i b;have hb:=hv.j7;exact wpIn_cond_split hb (fun e=>Jy hE bL fC hi (CB h e) hn hx hr) (fun e=>Jz hE bL fC hi (Ch h e) hn hx hr)
  ·exact h.elim
 | block id c ih =>
  intro E r n F hE bL fC ν t H a w kn kx kr Q hi h hn hx hr;refine wpIn_block (ih hE bL fC hi h hn (fun i ν t H a w aQ h'=>?_) hr)
  simp only [Exit.inBlock]
  split at h'
  ·rename_i e;rw [if_pos (Nat.eq_of_beq_eq_true e)]; exact hn _ _ _ _ _ aQ h'
  ·rename_i e;rw [if_neg (Nat.ne_of_beq_eq_false e)]; exact hx _ _ _ _ _ _ aQ h'
 | loop c ih =>
  intro E r n F hE bL fC ν t H a w kn kx kr Q hi h hn hx hr;rcases h with ⟨I,h00,ve⟩ | ⟨m,hm⟩
  ·-- by an invariant
   obtain ⟨ν,t,H,⟨m0,h0⟩,hi⟩:=Mz bL hi h00;have key:∀ (m:Nat) ν t H a w,bu F ν t H a w→I m t H→∀ (b:Frame) (k:List Item) (cs:List Frame),b.roundOf=(WF r).round→(WF r).fn b.fn→(WF r).room (cs.length+1+n) →
     ∃ e a' w',Q e a' w'∧ArrivesIn (Machine.fenced P (WF r)) P (lone (b.atR a (.code c::.inLoop c::k)) cs w) b k cs e a' w':=by
    intro m
    induction m using Nat.strongRecOn with
    | _ m JA =>
     intro ν t H a w hi hI b k cs nD hb cP;have:=ih hE bL fC (Q:=fun e a w=>match e with | .normal=>∃ m' ν t H,m' < m∧bu F ν t H a w∧I m' t H | e=>Q e a w) hi (ve m t H hI)
      (fun ν t H a w aQ h'=>let ⟨ν2,t2,H2,⟨m',al,AN⟩,hJ⟩:=Mz bL aQ h'; ⟨m',ν2,t2,H2,al,hJ,AN⟩) hx hr b (.inLoop c::k) cs nD hb cP
     obtain ⟨e,mI,mJ,hq,jW⟩:=this;cases e with
     | normal =>
      obtain ⟨m',ak,t',H',al,aQ,AN⟩:=hq;obtain ⟨IH,IJ,IK,HX,GV⟩:=JA m' al ak t' H' mI mJ aQ AN b k cs nD hb cP;exact ⟨IH,IJ,IK,HX,.of_steps (StepsIn.trans jW (.one (fenced_calm hb cP rfl) stepR_inLoop)) GV⟩
     | exit id=>exact ⟨_,mI,mJ,hq,.pass (x:=.inLoop c) rfl (fun _ _=>.inl (by simp)) jW⟩
     | goto l=>exact ⟨_,mI,mJ,hq,.pass (x:=.inLoop c) rfl (fun _ _=>.inl (by simp)) jW⟩
     | ret=>exact ⟨_,mI,mJ,hq,.pass (x:=.inLoop c) rfl (fun _ _=>.inl (by simp)) jW⟩
     | panic ch=>exact ⟨_,mI,mJ,hq,.pass (x:=.inLoop c) rfl (fun _ _=>.inl (by simp)) jW⟩
     | outgrown=>exact ⟨_,mI,mJ,hq,.pass (x:=.inLoop c) rfl (fun _ _=>.inl (by simp)) jW⟩
   intro b k cs nD hb cP;obtain ⟨e,a',w',hq,jW⟩:=key m0 ν t H a w hi h0 b k cs nD hb cP;exact ⟨e,a',w',hq,.of_steps (.one (fenced_calm hb cP rfl) stepR_loop) jW⟩
  ·-- round by round
   have key:∀ (m:Nat) ν t H a w,bu F ν t H a w→CE (fun t H k=>vc E D c t H k kx kr) m t H→∀ (b:Frame) (k:List Item) (cs:List Frame),b.roundOf=(WF r).round→(WF r).fn b.fn→(WF r).room (cs.length+1+n) →
     ∃ e a' w',Q e a' w'∧ArrivesIn (Machine.fenced P (WF r)) P (lone (b.atR a (.code c::.inLoop c::k)) cs w) b k cs e a' w':=by
    intro m
    induction m with
    | zero=>exact fun ν t H a w _ h=>h.elim
    | succ m JA =>
     intro ν t H a w hi hI b k cs nD hb cP;have:=ih hE bL fC (Q:=fun e a w=>match e with | .normal=>∃ ν t H,bu F ν t H a w∧CE (fun t H k=>vc E D c t H k kx kr) m t H | e=>Q e a w) hi hI
      (fun ν t H a w aQ h'=>⟨ν,t,H,aQ,h'⟩) hx hr b (.inLoop c::k) cs nD hb cP
     obtain ⟨e,mI,mJ,hq,jW⟩:=this;cases e with
     | normal =>
      obtain ⟨ak,t',H',aQ,AN⟩:=hq;obtain ⟨IH,IJ,IK,HX,GV⟩:=JA ak t' H' mI mJ aQ AN b k cs nD hb cP;exact ⟨IH,IJ,IK,HX,.of_steps (StepsIn.trans jW (.one (fenced_calm hb cP rfl) stepR_inLoop)) GV⟩
     | exit id=>exact ⟨_,mI,mJ,hq,.pass (x:=.inLoop c) rfl (fun _ _=>.inl (by simp)) jW⟩
     | goto l=>exact ⟨_,mI,mJ,hq,.pass (x:=.inLoop c) rfl (fun _ _=>.inl (by simp)) jW⟩
     | ret=>exact ⟨_,mI,mJ,hq,.pass (x:=.inLoop c) rfl (fun _ _=>.inl (by simp)) jW⟩
     | panic ch=>exact ⟨_,mI,mJ,hq,.pass (x:=.inLoop c) rfl (fun _ _=>.inl (by simp)) jW⟩
     | outgrown=>exact ⟨_,mI,mJ,hq,.pass (x:=.inLoop c) rfl (fun _ _=>.inl (by simp)) jW⟩
   intro b k cs nD hb cP;obtain ⟨e,a',w',hq,jW⟩:=key m ν t H a w hi hm b k cs nD hb cP;exact ⟨e,a',w',hq,.of_steps (.one (fenced_calm hb cP rfl) stepR_loop) jW⟩
 | exit id=>exact fun hE bL fC=>fun hi h _ hx _=>wpIn_exit (hx _ _ _ _ _ _ hi h)
 | ret=>exact fun hE bL fC=>fun hi h _ _ hr=>wpIn_ret (hr _ _ _ _ _ hi h)
 | rangeFunc g ps assign body iha ihb =>
  intro E r n F hE bL fC ν t H a w kn kx kr Q hi h hn hx hr;unfold vc at h
  split at h
  ·exact h.elim
  rename_i aeO;obtain rfl:=fC aeO;obtain ⟨gv,h,hg⟩:=kG h (hi.mA g)
  split at h
  ·rename_i f xa ya
   split at h
   ·rename_i I vS hI;obtain ⟨zs,JB,eK,hz,ow⟩:=hg.sE;rw [vS] at hz;have pO:=hz.iU;subst pO;have Ro:=hE.Jo f I hI;refine wpIn_rangeFunc ?_;intro fn hfn;obtain ⟨W1,AO⟩:∃ W1,W1=(w.alloc (.deferred (some []))).alloc (.loop { state:=.ready,pending:=none,fn,tmps:=a.tmps,params:=ps,assign,body,defers:=w.heap.size }):=⟨_,rfl⟩;refine ⟨w.heap.size+1,[{ target:=.collected w.heap.size,args:=#[] }],W1,{ target:=.fn (.func f) ⟨JB⟩,args:=#[.func (.yield (w.heap.size+1)) #[] #[]] },W1,f,
     #[.func (.yield (w.heap.size+1)) #[] #[]]++⟨JB⟩,W1,by rw [AO]; exact run_enterLoop_outer _ _ _ _ _,?_,fun _ _=>trivial,?_,fun h=>by simp [WF,Fence.wide] at h,?_⟩
    ·simp only [resolve,eK];simp [go_sem]
    ·simp [invoke,go_sem,Ro.enters]
    -- the record's block
    have nf:ν H.length=none:=hi.fr _ (Nat.le_refl _);obtain ⟨gn,Am⟩:∃ gn,gn=ν.add H.length ⟨w.heap.size+1,0,0,0⟩:=⟨_,rfl⟩;have tb:ν.le gn:=by rw [Am]; exact Nu.kd nf
    have h:=yO (mr (h (w.heap.size+1) gn fn a.tmps w.heap.size));have IL:Below w.heap.size w W1:=by
     rw [AO]; exact ((Below.refl _ w).alloc (Nat.le_refl _) _).alloc (by simp) _
    have aW:W1.heap.size=w.heap.size+2:=by rw [AO]; simp
    have DT:W1.heap[w.heap.size+1]?=some (.loop { state:=.ready,pending:=none,fn,tmps:=a.tmps,params:=ps,assign,body,defers:=w.heap.size }):=by
     rw [AO]; have:=World.alloc_heap_new (w.alloc (.deferred (some []))) (.loop { state:=.ready,pending:=none,fn,tmps:=a.tmps,params:=ps,assign,body,defers:=w.heap.size }); rwa [World.size_alloc] at this
    have adf:W1.heap[w.heap.size]?=some (.deferred (some [])):=by
     rw [AO]; exact (Below.heap_alloc _ _ _ (by simp)).trans (World.alloc_heap_new w _)
    have mc:bU gn (H++[some (.b6 { state:=.ready,pending:=none,fn,tmps:=a.tmps,params:=ps,assign,body,defers:=w.heap.size })]) W1:=by
     rw [Am];refine hi.hp.push (b:=.b6 { state:=.ready,pending:=none,fn,tmps:=a.tmps,params:=ps,assign,body,defers:=w.heap.size }) IL nf _ (fun j c hj=>?_) (by simp) ⟨rfl,fun r hr=>absurd hr (Nat.not_lt_zero r),fun r hr=>absurd hr (Nat.not_lt_zero r),(fun h=>nomatch h),fun r hr=>absurd hr (Nat.not_lt_zero r),(fun _ h=>nomatch h),fun r hr=>by cases hr; exact DT,by rw [aW]; simp⟩
     rw [List.getElem?_append] at hj
     split at hj
     ·rename_i al;exact .inr ⟨by omega,hj⟩
     ·rename_i eK;have:j - H.length=0:=by
       rcases Nat.eq_zero_or_pos (j - H.length) with e | e
       ·exact e
       ·rw [List.getElem?_eq_none (by simp; omega)] at hj; cases hj
      rw [this] at hj;simp at hj;exact .inl ⟨by omega,hj.symm⟩
    have aeP:∀ id,(H++[some (ai.b6 { state:=.ready,pending:=none,fn,tmps:=a.tmps,params:=ps,assign,body,defers:=w.heap.size })]).length≤id→gn id=none:=fun id bm=>by
     rw [List.length_append] at bm;rw [Am,Nu.iV (by simp at bm; omega)]
     exact hi.fr id (by simp at bm; omega)
    have n3:bf gn (.func (.yield (w.heap.size+1)) #[] #[]::ya.toList) (#[Value.func (.yield (w.heap.size+1)) #[] #[]]++(⟨JB⟩:Array Value)).toList:=by
     simp only [Array.toList_append];exact .cons (.func _ [] [] [] [] rfl (fun i x y hx _=>by simp at hx) rfl (fun i x y hx _=>by simp at hx)) (ow.mono tb)
    have yz:gn H.length=some ⟨w.heap.size+1,0,0,0⟩:=by rw [Am]; exact Nu.add_same
    refine (Ro.calls _ _ gn ?_ _ _ _ h gn _ W1 (n - 1) (uR gn (H++[some (.b6 { state:=.ready,pending:=none,fn,tmps:=a.tmps,params:=ps,assign,body,defers:=w.heap.size })])) (fun _ _ h=>h) n3 mc aeP (fun id b l h1 J h3=>⟨id,b,l,h1,J,h3,rfl⟩)).mono ?_
    ·intro xs Hy K hG vT as wy m O IM nE Rp DU adg;obtain ⟨by0,aeQ,hG⟩:=gD hG
     split at hG
     ·rename_i ry;obtain ⟨rfl,hG⟩:=hG;obtain ⟨ly,JC,hBy⟩:=Rp.aL _ _ aeQ;have Qv:=IM _ _ yz;rw [JC] at Qv; cases Qv;have adh:=hBy.lr _ rfl;obtain ⟨hlen,t1,hG,Rq⟩:=LJ hG;have hG:=mr hG;have DV:(⟨as⟩:Array Value).size=ps.size:=by
       have:=nE.1;simp at this ⊢
       simpa [this] using hlen.symm
      refine ⟨fn,_,assign,body,run_yield adh DV,roundIn_of_wpIn trivial ?_⟩;have eY:jU P { E with base:=Hy.length,rd:=true }:=⟨⟨hE.ty,hE.eq,hE.fn,hE.ft⟩,hE.Jo,hE.ys⟩
      have vU:k9 ⟨wy,O,vT,Hy.length,DU⟩ { E with base:=Hy.length,rd:=true }:=⟨Nat.le_refl _,Nu.le_trans bL.nu (Nu.le_trans hi.mono (Nu.le_trans tb IM))⟩
      have hJ:bu ⟨wy,O,vT,Hy.length,DU⟩ vT t1 Hy { tmps:=(ps.zip ⟨as⟩).foldl (fun tmps (t,a)=>tmps.setIfInBounds t a) a.tmps,defers:=[] } wy:=by
       refine ⟨?_,Marks.nil _ _,Rp,DU,Kept.refl wy,fun id b l h1 J h3=>.inl (adg id b l h1 J h3),vT.le_refl⟩
       have:=Rq vT a.tmps as (hi.tm.mono (Nu.le_trans tb IM)) nE;rw [← Array.foldl_toList]
       simpa using this
      refine iha (r:=some (w.heap.size+1)) eY vU (fun h=>by cases h) hJ hG ?_ (fun _ _ _ _ _ _ _ h=>h.elim) (fun _ _ _ _ _ _ h=>h.elim)
      intro ν5 t5 H5 a5 w5 JD h5;obtain ⟨b5,Rr,h5⟩:=gD h5
      split at h5
      ·rename_i r5;obtain ⟨rfl,h5⟩:=h5;obtain ⟨afJ,h5⟩:=mq h5;obtain ⟨l5,Rs,hB5⟩:=JD.hp.aL _ _ Rr;have Qw:=JD.mono _ _ JC;rw [Rs] at Qw; cases Qw;have adi:=hB5.lr _ rfl;refine ⟨_,run_beginRound adi rfl,?_⟩;have hi6:=JD.Oj { state:=.busy,pending:=none,fn,tmps:=a.tmps,params:=ps,assign,body,defers:=w.heap.size } Rr Rs;have fin:∀ (jump:Option Code) JE t7 H7 a7 w7,bu ⟨wy,O,vT,Hy.length,DU⟩ JE t7 H7 a7 w7→Dr (fun s p=>⟨s,p,fn,a.tmps,ps,assign,body,w.heap.size⟩) H.length jump K H7 →
         ∃ v w',(Instr.endRound (w.heap.size+1) jump).run P w7=.ok v w'∧Hq K vT O wy (.returned v) w':=by
        intro jump JE t7 H7 a7 w7 JF h7;obtain ⟨b7,Rt,h7⟩:=gD h7
        split at h7
        ·rename_i r7;obtain ⟨rfl,h7⟩:=h7;obtain ⟨afK,h7⟩:=mq h7;obtain ⟨l7,Ru,hB7⟩:=JF.hp.aL _ _ Rt;have Qx:=JF.mono _ _ JC;rw [Ru] at Qx; cases Qx;have adj:=hB7.lr _ rfl;have he:=run_endRound (P:=P) jump adj;refine ⟨_,_,he,?_⟩;have AP:=JF.Oj { state:=if jump.isNone then .ready else .done,pending:=jump,fn,tmps:=a.tmps,params:=ps,assign,body,defers:=w.heap.size } Rt Ru
         refine ⟨.bool jump.isNone,_,JE,_,rfl,?_,.bool _,AP.mono,AP.hp,AP.fr,AP.kp,AP.own⟩;cases jump <;> exact h7
        ·exact h7.elim
       refine ihb (r:=some (w.heap.size+1)) eY vU (fun h=>by cases h) hi6 h5 (fun ν t H a w hi h=>fin none _ _ _ _ _ hi h) (fun i ν t H a w hi h=>fin (some (.exit i)) _ _ _ _ _ hi h) (fun ν t H a w hi h=>fin (some .ret) _ _ _ _ _ hi h)
      ·exact h5.elim
     ·exact hG.elim
    ·rintro e w3 ⟨v,v',ν3,H3,rfl,h3,JG,IN,Ex,aeR,Qy,adk⟩
     obtain ⟨b3,tO,h3⟩:=gD h3
     split at h3
     ·rename_i r3;obtain ⟨aeS,h3⟩:=mq h3;obtain ⟨l3,Rv,hB3⟩:=Ex.aL _ _ tO;have Qz:=IN _ _ yz;rw [Rv] at Qz; cases Qz;have HY:w3.heap[w.heap.size+1]?=some (.loop r3):=hB3.lr r3 rfl;have al:w.heap.size+1 < w3.heap.size:=(Array.getElem?_eq_some_iff.1 HY).1;have Ey:bu F ν3 t (H3.set H.length none) { a with defers:=[{ target:=.collected w.heap.size,args:=#[] }]++a.defers } (w3.putObj (w.heap.size+1) (.loop { r3 with state:=.exhausted })):=by
       have HZ:∀ x,uR gn (H++[some (.b6 { state:=.ready,pending:=none,fn,tmps:=a.tmps,params:=ps,assign,body,defers:=w.heap.size })]) x→(F.O x∨F.W.heap.size≤x)∧W1.heap[x]?≠some (.deferred (some [])):=by
        rintro x ⟨id,c,l,h1,J,h3,rfl⟩
        obtain ⟨l',h4,hB⟩:=mc.aL id c h1;rw [h3] at h4; cases h4;refine ⟨?_,fun hd=>?_⟩
        ·by_cases bm:id < H.length
         ·rw [List.getElem?_append_left bm] at h1;rw [Am,Nu.iV (by omega)] at h3
          exact hi.own id c l h1 J h3
         ·have:id=H.length:=by
           have:=(List.getElem?_eq_some_iff.1 h1).1;simp at this; omega
          subst this;rw [yz] at h3; cases h3;exact .inr (by have:=hi.kp.size; show _≤w.heap.size+1; omega)
        ·cases hr:c.rc with
         | none=>obtain ⟨cur,tt,h5,_⟩:=hB.own J hr; rw [h5] at hd; cases hd
         | some r=>rw [hB.lr r hr] at hd; cases hd
       have PQ:∀ D:Nat,W1.heap[D]?=some (Obj.deferred (some []))→(w3.putObj (w.heap.size+1) (.loop { r3 with state:=.exhausted })).heap[D]?=some (Obj.deferred (some [])):=fun D hD=>by
        have JH:=(Qy.aL D (Array.getElem?_eq_some_iff.1 hD).1 (fun h=>(HZ D h).2 hD)).trans hD
        exact (World.putObj_heap_other (fun e=>by rw [e,HY] at JH; cases JH)).trans JH
       have dg:∀ (id:Nat) (b:ai),(H3.set H.length none)[id]?=some (some b)→id≠H.length∧H3[id]?=some (some b):=fun id b hb=>by
        by_cases e:id=H.length
        ·subst e; rw [List.getElem?_set_self aeS] at hb; cases hb
        ·rw [List.getElem?_set_ne (Ne.symm e)] at hb; exact ⟨e,hb⟩
       refine ⟨hi.tm.mono (Nu.le_trans tb IN),?_,⟨fun id b hb=>?_,fun i j bi bj li lj h1 J=>?_⟩,fun id bm=>aeR id (by simpa using bm),?_,fun id b l hb ho hl=>?_,Nu.le_trans hi.mono (Nu.le_trans tb IN)⟩
       ·refine ⟨List.nodup_cons.2 ⟨fun hm=>?_,hi.df.1⟩,fun d hd=>?_⟩
        ·obtain ⟨D,e,_,hD⟩:=hi.df.2 _ hm;have:=(Array.getElem?_eq_some_iff.1 hD).1;cases e;omega
        ·rcases List.mem_cons.1 hd with rfl | hd
         ·exact ⟨_,rfl,hi.kp.size,PQ _ adf⟩
         ·obtain ⟨D,e,h0,hD⟩:=hi.df.2 d hd;exact ⟨D,e,h0,PQ D ((IL.block D (Array.getElem?_eq_some_iff.1 hD).1).trans hD)⟩
       ·obtain ⟨aD,hb⟩:=dg id b hb;obtain ⟨l,hl,hB⟩:=Ex.aL id b hb;have IA:=Ex.sep _ id _ b _ l tO hb (Ne.symm aD) rfl Rv hl;exact ⟨l,hl,hB.same (World.putObj_heap_other (Ne.symm IA)) (by simp)⟩
       ·exact Ex.sep i j bi bj li lj (dg i bi h1).2 (dg j bj J).2
       ·refine (hi.kp.below IL).then (Qy.then (O':=fun x=>x=w.heap.size+1) ⟨rfl,rfl,rfl,by simp,fun b h1 J=>World.putObj_heap_other J⟩ (fun b hb=>.inl (by subst hb; exact ⟨H.length,.b6 { state:=.ready,pending:=none,fn,tmps:=a.tmps,params:=ps,assign,body,defers:=w.heap.size },_,by simp,rfl,yz,rfl⟩))) (fun b hb=>(HZ b hb).1)
       ·rcases adk id b l (dg id b hb).2 ho hl with h | h
        ·exact (HZ _ h).1
        ·exact .inr (by have:=hi.kp.size; omega)
      by_cases PR:r3.state=.busy
      ·rw [PR] at h3; exact h3.elim
      ·have he:=run_endLoop (P:=P) HY PR;generalize w3.putObj (w.heap.size+1) (.loop { r3 with state:=.exhausted })=w4 at Ey he
       refine ⟨r3.pending,w4,he,?_⟩;clear he;have pick:∀ {X:Prop},(match r3.state,r3.pending with
        | .busy,_=>False
        | _,none=>kn t (H3.set H.length none)
        | _,some (.exit i)=>kx i t (H3.set H.length none)
        | _,some .ret=>kr t (H3.set H.length none)
        | _,_=>False)→(∀ s,(match (generalizing:=false) s,r3.pending with
        | LoopState.busy,_=>False
        | _,none=>kn t (H3.set H.length none)
        | _,some (.exit i)=>kx i t (H3.set H.length none)
        | _,some .ret=>kr t (H3.set H.length none)
        | _,_=>False)→X)→X:=fun h k=>k _ h
       refine pick h3 fun s h3=>?_
       cases hp:r3.pending with
       | none =>
        rw [hp] at h3;cases s <;> first | exact h3.elim | exact hn _ _ _ _ _ Ey h3
       | some c =>
        rw [hp] at h3;cases c <;> cases s <;> first | exact h3.elim | exact wpIn_exit (hx _ _ _ _ _ _ Ey h3) | exact wpIn_ret (hr _ _ _ _ _ Ey h3)
     ·exact h3.elim
   ·exact h.elim
  ·exact h.elim
 | _=>exact fun _ _ _=>fun _ h _ _ _=>h.elim
def zY (tmps:Array Value):ResultVar→Sem Value
 | .tmp t=>pure (tmps.getD t undef)
 | .cell x t=>do loadVar t (← asAddr (tmps.getD x undef))
theorem TU (fn:Func) (tmps:Array Value):results fn tmps=(do let vs ← fn.results.mapM (zY tmps); pure (if h:vs.size=1 then vs[0] else .tuple vs)):=rfl
theorem TW (a:Addr):asAddr (.pointer (some a))=pure a:=rfl
theorem E7 (hE:jU P E) {ν:Nu} {tmps:List Value} {H:ay} {a:Act} {w:World} (hi:bu F ν tmps H a w):∀ {l:List ResultVar} {k:List Value→Prop},w6 E H tmps l k →
  ∃ vs fY,k vs∧bf ν vs fY∧(l.mapM (zY a.tmps)).run P w=.ok fY w
 | [],k,h=>⟨[],[],h,.nil ν,rfl⟩
 | .tmp t::l,k,h=>by
  obtain ⟨v,hv,h⟩:=oU h;obtain ⟨v',oq,hr⟩:=hi.tm.get hv;obtain ⟨vs,fY,h1,J,h3⟩:=E7 hE hi h;have e:a.tmps.getD t undef=v':=by
   have:a.tmps[t]?=some v':=by simpa using oq
   simp [this]
  exact ⟨v::vs,v'::fY,h1,.cons hr J,by simp only [List.mapM_cons,zY,Sem.run_bind,Sem.run_pure,Result.andThen_ok,h3,e]⟩
 | .cell x t::l,k,h=>by
  obtain ⟨v,hv,h⟩:=oU h;obtain ⟨v',oq,hr⟩:=hi.tm.get hv
  split at h
  ·rename_i id row sp;obtain ⟨ti,ht,h⟩:=cO h;obtain ⟨b,hb,h⟩:=gD h;obtain ⟨a8,h⟩:=Mq h;obtain ⟨us,h,hl,tF⟩:=yN h;obtain ⟨lc,dN,hB⟩:=hi.hp.aL id b hb;obtain ⟨lc',QA,he⟩:=hr.nV;rw [dN] at QA; cases QA;obtain ⟨us',h1,J,h3⟩:=Lx hB a8 hl tF;obtain ⟨vs,fY,k1,k2,k3⟩:=E7 hE hi h;have e:a.tmps.getD x undef=v':=by
    have:a.tmps[x]?=some v':=by simpa using oq
    simp [this]
   refine ⟨_,_::fY,k1,.cons (FM h1) k2,?_⟩;simp only [List.mapM_cons,zY,Sem.run_bind,Result.andThen_ok,e,he,TW,Sem.run_pure,KL (hE.ty _ _ ht) J h3,k3]
  ·exact h.elim
structure oa (n0:Nat) (w w':World):Prop where
 os:w'.os=w.os
 tape:w'.tape=w.tape
 output:w'.output=w.output
 size:w'.heap.size=w.heap.size
 low:∀ q:Nat,q < n0→w'.heap[q]?=w.heap[q]?
 same:∀ (q:Nat) (o:Obj),(∀ c,o≠.deferred c)→w.heap[q]?=some o→w'.heap[q]?=some o
theorem oa.refl (n0:Nat) (w:World):oa n0 w w:=⟨rfl,rfl,rfl,rfl,fun _ _=>rfl,fun _ _ _ h=>h⟩
theorem oa.trans {n0:Nat} {w w' Rw:World} (h:oa n0 w w') (k:oa n0 w' Rw):oa n0 w Rw :=
 ⟨k.os.trans h.os,k.tape.trans h.tape,k.output.trans h.output,k.size.trans h.size,fun q hq=>(k.low q hq).trans (h.low q hq),fun q o ho hq=>k.same q o ho (h.same q o ho hq)⟩
theorem Wn {n0 D:Nat} {w:World} (hD:w.heap[D]?=some (Obj.deferred (some []))) (h0:n0≤D):oa n0 w (w.putObj D (.deferred none)) :=
 ⟨rfl,rfl,rfl,by simp,fun q hq=>World.putObj_heap_other (by omega),fun q o ho hq=>(World.putObj_heap_other (fun e=>by subst e; rw [hD] at hq; cases hq; exact ho _ rfl)).trans hq⟩
theorem KQ {fn:Func} {tmps:Array Value} {R:Ending→World→Prop} {n0:Nat}:∀ (ds:List Deferred) (w:World),Marks n0 ds w→(∀ w',oa n0 w w'→∃ v,(results fn tmps).run P w'=.ok v w'∧R (.returned v) w')→LeavesInM Fence.wide n P fn tmps R ds .returning w
 | [],w,_,h=>h w (oa.refl n0 w)
 | d::ds,w,hm,h=>by
  obtain ⟨D,rfl,h0,hD⟩:=hm.2 d (List.mem_cons_self ..);have mP:=List.nodup_cons.1 hm.1;refine ⟨by simp,.inl ⟨D,w.putObj D (.deferred none),rfl,run_takeDeferred hD,?_⟩⟩
  refine KQ ds _ ⟨mP.2,fun e he=>?_⟩ fun w' JI=>h w' ((Wn hD h0).trans JI)
  obtain ⟨D',rfl,h1,AQ⟩:=hm.2 e (List.mem_cons_of_mem _ he);exact ⟨D',rfl,h1,(World.putObj_heap_other (fun e2=>mP.1 (by rw [← e2]; exact he))).trans AQ⟩
theorem bP.shut {ν:Nu} {l:Loc} {b:ai} {n0:Nat} {w w':World} (h:bP ν l b w) (hs:oa n0 w w'):bP ν l b w':=by
 refine ⟨h.ae,h.len,fun r hr j v hv=>?_,h.plain,h.one,fun ho hc=>?_,fun r hr=>hs.same _ _ (fun c=>by simp) (h.lr r hr),by rw [hs.size]; exact h.live⟩
 ·obtain ⟨v',h1,J⟩:=h.cell r hr j v hv;refine ⟨v',?_,J⟩;have h3:=h1;unfold World.cell? at h3;cases ho:w.heap[(l.at r j).block]? with
  | none=>simp [ho] at h3
  | some o =>
   have:∀ c,o≠Obj.deferred c:=fun c e=>by subst e; simp [ho] at h3
   rw [World.cell?_of_block (a:=l.at r j) ((hs.same _ _ this ho).trans ho.symm)];exact h1
 ·obtain ⟨cur,t,h1,J⟩:=h.own ho hc;exact ⟨cur,t,hs.same _ _ (fun c=>by simp) h1,J⟩
theorem bU.shut {ν:Nu} {H:ay} {n0:Nat} {w w':World} (h:bU ν H w) (hs:oa n0 w w'):bU ν H w' :=
 ⟨fun id b hi=>let ⟨l,h1,J⟩:=h.aL id b hi; ⟨l,h1,J.shut hs⟩,h.sep⟩
def b9 (E:Env) (D:Env→List Oper→List Value→ay→SK→Prop) (fn:Func) (args:List Value) (H:ay) (K:Value→ay→Prop):Prop :=
 match fn.body with
 | some c=>jw H fun n0=>qZ args (List.replicate (fn.ntmps - args.length) undef) fun t0 =>
  vc { E with base:=n0 } D c t0 H (fun t H=>w6 { E with base:=n0 } H t fn.results.toList fun vs=>DS vs fun v=>K v H) (fun _ _ _=>False) (fun t H=>w6 { E with base:=n0 } H t fn.results.toList fun vs=>DS vs fun v=>K v H)
 | none=>False
theorem jU.at {E:Env} (hE:jU P E) (n0:Nat):jU P { E with base:=n0 }:=⟨⟨hE.ty,hE.eq,hE.fn,hE.ft⟩,hE.Jo,hE.ys⟩
theorem y7 (hE:jU P E) (hD:nC P D) {f:FuncId} {fn:Func} (hf:P.funcs[f]?=some fn) {args as:List Value} {H:ay} {ν:Nu} {w:World} {O:Nat→Prop} {K:Value→ay→Prop} {n:Nat}
  (h:b9 E D fn args H K) (ha:bf ν args as) (hH:bU ν H w) (gm:∀ id,H.length≤id→ν id=none)
  (kl:∀ id b l,H[id]?=some (some b)→b.own=true→ν id=some l→O l.aL) (hnu:E.nu.le ν) {R:Ending→World→Prop}
  (hR:∀ ak v v' t H' a w',bu ⟨w,O,ν,H.length,gm⟩ ak t H' a w'→K v H'→au ak v v'→R (.returned v') w'):CallsIn Fence.wide n P f ⟨as⟩ w R:=by
 unfold b9 at h
 split at h
 ·rename_i c hc;have h:=wO (mr h);refine callsIn_of_wp_marks hf hc trivial ?_;have hi:bu ⟨w,O,ν,H.length,gm⟩ ν (args++List.replicate (fn.ntmps - args.length) undef) H { tmps:=(⟨as⟩:Array Value)++Array.replicate (fn.ntmps - (⟨as⟩:Array Value).size) undef,defers:=[] } w:=by
   refine ⟨?_,Marks.nil _ _,hH,gm,Kept.refl w,fun id b l h1 J h3=>.inl (kl id b l h1 J h3),ν.le_refl⟩
   have e:((⟨as⟩:Array Value)++Array.replicate (fn.ntmps - (⟨as⟩:Array Value).size) undef).toList=as++List.replicate (fn.ntmps - args.length) undef:=by
    simp [ha.1]
   rw [e];refine ha.append ⟨rfl,fun i x y hx hy=>?_⟩
   rw [hx] at hy; cases hy;have:=List.mem_of_getElem? hx;simp at this;rw [this.2]; exact .undef ν
  have Rx:=hE.at H.length;have fin:∀ ak t H' a w',bu ⟨w,O,ν,H.length,gm⟩ ak t H' a w'→(w6 { E with base:=H.length } H' t fn.results.toList fun vs=>DS vs fun v=>K v H')→LeavesInM Fence.wide n P fn a.tmps R a.defers .returning w':=by
   intro ak t H' a w' gd h';refine KQ a.defers w' gd.df fun w2 hs=>?_
   have aQ:bu ⟨w,O,ν,H.length,gm⟩ ak t H' { tmps:=a.tmps,defers:=[] } w2 :=
    ⟨gd.tm,Marks.nil _ _,gd.hp.shut hs,gd.fr,⟨hs.os.trans gd.kp.os,hs.tape.trans gd.kp.tape,hs.output.trans gd.kp.output,by rw [hs.size]; exact gd.kp.size,fun b h1 J=>(hs.low b h1).trans (gd.kp.aL b h1 J)⟩,gd.own,gd.mono⟩
   obtain ⟨vs,fY,h1,J,h3⟩:=E7 Rx aQ h';have aeT:(fn.results.mapM (zY a.tmps)).run P w2=.ok ⟨fY⟩ w2:=by
    rw [Array.mapM_eq_mapM_toList];simp only [Sem.run_map,h3,Result.andThen_ok]
   rw [TU];simp only [Sem.run_bind,aeT,Result.andThen_ok,Sem.run_pure];refine ⟨_,rfl,?_⟩;unfold DS at h1
   split at h1
   ·rename_i v;obtain ⟨y,ys,rfl,k1,k2⟩:=J.jm;rw [k2.iU];exact hR _ _ _ _ _ _ _ aQ h1 k1
   ·rename_i aD;have hlen:¬ ((⟨fY⟩:Array Value).size=1):=by
     intro e;have:vs.length=1:=by rw [J.1]; exact e
     obtain ⟨v,rfl⟩:=List.length_eq_one_iff.1 this;exact aD v rfl
    rw [dif_neg hlen];exact hR _ _ _ _ _ _ _ aQ h1 (.tuple _ _ J.1 J.2)
  exact Wm hD c (r:=none) (F:=⟨w,O,ν,H.length,gm⟩) Rx ⟨Nat.le_refl _,hnu⟩ (fun _=>rfl) hi h (fun ν t H a w' aQ h'=>fin ν t H a w' aQ h') (fun _ _ _ _ _ _ _ h'=>h'.elim) (fun ν t H a w' aQ h'=>fin ν t H a w' aQ h')
 ·exact h.elim
theorem CF {E:Env} {ν:Nu} (h:E.nu=fun _=>none):E.nu.le ν:=by rw [h]; exact fun _ _ h=>nomatch h
theorem bk {S:bC} (hE:EnvOk P E) (hD:nC P D) {f:FuncId} {fn:Func} (hf:P.funcs[f]?=some fn) (oo:∀ args w,(callFunc f args).run P w=.ok (.enter f args) w)
  (ha:∀ i,BY (S.args i)=true) (hv:∀ i,C3 (S.val i)=true) (h:∀ i,S.pre i→b9 E D fn (S.args i) [] fun v _=>v=S.val i)
  (hI:gV P E:=by exact gV.none rfl) (hy:E.ys=[]:=by rfl) (hu:E.nu=(fun _=>none):=by rfl):bg P f S:=by
 refine ⟨oo,fun i hp ν as w n has=>?_⟩
 have e:=(E6 (ha i)).2 ν as has;subst e;refine y7 (O:=fun _=>False) (ν:=fun _=>none) (hE.x hI hy) hD hf (h i hp) ((E6 (ha i)).1 _) ⟨fun id b hb=>by simp at hb,fun i j bi bj li lj hi=>by simp at hi⟩ (fun _ _=>rfl) (fun id b l hb=>by simp at hb) (CF hu) ?_
 rintro ak v v' t H a w' hi rfl hr
 exact ⟨v',rfl,by rw [(wE (hv i)).2 _ _ hr]; exact (wE (hv i)).1 ν,⟨hi.kp.os,hi.kp.tape,hi.kp.output,hi.kp.size,fun k hk=>hi.kp.aL k hk (fun h=>h)⟩⟩
theorem js (hE:EnvOk P E) (hD:nC P D) {f:FuncId} {fn:Func} (hf:P.funcs[f]?=some fn) (oo:∀ args w,(callFunc f args).run P w=.ok (.enter f args) w)
  (hI:gV P E:=by exact gV.none rfl) (hy:E.ys=[]:=by rfl) (hu:E.nu=(fun _=>none):=by rfl):gj P f (b9 E D fn):=by
 refine ⟨oo,fun args H K h ν as w n O ha hH gm kl=>y7 (hE.x hI hy) hD hf h ha hH gm kl (CF hu) ?_⟩
 intro ak v v' t H' a w' hi hk hv;exact ⟨v,v',ak,H',rfl,hk,hv,hi.mono,hi.hp,hi.fr,hi.kp,hi.own⟩
theorem PS (hE:EnvOk P E) (hD:nC P D) {f:FuncId} {fn:Func} (hf:P.funcs[f]?=some fn) (oo:∀ args w,(callFunc f args).run P w=.ok (.enter f args) w)
  (hI:gV P E:=by exact gV.none rfl):Ag P f (fun l G nu=>b9 { E with ys:=[(l,G)],nu:=nu } D fn):=by
 refine ⟨oo,fun l G bh hY args H K h ν as w n O hle ha hH gm kl=>?_⟩
 refine y7 (E:={ E with ys:=[(l,G)],nu:=bh }) ⟨⟨hE.ty,hE.eq,hE.fn,hE.ft⟩,hI,fun l' G' r e=>by cases e; exact hY⟩ hD hf h ha hH gm kl hle ?_
 intro ak v v' t H' a w' hi hk hv;exact ⟨v,v',ak,H',rfl,hk,hv,hi.mono,hi.hp,hi.fr,hi.kp,hi.own⟩
end
open Go Go.RowKit
def FY:Value→Bool
 | .bool _ | .int _ _ | .string _ | .pointer none | .nilFunc=>true
 | .slice none 0 0=>true
 | _=>false
theorem SC {v:Value} (h:FY v=true):(∀ ν,au ν v v)∧v.oneCell'=true:=by
 unfold FY at h
 split at h
 ·exact ⟨fun ν=>.bool _,rfl⟩
 ·exact ⟨fun ν=>.int _ _,rfl⟩
 ·exact ⟨fun ν=>.str _,rfl⟩
 ·exact ⟨fun ν=>.mD,rfl⟩
 ·exact ⟨fun ν=>.mE,rfl⟩
 ·exact ⟨fun ν=>.ju,rfl⟩
 ·cases h
def BQ:List Value→Bool
 | []=>true
 | v::l=>FY v && BQ l
theorem KC:∀ {l:List Value},BQ l=true→(∀ ν,bf ν l l)∧∀ v∈l,v.oneCell'=true
 | [],_=>⟨fun ν=>.nil ν,fun v hv=>by simp at hv⟩
 | v::l,h=>by
  simp only [BQ,Bool.and_eq_true] at h;obtain ⟨h1,J⟩:=SC h.1;obtain ⟨h3,h4⟩:=KC h.2;exact ⟨fun ν=>.cons (h1 ν) (h3 ν),fun u hu=>by
   rcases List.mem_cons.1 hu with e | e
   ·rw [e]; exact J
   ·exact h4 u e⟩
def xo (P:Program):List Field→List (Nat × Nat × Bool)→Bool
 | [],[]=>true
 | f::l,x::m=>Nat.beq f.offset x.1 && Nat.ble 1 x.2.1 && (match P.info? f.type with | some i=>Nat.beq i.size x.2.1 | none=>false) &&
  (match P.underlying f.type with | some d=>(uP d == x.2.2) | none=>false) && xo P l m
 | _,_=>false
theorem KR {P:Program}:∀ {l:List Field} {m:List (Nat × Nat × Bool)},xo P l m=true→l.length=m.length∧∀ (i:Nat) f x,l[i]?=some f→m[i]?=some x→zk P f x
 | [],[],_=>⟨rfl,fun i f x h=>by simp at h⟩
 | f::l,x::m,h=>by
  simp only [xo,Bool.and_eq_true] at h;obtain ⟨⟨⟨⟨h1,J⟩,h3⟩,h4⟩,h5⟩:=h;obtain ⟨k1,k2⟩:=KR h5;refine ⟨by simp [k1],fun i g y hg hy=>?_⟩
  cases i with
  | zero =>
   simp at hg hy;subst hg; subst hy;refine ⟨Nat.eq_of_beq_eq_true h1,Nat.le_of_ble_eq_true J,?_,?_⟩
   ·split at h3
    ·exact ⟨_,by assumption,Nat.eq_of_beq_eq_true h3⟩
    ·cases h3
   ·split at h4
    ·exact ⟨_,by assumption,by simpa using h4⟩
    ·cases h4
  | succ i=>exact k2 i g y (by simpa using hg) (by simpa using hy)
 | [],_::_,h=>by simp [xo] at h
 | _::_,[],h=>by simp [xo] at h
def H0 (P:Program) (t:TypeId) (k:TK):Bool :=
 match k,P.underlying t with
 | .int q,some (.int q')=>decide (q=q')
 | .bool,some .bool=>true
 | .str,some .string=>true
 | .struct fs,some (.struct fields)=>xo P fields.toList fs
 | .slice e,some (.slice e')=>Nat.beq e e'
 | .array n e,some (.array n' e')=>Nat.beq n n' && Nat.beq e e'
 | .other,some d=>!uP d
 | _,_=>false
theorem TX {P:Program} {t:TypeId} {k:TK} (h:H0 P t k=true):∃ d,P.underlying t=some d∧D8 P k d:=by
 unfold H0 at h
 split at h
 ·exact ⟨_,by assumption,by rw [of_decide_eq_true h]; rfl⟩
 ·exact ⟨_,by assumption,rfl⟩
 ·exact ⟨_,by assumption,rfl⟩
 ·obtain ⟨h1,J⟩:=KR h;exact ⟨_,by assumption,_,rfl,by simpa using h1,fun i f x hf hx=>J i f x (by simpa using hf) hx⟩
 ·exact ⟨_,by assumption,by rw [Nat.eq_of_beq_eq_true h]; rfl⟩
 ·simp only [Bool.and_eq_true] at h;exact ⟨_,by assumption,by rw [Nat.eq_of_beq_eq_true h.1,Nat.eq_of_beq_eq_true h.2]; rfl⟩
 ·exact ⟨_,by assumption,by simpa [D8] using h⟩
 ·cases h
def Pa (ti:TI):Bool:=BQ ti.zero && Nat.beq ti.zero.length ti.size && Nat.ble 1 ti.size && Nat.ble 1 ti.bytes
theorem aK {P:Program} {t:TypeId} {ti:TI} (h1:(P.info? t).map (fun i=>(i.size,i.bytes,i.zero.map fun z=>z.cells.toList))=some (ti.size,ti.bytes,some ti.zero)) (J:H0 P t ti.kind=true) (h3:Pa ti=true):aB P t ti:=by
 obtain ⟨i,hi,he⟩:=Option.map_eq_some_iff.1 h1;simp only [Prod.mk.injEq] at he;obtain ⟨e1,e2,e3⟩:=he;obtain ⟨z,hz,ow⟩:=Option.map_eq_some_iff.1 e3;simp only [Pa,Bool.and_eq_true] at h3;obtain ⟨⟨⟨k1,k2⟩,k3⟩,k4⟩:=h3;obtain ⟨k5,k6⟩:=KC k1;exact ⟨⟨i,hi,e1,e2,z,hz,Array.ext' ow⟩,TX J,k5,Nat.eq_of_beq_eq_true k2,k6,Nat.le_of_ble_eq_true k3,Nat.le_of_ble_eq_true k4⟩
inductive ET where
 | bool | int (k:IntKind) | str
 | struct (fs:List (Nat × ET))      -- each field's size and shape
open Go Go.RowKit
def iI:List Operand→List Tmp
 | []=>[]
 | .tmp t::l=>t::iI l
 | _::l=>iI l
theorem p8 {t:Tmp}:∀ {l:List Operand},Operand.tmp t∈l→t∈iI l
 | .tmp u::l,h=>by
  rcases List.mem_cons.1 h with e | e
  ·cases e; simp [iI]
  ·simp [iI,p8 e]
 | .const v::l,h=>by
  rcases List.mem_cons.1 h with e | e
  ·cases e
  ·simpa [iI] using p8 e
 | .global v::l,h=>by
  rcases List.mem_cons.1 h with e | e
  ·cases e
  ·simpa [iI] using p8 e
 | .func v::l,h=>by
  rcases List.mem_cons.1 h with e | e
  ·cases e
  ·simpa [iI] using p8 e
def jk (ops:List Oper) (o:Oper):List Tmp :=
 iI o.op.operands.toList++(match o.guard with | some (j,_)=>(match (ops[j]?).bind (·.dst) with | some d=>[d] | none=>[]) | none=>[])
def CG (ops:List Oper) (aU:List (List Nat)):Bool :=
 (List.range ops.length).all fun j=>match ops[j]? with
  | some o=>(aU.getD j []).all fun i=>i < j && o.after.toList.any fun e=>Region.binds .any e && (e.on == i || ((aU.getD e.on []).contains i && decide (e.on < j)))
  | none=>true
def C4 (ops:List Oper) (m:Nat) (aU:List (List Nat)):Bool :=
 decide (m≤ops.length) && CG ops aU &&
 (List.range ops.length).all (fun j=>match ops[j]? with
  | some o=>o.after.toList.all fun e=>!Region.binds .any e || decide (e.on < j)
  | none=>true) &&
 (List.range m).all (fun j=>match ops[j]? with
  | some o=>(List.range m).all fun i=>i == j || match ops[i]? with
   | some p=>match p.dst with
    | some d=>(o.dst != some d) && (!(jk ops o).contains d || (aU.getD j []).contains i || (aU.getD i []).contains j)
    | none=>true
   | none=>true
  | none=>true) &&
 (List.range ops.length).all (fun j=>decide (j < m) || (List.range j).all fun i=>(aU.getD j []).contains i)
def lI:List (Option ai)→Nat→List Nat→(List (Option ai)→Prop)→Prop
 | [],_,_,k=>k []
 | b::S,i,mask,k=>match mask with
  | m::ms=>match Nat.beq m i with
   | true=>lI S (i+1) ms fun S'=>k (b::S')
   | false=>lI S (i+1) (m::ms) fun S'=>k (none::S')
  | []=>lI S (i+1) [] fun S'=>k (none::S')
def nF:ay→List (Option ai)→(ay→Prop)→Prop
 | [],S,k=>k S
 | b::H,S,k=>nF H S fun G=>k (b::G)
theorem ux:∀ {H:ay} {S:List (Option ai)} {k:ay→Prop},nF H S k→k (H++S)
 | [],_,_,h=>h
 | _::H,S,k,h=>ux (H:=H) h
def jt:List (Option ai)→Option ai→(List (Option ai)→Prop)→Prop
 | [],b,k=>k [b]
 | c::S,b,k=>jt S b fun S'=>k (c::S')
theorem ui:∀ {S:List (Option ai)} {b:Option ai} {k:List (Option ai)→Prop},jt S b k→k (S++[b])
 | [],_,_,h=>h
 | _::S,b,k,h=>ui (S:=S) h
def lJ (E:Env) (ops:List Oper) (H:ay) (n0:Nat):List Oper→List (List Nat)→Nat→List Value→List (Option ai)→(List Value→List (Option ai)→Prop)→Prop
 | [],_,_,t,S,k=>k t S
 | o::l,mask::aU,j,t,S,k =>
  match o.guard with
  | none=>lI S 0 mask fun Sm=>nF H Sm fun G=>kZ E o.op t G (n0+j) fun v nb=>dr t o.dst v fun t'=>jt S nb fun S'=>lJ E ops H n0 l aU (j+1) t' S' k
  | some (g,want)=>match (ops[g]?).bind (·.dst) with
   | some d=>qY t d fun v=>match v with
    | .bool b=>br (b == want)
      (lI S 0 mask fun Sm=>nF H Sm fun G=>kZ E o.op t G (n0+j) fun v nb=>dr t o.dst v fun t'=>jt S nb fun S'=>lJ E ops H n0 l aU (j+1) t' S' k)
      (dr t o.dst undef fun t'=>jt S none fun S'=>lJ E ops H n0 l aU (j+1) t' S' k)
    | .tuple _=>dr t o.dst undef fun t'=>jt S none fun S'=>lJ E ops H n0 l aU (j+1) t' S' k
    | _=>False
   | none=>False
 | _::_,[],_,_,_,_=>False
def vf:List Oper→Nat→(List Oper→List Oper→Prop)→Prop
 | l,0,k=>k [] l
 | [],_+1,_=>False
 | o::l,m+1,k=>vf l m fun a b=>k (o::a) b
theorem yS:∀ {l:List Oper} {m:Nat} {k:List Oper→List Oper→Prop},vf l m k→m≤l.length∧k (l.take m) (l.drop m)
 | l,0,_,h=>⟨by simp,by simpa [vf] using h⟩
 | [],_+1,_,h=>h.elim
 | o::l,m+1,k,h=>by
  obtain ⟨h1,J⟩:=yS (l:=l) h;exact ⟨by simp; omega,by simpa using J⟩
def PT (E:Env) (ops:List Oper) (t:List Value) (H:ay) (k:SK):Prop :=
 ∃ (m:Nat) (aU:List (List Nat)),C4 ops m aU=true∧jw H fun n0=>vf ops m fun hd tl=>lJ E ops H n0 hd aU 0 t [] fun t' S=>nF H S fun G=>nq E ops tl t' G k
structure c7 where
 v:Value
 nb:Option ai
 run:Bool
def bO (ops:List Oper) (i:Nat):Option Tmp:=(ops[i]?).bind (·.dst)
def ba (ops:List Oper) (rs:List c7) (D:Nat→Bool) (t0:List Value):Nat→List Value
 | 0=>t0
 | i+1=>match D i,bO ops i,rs[i]? with
  | true,some d,some r=>(ba ops rs D t0 i).set d r.v
  | _,_,_=>ba ops rs D t0 i
def kO (rs:List c7) (D:Nat→Bool) (m:Nat):List (Option ai):=(List.range m).map fun i=>if D i then (rs[i]?).bind (·.nb) else none
section
variable {ops:List Oper} {rs:List c7} {t0:List Value}
theorem rW (D:Nat→Bool):∀ m,(ba ops rs D t0 m).length=t0.length
 | 0=>rfl
 | m+1=>by
  unfold ba
  split
  ·rw [List.length_set]; exact rW D m
  ·exact rW D m
def xX (ops:List Oper) (m:Nat):Prop:=∀ i j d,i < m→j < m→bO ops i=some d→bO ops j=some d→i=j
theorem wQ (D:Nat→Bool) {d:Tmp}:∀ m,(∀ i,i < m→D i=true→bO ops i=some d→rs[i]?=none)→(ba ops rs D t0 m)[d]?=t0[d]?
 | 0,_=>rfl
 | m+1,h=>by
  unfold ba
  split
  ·rename_i d' r hD hd hr;have aD:d'≠d:=fun e=>by subst e; rw [h m (by omega) hD hd] at hr; cases hr
   rw [List.getElem?_set_ne aD];exact wQ D m (fun i hi=>h i (by omega))
  ·exact wQ D m (fun i hi=>h i (by omega))
theorem uy (D:Nat→Bool) {d:Tmp} {i:Nat} {r:c7} (hd:bO ops i=some d) (hr:rs[i]?=some r) (hD:D i=true) (al:d < t0.length) :
  ∀ m,i < m→xX ops m→(ba ops rs D t0 m)[d]?=some r.v
 | 0,h,_=>by omega
 | m+1,h,ha=>by
  by_cases e:i=m
  ·subst e;unfold ba;rw [hD,hd,hr]
   dsimp only
   rw [List.getElem?_set_self];rw [rW]; exact al
  ·have ih:=uy D hd hr hD al m (by omega) (fun a b c h1 J=>ha a b c (by omega) (by omega))
   unfold ba
   split
   ·rename_i d' r' AQ cV jx;have aD:d'≠d:=fun e'=>by subst e'; exact e (ha i m d' (by omega) (by omega) hd cV)
    rw [List.getElem?_set_ne aD]; exact ih
   ·exact ih
theorem yT {D D':Nat→Bool} {d:Tmp} {m:Nat} (ha:xX ops m) (al:∀ i d,i < m→bO ops i=some d→d < t0.length) (h:∀ i,i < m→bO ops i=some d→D i=D' i) :
  (ba ops rs D t0 m)[d]?=(ba ops rs D' t0 m)[d]?:=by
 by_cases hex:∃ i r,i < m∧bO ops i=some d∧D i=true∧rs[i]?=some r
 ·obtain ⟨i,r,hi,hd,hD,hr⟩:=hex;rw [uy D hd hr hD (al i d hi hd) m hi ha,uy D' hd hr (by rw [← h i hi hd]; exact hD) (al i d hi hd) m hi ha]
 ·rw [wQ D m,wQ D' m]
  ·intro i hi hD hd;cases hr:rs[i]? with
   | none=>rfl
   | some r=>exact absurd ⟨i,r,hi,hd,by rw [h i hi hd]; exact hD,hr⟩ hex
  ·intro i hi hD hd;cases hr:rs[i]? with
   | none=>rfl
   | some r=>exact absurd ⟨i,r,hi,hd,hD,hr⟩ hex
theorem LK {D D':Nat→Bool} {m j:Nat} (ha:xX ops m) (al:∀ i d,i < m→bO ops i=some d→d < t0.length) (hj:j < m) (hDj:D j=false) (AQ:∀ i,D' i=(D i || i == j)) {r:c7} (hr:rs[j]?=some r) :
  ba ops rs D' t0 m=match bO ops j with | some d=>(ba ops rs D t0 m).set d r.v | none=>ba ops rs D t0 m:=by
 apply List.ext_getElem?;intro x;have Ry:∀ i,i≠j→D' i=D i:=fun i hi=>by rw [AQ i]; simp [hi]
 cases hd:bO ops j with
 | none =>
  dsimp only
  refine yT ha al (fun i hi gf=>Ry i (fun e=>?_))
  subst e; rw [hd] at gf; cases gf
 | some d =>
  dsimp only
  by_cases e:d=x
  ·subst e;have hl:=al j d hj hd;rw [List.getElem?_set_self (by rw [rW]; exact hl)]
   exact uy D' hd hr (by rw [AQ j]; simp) hl m hj ha
  ·rw [List.getElem?_set_ne e];refine yT ha al (fun i hi gf=>Ry i (fun e'=>?_))
   subst e'; rw [hd] at gf; cases gf; exact e rfl
theorem r6 {D:Nat→Bool} {m i:Nat} {b:ai}:(kO rs D m)[i]?=some (some b)↔i < m∧D i=true∧(rs[i]?).bind (·.nb)=some b:=by
 unfold kO;rw [List.getElem?_map];by_cases h:i < m
 ·simp only [List.getElem?_range h,Option.map_some,Option.some.injEq];cases D i <;> simp [h]
 ·rw [List.getElem?_eq_none (by simp; omega)]
  simp [h]
theorem KS (D:Nat→Bool) (m:Nat):(kO rs D m).length=m:=by simp [kO]
end
def mw:Op→Bool
 | .move _=>true
 | .extract _ _=>true
 | .binOp _ _ _ _ _=>true
 | .slice _ _ _ _ _=>true
 | _=>false
def my:Op→Bool
 | .load _ _=>true
 | .indexAddr _ _ _=>true
 | .call c=>match c.callee with
  | .builtin .len=>true
  | _=>false
 | _=>false
structure o9 (P:Program) (ops:List Oper) (t0:List Value) (H:ay) (aU:List (List Nat)) (rs:List c7) (j:Nat):Prop where
 ok:∃ o r,ops[j]?=some o∧rs[j]?=some r∧(∀ d,o.dst=some d→d < t0.length) ∧
  ((∃ G:ay,(∀ id b,G[id]?=some (some b)→(id < H.length∧H[id]?=some (some b))∨(∃ i,id=H.length+i∧i < j∧i∈aU.getD j []∧(rs[i]?).bind (·.nb)=some b)) ∧
    (∀ (ν:Nu) (a:Act) (w:World) (q:Option Nat) (n:Nat),(∀ x∈o.op.operands,fm ν (ba ops rs (fun i=>decide (i < j)) t0 j) a x)→bU ν G w→ν (H.length+j)=none →
     ∀ next Q,(∀ v' w' ak,nc ν ak (H.length+j) w w' r.v v' r.nb→next (a.put o.dst v') w')→o.wpIn (WF q) n P a w next Q) ∧
    (o.guard=none∨∃ g want d b,o.guard=some (g,want)∧bO ops g=some d∧(ba ops rs (fun i=>decide (i < j)) t0 j)[d]?=some (.bool b)∧(b == want)=true)) ∨
    (r.v=undef∧r.nb=none∧∃ g want d v,o.guard=some (g,want)∧bO ops g=some d∧(ba ops rs (fun i=>decide (i < j)) t0 j)[d]?=some v∧((∃ b,v=.bool b∧(b == want)=false)∨∃ vs,v=.tuple vs)))
 mv:∀ o,ops[j]?=some o→(mw o.op || my o.op)=true→o.guard=none→∃ r,rs[j]?=some r∧r.nb=none∧∃ G:ay,(∀ id b,G[id]?=some (some b)→(id < H.length∧H[id]?=some (some b))∨(∃ i,id=H.length+i∧i < j∧i∈aU.getD j []∧(rs[i]?).bind (·.nb)=some b)) ∧
  (mw o.op=true→∀ (bh:Nu) (w0:World),bU bh G w0→qL P bh o.op (ba ops rs (fun i=>decide (i < j)) t0 j) r.v)∧(my o.op=true→∀ bh,nZ P bh G o.op (ba ops rs (fun i=>decide (i < j)) t0 j) r.v)
theorem TY {P:Program} {E:Env} (hE:EnvOk P E) {op:Op} {tmps:List Value} {H:ay} {aJ:Nat} {k:QK} (h:kZ E op tmps H aJ k) :
  ∃ v nb,k v nb∧(∀ (o:Oper) (ν:Nu) (a:Act) (w:World) (r:Option Nat) (n:Nat),o.op=op→(∀ x∈op.operands,fm ν tmps a x)→bU ν H w→ν aJ=none →
   ∀ next Q,(∀ v' w' ak,nc ν ak aJ w w' v v' nb→next (a.put o.dst v') w')→o.wpIn (WF r) n P a w next Q) ∧
   (mw op=true→nb=none∧∀ (bh:Nu) (w0:World),bU bh H w0→qL P bh op tmps v)∧(my op=true→nb=none∧∀ bh,nZ P bh H op tmps v):=by
 have mk:my op=false→∀ v,k v none→(∀ (bh:Nu) (w0:World),bU bh H w0→qL P bh op tmps v)→∃ v nb,k v nb∧(∀ (o:Oper) (ν:Nu) (a:Act) (w:World) (r:Option Nat) (n:Nat),o.op=op→(∀ x∈op.operands,fm ν tmps a x)→bU ν H w→ν aJ=none →
   ∀ next Q,(∀ v' w' ak,nc ν ak aJ w w' v v' nb→next (a.put o.dst v') w')→o.wpIn (WF r) n P a w next Q) ∧
   (mw op=true→nb=none∧∀ (bh:Nu) (w0:World),bU bh H w0→qL P bh op tmps v)∧(my op=true→nb=none∧∀ bh,nZ P bh H op tmps v):=by
  intro ox v hk hp;refine ⟨v,none,hk,fun o ν a w r n ho ha hH hn next Q hN=>?_,fun _=>⟨rfl,hp⟩,fun h=>by rw [ox] at h; cases h⟩
  obtain ⟨u,k1,k2⟩:=(hp ν w hH).2 o ν a w ν.le_refl ho ha;exact jH (v':=u) (w':=w) (by rw [ho]; exact (hp ν w hH).1) k2 next Q (hN _ _ ν ⟨ν.le_refl,fun _ _=>rfl,k1,Below.refl _ _,fun _=>rfl,(fun b hb=>by cases hb)⟩)
 by_cases hp:mw op=true
 ·cases op with
  | move x =>
   have h':Dj tmps x k:=h;obtain ⟨v,hk,hv⟩:=cN h';exact mk rfl v hk fun bh w0 _=>⟨by simp,fun o ν a w hle ho ha=>⟨a.eval x,hv ν a (ha x (by simp [Op.operands])),by simp [execOp,ho]⟩⟩
  | extract x i =>
   have h':Gh tmps x i k:=h;obtain ⟨v0,h',hv⟩:=cN h'
   split at h'
   ·rename_i vs;obtain ⟨u,h1,J⟩:=oU h';refine mk rfl u J fun bh w0 _=>⟨by simp,fun o ν a w hle ho ha=>?_⟩
    obtain ⟨ys,he,hy⟩:=au.nR (xs:=vs.toList) (hv ν a (ha x (by simp [Op.operands])))
    obtain ⟨u',h3,h4⟩:=hy.get h1;exact ⟨u',h4,by simp [execOp,ho,he,Instr.extract,h3]⟩
   ·exact h'.elim
  | binOp op t x y ty =>
   have h':DN E.tt E.eqs tmps op t x y k:=h;obtain ⟨v,hk,hv⟩:=Ly hE.ty hE.eq (ty:=ty) h';exact mk rfl v hk fun bh _ _=>hv bh
  | slice t x lo hi mx =>
   obtain ⟨v,hk,hv⟩:=KM hE.ty h;exact mk rfl v hk hv
  | _=>cases hp
 ·have hv:s7 P op tmps H k→∃ v nb,k v nb∧(∀ (o:Oper) (ν:Nu) (a:Act) (w:World) (r:Option Nat) (n:Nat),o.op=op→(∀ x∈op.operands,fm ν tmps a x)→bU ν H w→ν aJ=none →
   ∀ next Q,(∀ v' w' ak,nc ν ak aJ w w' v v' nb→next (a.put o.dst v') w')→o.wpIn (WF r) n P a w next Q) ∧
   (mw op=true→nb=none∧∀ (bh:Nu) (w0:World),bU bh H w0→qL P bh op tmps v)∧(my op=true→nb=none∧∀ bh,nZ P bh H op tmps v):=fun ⟨v,hk,hv⟩ =>
   ⟨v,none,hk,fun o ν a w r n ho ha hH hn next Q hN=>by
    obtain ⟨u,k1,k2⟩:=(hv ν).2 o ν a w ν.le_refl ho ha hH;exact jH (v':=u) (w':=w) (by rw [ho]; exact (hv ν).1) k2 next Q (hN _ _ ν ⟨ν.le_refl,fun _ _=>rfl,k1,Below.refl _ _,fun _=>rfl,(fun b hb=>by cases hb)⟩),fun h=>absurd h hp,fun _=>⟨rfl,hv⟩⟩
  by_cases hh:my op=true
  ·cases op with
   | load t x=>exact hv (Oe hE.ty h)
   | indexAddr t x i=>exact hv (KN hE.ty h)
   | call c =>
    cases hc:c.callee with
    | builtin b =>
     cases b with
     | len =>
      unfold kZ at h;simp only [hc] at h
      split at h
      ·rename_i x t hx ht;exact hv (O7 hE.ty hc (Array.ext' hx) (Array.ext' ht) h)
      ·exact h.elim
     | _=>simp [my,hc] at hh
    | _=>simp [my,hc] at hh
   | _=>cases hh
  ·obtain ⟨v,nb,hk,hq⟩:=BW (P:=P) hE h;exact ⟨v,nb,hk,hq,fun h=>absurd h hp,fun h=>absurd h hh⟩
theorem wK:∀ {S:List (Option ai)} {i:Nat} {mask:List Nat} {k:List (Option ai)→Prop},lI S i mask k→∃ S',k S'∧S'.length=S.length∧∀ j b,S'[j]?=some (some b)→S[j]?=some (some b)∧(i+j)∈mask
 | [],i,mask,k,h=>⟨[],by simpa [lI] using h,rfl,fun j b hb=>by simp at hb⟩
 | c::S,i,[],k,h=>by
  obtain ⟨S',h1,J,h3⟩:=wK (S:=S) (i:=i+1) (mask:=[]) (by simpa [lI] using h)
  refine ⟨none::S',h1,by simp [J],fun j b hb=>?_⟩
  cases j with
  | zero=>simp at hb
  | succ j=>have:=h3 j b (by simpa using hb); simp at this
 | c::S,i,m::ms,k,h=>by
  unfold lI at h
  dsimp only at h
  split at h
  ·rename_i e;have e:=Nat.eq_of_beq_eq_true e;obtain ⟨S',h1,J,h3⟩:=wK (S:=S) h;refine ⟨c::S',h1,by simp [J],fun j b hb=>?_⟩
   cases j with
   | zero=>simp at hb; subst hb; exact ⟨by simp,by simp [e]⟩
   | succ j =>
    obtain ⟨k1,k2⟩:=h3 j b (by simpa using hb)
    exact ⟨by simpa using k1,by rw [show i+(j+1)=i+1+j by omega]; simp [k2]⟩
  ·obtain ⟨S',h1,J,h3⟩:=wK (S:=S) h;refine ⟨none::S',h1,by simp [J],fun j b hb=>?_⟩
   cases j with
   | zero=>simp at hb
   | succ j =>
    obtain ⟨k1,k2⟩:=h3 j b (by simpa using hb)
    exact ⟨by simpa using k1,by rw [show i+(j+1)=i+1+j by omega]; exact k2⟩
theorem Fy {ops:List Oper} {rs:List c7} {D:Nat→Bool} {t0:List Value} {m:Nat}:ba ops rs D t0 (m+1)=(match D m,bO ops m,rs[m]? with
  | true,some d,some r=>(ba ops rs D t0 m).set d r.v
  | _,_,_=>ba ops rs D t0 m):=rfl
theorem uf {ops:List Oper} {rs bZ:List c7} {D:Nat→Bool} {t0:List Value}:∀ {m:Nat},(∀ i,i < m→rs[i]?=bZ[i]?)→ba ops rs D t0 m=ba ops bZ D t0 m
 | 0,_=>rfl
 | m+1,h=>by
  unfold ba;rw [h m (by omega),uf (m:=m) (fun i hi=>h i (by omega))]
theorem yJ {ops:List Oper} {rs:List c7} {D D':Nat→Bool} {t0:List Value}:∀ {m:Nat},(∀ i,i < m→D i=D' i)→ba ops rs D t0 m=ba ops rs D' t0 m
 | 0,_=>rfl
 | m+1,h=>by
  unfold ba;rw [h m (by omega),yJ (m:=m) (fun i hi=>h i (by omega))]
theorem wR {ops:List Oper} {rs:List c7} {D:Nat→Bool} {t0:List Value} {j:Nat}:∀ {m:Nat},j≤m→(∀ i,j≤i→i < m→D i=false)→ba ops rs D t0 m=ba ops rs D t0 j
 | 0,h,_=>by rw [Nat.le_zero.1 h]
 | m+1,h,hD=>by
  by_cases e:j=m+1
  ·rw [e]
  ·rw [Fy,hD m (by omega) (by omega)]
   exact wR (m:=m) (by omega) (fun i h1 J=>hD i h1 (by omega))
theorem o9.more {P:Program} {ops:List Oper} {t0:List Value} {H:ay} {aU:List (List Nat)} {rs:List c7} {j:Nat} (h:o9 P ops t0 H aU rs j) (hj:j < rs.length) (r:c7):o9 P ops t0 H aU (rs++[r]) j:=by
 have he:∀ i,i≤j→(rs++[r])[i]?=rs[i]?:=fun i hi=>by rw [List.getElem?_append_left (by omega)]
 have hv:∀ D,ba ops (rs++[r]) D t0 j=ba ops rs D t0 j:=fun D=>uf (fun i hi=>he i (by omega))
 obtain ⟨o,q,h1,J,h3,h4⟩:=h.ok;refine ⟨⟨o,q,h1,by rw [he j (Nat.le_refl _)]; exact J,h3,?_⟩,fun o ho hx hg=>?_⟩
 rotate_left
 ·obtain ⟨r',k1,k2,k3⟩:=h.mv o ho hx hg;obtain ⟨G,g1,g2⟩:=k3;exact ⟨r',by rw [he j (Nat.le_refl _)]; exact k1,k2,G,fun id b hb=>(g1 id b hb).imp (fun x=>x) (fun ⟨i,q1,q2,q3,q4⟩=>⟨i,q1,q2,q3,by rw [he i (by omega)]; exact q4⟩),by rw [hv]; exact g2⟩
 rw [hv];rcases h4 with ⟨G,g1,g2,g3⟩ | h4
 ·exact .inl ⟨G,fun id b hb=>(g1 id b hb).imp (fun x=>x) (fun ⟨i,k1,k2,k3,k4⟩=>⟨i,k1,k2,k3,by rw [he i (by omega)]; exact k4⟩),g2,g3⟩
 ·exact .inr h4
theorem FZ {P:Program} {E:Env} (hE:EnvOk P E) {ops:List Oper} {t0:List Value} {H:ay} {aU:List (List Nat)} {k:List Value→List (Option ai)→Prop} :
  ∀ {l:List Oper} {ms:List (List Nat)} {j:Nat} {rs:List c7},rs.length=j→(∀ (i:Nat) o,l[i]?=some o→ops[j+i]?=some o)→(∀ i,i < l.length→ms.getD i []=aU.getD (j+i) []) →
  (∀ i,i < j→o9 P ops t0 H aU rs i)→lJ E ops H H.length l ms j (ba ops rs (fun i=>decide (i < j)) t0 j) (rs.map (·.nb)) k →
  ∃ bZ:List c7,bZ.length=j+l.length∧(∀ i,i < j+l.length→o9 P ops t0 H aU bZ i)∧k (ba ops bZ (fun i=>decide (i < j+l.length)) t0 (j+l.length)) (bZ.map (·.nb))
 | [],ms,j,rs,hl,_,_,bc,h=>⟨rs,hl,bc,h⟩
 | o::l,[],j,rs,hl,_,_,bc,h=>h.elim
 | o::l,mask::ms,j,rs,hl,ho,hm,bc,h=>by
  have oz:ops[j]?=some o:=by have:=ho 0 o rfl; simpa using this
  have Ds:mask=aU.getD j []:=by have:=hm 0 (by simp); simpa using this
  -- the next step, whatever this one's result
  have next:∀ (r:c7) t',(t'=match o.dst with | some d=>(ba ops rs (fun i=>decide (i < j)) t0 j).set d r.v | none=>ba ops rs (fun i=>decide (i < j)) t0 j) →
    (o9 P ops t0 H aU (rs++[r]) j)→lJ E ops H H.length l ms (j+1) t' (rs.map (·.nb)++[r.nb]) k →
    ∃ bZ:List c7,bZ.length=j+(o::l).length∧(∀ i,i < j+(o::l).length→o9 P ops t0 H aU bZ i)∧k (ba ops bZ (fun i=>decide (i < j+(o::l).length)) t0 (j+(o::l).length)) (bZ.map (·.nb)):=by
   intro r t' jB hj h';have hv:ba ops (rs++[r]) (fun i=>decide (i < j+1)) t0 (j+1)=t':=by
    have hr:(rs++[r])[j]?=some r:=by rw [← hl]; simp
    have hd:bO ops j=o.dst:=by simp [bO,oz]
    have zZ:ba ops (rs++[r]) (fun i=>decide (i < j+1)) t0 j=ba ops rs (fun i=>decide (i < j)) t0 j:=by
     rw [uf (bZ:=rs) (fun i hi=>by rw [List.getElem?_append_left (by omega)])]
     exact yJ (fun i hi=>by simp; omega)
    have IP:decide (j < j+1)=true:=by simp
    rw [jB,Fy,hr,hd,zZ,IP];cases o.dst <;> rfl
   rw [← hv] at h';have h'':lJ E ops H H.length l ms (j+1) (ba ops (rs++[r]) (fun i=>decide (i < j+1)) t0 (j+1)) ((rs++[r]).map (·.nb)) k:=by simpa using h'
   obtain ⟨bZ,k1,k2,k3⟩:=FZ hE (l:=l) (ms:=ms) (j:=j+1) (rs:=rs++[r]) (by simp [hl]) (fun i p hp=>by have:=ho (i+1) p (by simpa using hp); rwa [show j+1+i=j+(i+1) by omega])
    (fun i hi=>by have:=hm (i+1) (by simp; omega); rw [show j+1+i=j+(i+1) by omega]; simpa using this)
    (fun i hi=>by
     by_cases e:i=j
     ·subst e; exact hj
     ·exact (bc i (by omega)).more (by omega) r) h''
   have e:j+1+l.length=j+(o::l).length:=by simp; omega
   rw [e] at k1 k2 k3;exact ⟨bZ,k1,k2,k3⟩
  have oC:∀ r:c7,ba ops (rs++[r]) (fun i=>decide (i < j)) t0 j=ba ops rs (fun i=>decide (i < j)) t0 j:=fun r=>uf (fun i hi=>by rw [List.getElem?_append_left (by omega)])
  have tP:∀ r:c7,(rs++[r])[j]?=some r:=fun r=>by rw [← hl]; simp
  have run:(o.guard=none∨∃ g want d b,o.guard=some (g,want)∧bO ops g=some d∧(ba ops rs (fun i=>decide (i < j)) t0 j)[d]?=some (.bool b)∧(b == want)=true) →
    (lI (rs.map (·.nb)) 0 mask fun Sm=>nF H Sm fun G=>kZ E o.op (ba ops rs (fun i=>decide (i < j)) t0 j) G (H.length+j) fun v nb=>dr (ba ops rs (fun i=>decide (i < j)) t0 j) o.dst v fun t'=>jt (rs.map (·.nb)) nb fun S'=>lJ E ops H H.length l ms (j+1) t' S' k) →
    ∃ bZ:List c7,bZ.length=j+(o::l).length∧(∀ i,i < j+(o::l).length→o9 P ops t0 H aU bZ i)∧k (ba ops bZ (fun i=>decide (i < j+(o::l).length)) t0 (j+(o::l).length)) (bZ.map (·.nb)):=by
   intro hg h;obtain ⟨Sm,h1,J,h3⟩:=wK h;have h1:=ux h1;obtain ⟨v,nb,hk,hq,tI⟩:=TY (P:=P) hE h1;have lQ:∃ t',(t'=match o.dst with | some d=>(ba ops rs (fun i=>decide (i < j)) t0 j).set d v | none=>ba ops rs (fun i=>decide (i < j)) t0 j)∧(∀ d,o.dst=some d→d < t0.length)∧(jt (rs.map (·.nb)) nb fun S'=>lJ E ops H H.length l ms (j+1) t' S' k):=by
    cases hd:o.dst with
    | none=>rw [hd] at hk; exact ⟨_,rfl,(fun d hd=>by cases hd),hk⟩
    | some d =>
     rw [hd] at hk;obtain ⟨k1,k2⟩:=oV hk;rw [rW] at k1;exact ⟨_,rfl,(fun d' cV=>by cases cV; exact k1),k2⟩
   obtain ⟨t',e1,e2,e3⟩:=lQ;refine next ⟨v,nb,true⟩ t' e1 ⟨⟨o,⟨v,nb,true⟩,oz,tP _,e2,.inl ⟨H++Sm,fun id b hb=>?_,?_,?_⟩⟩,fun p hp hx Rz=>?_⟩ (ui e3)
   rotate_right
   ·rw [oz] at hp; cases hp;have k1:nb=none:=by
     rcases Bool.or_eq_true_iff.1 hx with hx | hx
     ·exact (tI.1 hx).1
     ·exact (tI.2 hx).1
    refine ⟨_,tP _,k1,H++Sm,fun id b hb=>?_,fun hx=>by rw [oC]; exact (tI.1 hx).2,fun hx=>by rw [oC]; exact (tI.2 hx).2⟩
    rw [List.getElem?_append] at hb
    split at hb
    ·exact .inl ⟨by assumption,hb⟩
    ·rename_i eK;obtain ⟨q1,q2⟩:=h3 _ b hb;have al:id - H.length < rs.length:=by
      have:=(List.getElem?_eq_some_iff.1 q1).1
      simpa using this
     refine .inr ⟨id - H.length,by omega,by omega,by rw [← Ds]; simpa using q2,?_⟩
     rw [List.getElem?_append_left al];rw [List.getElem?_map] at q1;cases hr:rs[id - H.length]? with
     | none=>rw [hr] at q1; cases q1
     | some r=>rw [hr] at q1; simpa using q1
   ·rw [List.getElem?_append] at hb
    split at hb
    ·exact .inl ⟨by assumption,hb⟩
    ·rename_i eK;obtain ⟨q1,q2⟩:=h3 _ b hb;have al:id - H.length < rs.length:=by
      have:=(List.getElem?_eq_some_iff.1 q1).1
      simpa using this
     refine .inr ⟨id - H.length,by omega,by omega,by rw [← Ds]; simpa using q2,?_⟩
     rw [List.getElem?_append_left al];rw [List.getElem?_map] at q1;cases hr:rs[id - H.length]? with
     | none=>rw [hr] at q1; cases q1
     | some r=>rw [hr] at q1; simpa using q1
   ·rw [oC];exact fun ν a w q n ha hH hn next Q hN=>hq o ν a w q n rfl ha hH hn next Q hN
   ·rw [oC]; exact hg
  have skip:(∃ g want d v,o.guard=some (g,want)∧bO ops g=some d∧(ba ops rs (fun i=>decide (i < j)) t0 j)[d]?=some v∧((∃ b,v=.bool b∧(b == want)=false)∨∃ vs,v=.tuple vs)) →
    (dr (ba ops rs (fun i=>decide (i < j)) t0 j) o.dst undef fun t'=>jt (rs.map (·.nb)) none fun S'=>lJ E ops H H.length l ms (j+1) t' S' k) →
    ∃ bZ:List c7,bZ.length=j+(o::l).length∧(∀ i,i < j+(o::l).length→o9 P ops t0 H aU bZ i)∧k (ba ops bZ (fun i=>decide (i < j+(o::l).length)) t0 (j+(o::l).length)) (bZ.map (·.nb)):=by
   intro hg hk;have lQ:∃ t',(t'=match o.dst with | some d=>(ba ops rs (fun i=>decide (i < j)) t0 j).set d undef | none=>ba ops rs (fun i=>decide (i < j)) t0 j)∧(∀ d,o.dst=some d→d < t0.length)∧(jt (rs.map (·.nb)) none fun S'=>lJ E ops H H.length l ms (j+1) t' S' k):=by
    cases hd:o.dst with
    | none=>rw [hd] at hk; exact ⟨_,rfl,(fun d hd=>by cases hd),hk⟩
    | some d =>
     rw [hd] at hk;obtain ⟨k1,k2⟩:=oV hk;rw [rW] at k1;exact ⟨_,rfl,(fun d' cV=>by cases cV; exact k1),k2⟩
   obtain ⟨t',e1,e2,e3⟩:=lQ;refine next ⟨undef,none,false⟩ t' e1 ⟨⟨o,⟨undef,none,false⟩,oz,tP _,e2,.inr ⟨rfl,rfl,by rw [oC]; exact hg⟩⟩,fun p hp hx Rz=>?_⟩ (ui e3)
   rw [oz] at hp; cases hp;obtain ⟨g,want,d,v,k1,_⟩:=hg;rw [Rz] at k1; cases k1
  unfold lJ at h
  split at h
  ·exact run (.inl (by assumption)) h
  ·rename_i g want hg
   split at h
   ·rename_i d hd;obtain ⟨v,hv,h⟩:=oU h
    split at h
    ·rename_i b;cases hb:(b == want) with
     | true=>exact run (.inr ⟨g,want,d,b,hg,hd,hv,hb⟩) (CB h hb)
     | false=>exact skip ⟨g,want,d,_,hg,hd,hv,.inl ⟨b,rfl,hb⟩⟩ (Ch h hb)
    ·exact skip ⟨g,want,d,_,hg,hd,hv,.inr ⟨_,rfl⟩⟩ h
    ·exact h.elim
   ·exact h.elim
open Go Go.RowKit
structure Order (ops:List Oper) (aU:List (List Nat)):Prop where
 mask:∀ j o,ops[j]?=some o→∀ i∈aU.getD j [],i < j∧∃ e∈o.after,Region.binds .any e=true∧(e.on=i∨(i∈aU.getD e.on []∧e.on < j))
 back:∀ j o,ops[j]?=some o→∀ e∈o.after,Region.binds .any e=true→e.on < j
structure aaP (ops:List Oper) (m:Nat) (aU:List (List Nat)):Prop extends Order ops aU where
 le:m≤ops.length
 apart:∀ j o i p d,j < m→i < m→i≠j→ops[j]?=some o→ops[i]?=some p→p.dst=some d→o.dst≠some d∧(d ∉ jk ops o∨i∈aU.getD j []∨j∈aU.getD i [])
 tail:∀ j,j < ops.length→m≤j→∀ i,i < j→i∈aU.getD j []
theorem Le {ops:List Oper} {m:Nat} {aU:List (List Nat)} (h:C4 ops m aU=true):aaP ops m aU:=by
 unfold C4 at h;simp only [Bool.and_eq_true,decide_eq_true_eq] at h;obtain ⟨⟨⟨⟨h1,J⟩,h3⟩,h4⟩,h5⟩:=h;have lt:∀ {j:Nat} {o:Oper},ops[j]?=some o→j∈List.range ops.length:=fun hj=>List.mem_range.2 (List.getElem?_eq_some_iff.1 hj).1
 refine ⟨⟨fun j o hj i hi=>?_,fun j o hj e he hb=>?_⟩,h1,fun j o i p d hj hi aD ho hp hd=>?_,fun j hj hm i hi=>?_⟩
 ·unfold CG at J;have:=List.all_eq_true.1 J j (lt hj);rw [hj] at this;have:=List.all_eq_true.1 this i hi;simp only [Bool.and_eq_true,decide_eq_true_eq,List.any_eq_true,Bool.or_eq_true,beq_iff_eq,List.contains_iff_mem] at this;obtain ⟨k1,e,k2,k3,k4⟩:=this;exact ⟨k1,e,by simpa using k2,k3,k4⟩
 ·have:=List.all_eq_true.1 h3 j (lt hj);rw [hj] at this;have:=List.all_eq_true.1 this e (by simpa using he)
  simp only [hb,Bool.not_true,Bool.false_or,decide_eq_true_eq] at this;exact this
 ·have:=List.all_eq_true.1 h4 j (List.mem_range.2 hj);rw [ho] at this;have:=List.all_eq_true.1 this i (List.mem_range.2 hi);rw [hp] at this;have hb:(i == j)=false:=by simp [aD]
  rw [hb,Bool.false_or] at this
  dsimp only at this
  rw [hd] at this;simp only [Bool.and_eq_true,bne_iff_ne,Bool.or_eq_true,Bool.not_eq_true',List.contains_iff_mem,or_assoc] at this;refine ⟨this.1,this.2.imp (fun k=>?_) (fun k=>k)⟩
  intro gL;rw [List.contains_iff_mem.2 gL] at k;cases k
 ·have:=List.all_eq_true.1 h5 j (List.mem_range.2 hj);simp only [Bool.or_eq_true,decide_eq_true_eq,List.all_eq_true,List.mem_range,List.contains_iff_mem] at this;rcases this with h | h
  ·omega
  ·exact h i hi
def DB (aE:Array Bool):Nat→Bool:=fun i=>aE.getD i false
theorem C5 {aE:Array Bool} {j:Nat} (hj:j < aE.size) (i:Nat):DB (aE.setIfInBounds j true) i=(DB aE i || i == j):=by
 unfold DB;by_cases e:j=i
 ·subst e; simp [hj]
 ·rw [getD_set_ne false e];have:(i == j)=false:=by simp; exact fun h=>e h.symm
  rw [this,Bool.or_false]
theorem uG {aE:Array Bool} {i:Nat} (hi:i < aE.size) (d:Bool):aE.getD i d=DB aE i:=by
 unfold DB; simp [hi]
def pf (ops:List Oper) (D:Nat→Bool):Prop:=∀ j o,D j=true→ops[j]?=some o→∀ e∈o.after,Region.binds .any e=true→D e.on=true
theorem ug {ops:List Oper} {aU:List (List Nat)} (hc:Order ops aU) {D:Nat→Bool} (hD:pf ops D):∀ (j:Nat) o,ops[j]?=some o→(∀ e∈o.after,Region.binds .any e=true→D e.on=true)→∀ i∈aU.getD j [],D i=true:=by
 intro j
 induction j using Nat.strongRecOn with
 | _ j ih =>
  intro o ho he i hi;obtain ⟨_,e,h1,J,h3⟩:=hc.mask j o ho i hi;rcases h3 with rfl | ⟨h3,h4⟩
  ·exact he e h1 J
  ·have kv:=he e h1 J;cases oD:ops[e.on]? with
   | none=>rw [List.getElem?_eq_none_iff] at oD; have:=(List.getElem?_eq_some_iff.1 ho).1; omega
   | some p=>exact ih e.on h4 p oD (hD e.on p kv oD) i h3
def gy (D:Nat→Bool) (n:Nat):Nat:=((List.range n).filter fun i=>!D i).length
theorem BC (D:Nat→Bool) (n:Nat):gy D (n+1)=gy D n+if D n then 0 else 1:=by
 unfold gy;rw [List.range_succ,List.filter_append,List.length_append];cases hd:D n <;> simp [hd]
theorem BR {D D':Nat→Bool} {j:Nat} (h:∀ i,D' i=(D i || i == j)) (hj:D j=false):∀ n,gy D' n+(if j < n then 1 else 0)=gy D n
 | 0=>by simp [gy]
 | n+1=>by
  have ih:=BR h hj n;rw [BC,BC,h n];by_cases e:n=j
  ·subst e;simp only [Nat.lt_irrefl,if_false,Nat.add_zero] at ih;rw [hj]; simp; omega
  ·have:(n == j)=false:=by simp [e]
   rw [this,Bool.or_false];by_cases al:j < n
   ·have e1:(if j < n+1 then 1 else 0)=1:=if_pos (by omega)
    rw [if_pos al] at ih; rw [e1]; generalize (if D n=true then 0 else 1)=z; omega
   ·have e1:(if j < n+1 then 1 else 0)=0:=if_neg (by omega)
    rw [if_neg al] at ih; rw [e1]; generalize (if D n=true then 0 else 1)=z; omega
theorem Fz {D:Nat→Bool} {n i:Nat} (hi:i < n) (hD:D i=false):0 < gy D n:=by
 unfold gy;exact List.length_pos_of_mem (List.mem_filter.2 ⟨List.mem_range.2 hi,by simp [hD]⟩)
theorem Bq {ops:List Oper} {o:Oper} {g:Nat} {want:Bool} {d:Tmp} (hg:o.guard=some (g,want)) (hd:bO ops g=some d):d∈jk ops o:=by
 have cV:(ops[g]?).bind (fun x=>x.dst)=some d:=hd
 unfold jk;refine List.mem_append_right _ ?_;rw [hg]
 dsimp only
 rw [cV];simp
section
variable {P:Program} {E:Env} {r:Option Nat} {n:Nat} {F:Fr} {ops:Array Oper} {Q:Exit→Act→World→Prop} {m:Nat} {aU:List (List Nat)} {k:SK}
theorem BD (hc:Order ops.toList aU) {aE:Array Bool} (hs:aE.size=ops.size) {j:Nat} (hj:j < ops.size) (h0:DB aE j=false) (h1:∀ i,i < j→DB aE i=true):j∈Region.ready .any ops aE:=by
 rw [mem_ready];refine ⟨by rw [uG (by omega)]; exact h0,ops[j],Array.getElem?_eq_getElem hj,fun e he hb=>?_⟩
 exact h1 _ (hc.back j ops[j] (by simp [hj]) e he hb)
theorem F0 (hE:jU P E) (bL:k9 F E) (hc:Order ops.toList aU) (adl:∀ j,j < ops.toList.length→m≤j→∀ i,i < j→i∈aU.getD j []) (hk:∀ ν t' H' a' w',bu F ν t' H' a' w'→k t' H'→Q .normal a' w') :
  ∀ (fuel:Nat) (aE:Array Bool) (j0:Nat) (ν:Nu) (t:List Value) (H:ay) (a:Act) (w:World),aE.size=ops.size→(∀ i,DB aE i=decide (i < j0))→m≤j0→j0≤ops.size →
  bu F ν t H a w→nq E ops.toList (ops.toList.drop j0) t H k→ops.size≤j0+fuel→wpAnyIn (WF r) n P .any ops Q fuel aE a w:=by
 intro fuel
 induction fuel with
 | zero =>
  intro aE j0 ν t H a w hs hD hm hle hi h hf;have e:j0=ops.size:=by omega
  subst e;rw [List.drop_eq_nil_of_le (by simp)] at h
  refine ⟨?_,hk _ _ _ _ _ hi h⟩;rw [List.eq_nil_iff_forall_not_mem];intro j hj;rw [mem_ready] at hj;obtain ⟨h1,o,ho,_⟩:=hj;have al:j < ops.size:=(Array.getElem?_eq_some_iff.1 ho).1;rw [uG (by omega),hD j] at h1
  simp at h1; omega
 | succ fuel ih =>
  intro aE j0 ν t H a w hs hD hm hle hi h hf;by_cases e:j0=ops.size
  ·subst e;rw [List.drop_eq_nil_of_le (by simp)] at h
   refine ⟨fun _=>hk _ _ _ _ _ hi h,fun j hj=>?_⟩
   rw [mem_ready] at hj;obtain ⟨h1,o,ho,_⟩:=hj;have al:j < ops.size:=(Array.getElem?_eq_some_iff.1 ho).1;rw [uG (by omega),hD j] at h1
   simp at h1; omega
  ·have al:j0 < ops.size:=by omega
   have hr:=BD hc hs al (by rw [hD]; simp) (fun i hi=>by rw [hD]; simpa using hi)
   refine ⟨fun hn=>?_,fun j hj=>?_⟩
   ·rw [hn] at hr; cases hr
   ·rw [mem_ready] at hj;obtain ⟨h1,o,ho,he⟩:=hj;have nG:j < ops.size:=(Array.getElem?_eq_some_iff.1 ho).1;rw [uG (by omega),hD j] at h1
    have eK:j0≤j:=by simpa using h1
    have gg:ops.toList[j]?=some o:=by simpa using ho
    have kB:j=j0:=by
     rcases Nat.lt_or_ge j0 j with q9 | afL
     ·have gL:=adl j (by simpa using nG) (by omega) j0 q9
      have eZ:pf ops.toList (DB aE):=fun i p aQ hp e' gh bE=>by
       rw [hD] at aQ ⊢;have:=hc.back i p hp e' gh bE;simp at aQ ⊢; omega
      have:=ug hc eZ j o gg (fun e' gh bE=>he e' gh bE) j0 gL
      rw [hD] at this; simp at this
     ·omega
    subst kB;have H6:ops.toList.drop j=o::ops.toList.drop (j+1):=by
     rw [List.drop_eq_getElem_cons (by simpa using nG)]
     congr 1
     have:=List.getElem?_eq_getElem (l:=ops.toList) (i:=j) (by simpa using nG)
     rw [gg] at this; exact (Option.some.inj this).symm
    rw [H6] at h;unfold wpOpIn;rw [ho];refine Fx hE bL hi (MA h) (fun ν t' H' a' w' aQ h'=>?_)
    refine ih _ (j+1) ν t' H' a' w' (by simp [hs]) (fun i=>?_) (by omega) (by omega) aQ h' (by omega)
    rw [C5 (by omega),hD i]
    by_cases e':i=j
    ·subst e'; simp
    ·have:(i == j)=false:=by simp [e']
     rw [this,Bool.or_false];simp; omega
theorem E9 {D:Nat→Bool} {m:Nat} (hD:∀ i,D i=decide (i < m)):∀ q,m≤q→gy D q=q - m:=by
 intro q
 induction q with
 | zero=>intro h; simp [gy]
 | succ q ihq =>
  intro h;rw [BC,hD q];by_cases e:m=q+1
  ·subst e;have:∀ q',q'≤q+1→gy D q'=0:=by
    intro q'
    induction q' with
    | zero=>intro _; simp [gy]
    | succ q' ih'=>intro h'; rw [BC,ih' (by omega),hD q']; simp; omega
   rw [this q (by omega)]; simp
  ·rw [ihq (by omega)]
   have:¬ (q < m):=by omega
   simp [this]; omega
theorem Fa {D:Nat→Bool} {i:Nat} (h:D i=false):∃ j,j≤i∧D j=false∧∀ q,q < j→D q=true:=by
 induction i using Nat.strongRecOn with
 | _ i ihi =>
  by_cases c5:∀ j,j < i→D j=true
  ·exact ⟨i,Nat.le_refl _,h,c5⟩
  ·have:∃ j,j < i∧D j=false:=by
    refine Classical.byContradiction fun aD=>c5 fun j hj=>?_
    cases hd:D j with
    | true=>rfl
    | false=>exact absurd ⟨j,hj,hd⟩ aD
   obtain ⟨j,h3,h4⟩:=this;obtain ⟨q,k1,k2,k3⟩:=ihi j h3 h4;exact ⟨q,by omega,k2,k3⟩
theorem MD (hc:Order ops.toList aU) (u0:m≤ops.size)
  (zw:∀ j o i p d,j < m→i < m→i≠j→ops.toList[j]?=some o→ops.toList[i]?=some p→p.dst=some d→o.dst≠some d∧(d ∉ jk ops.toList o∨i∈aU.getD j []∨j∈aU.getD i []))
  {fl:List Nat} (Dt:∀ j,j < ops.size→m≤j→∀ i,i < m→i ∉ fl→i∈aU.getD j [])
  {t0:List Value} {H:ay} {rs:List c7} (hh:∀ i,i < m→o9 P ops.toList t0 H aU rs i)
  (pI:∀ (fuel:Nat) (aE:Array Bool) (ν:Nu) (a:Act) (w:World),aE.size=ops.size→pf ops.toList (DB aE)→(∀ i,DB aE i=true→i < m)→(∀ i,i < m→i ∉ fl→DB aE i=true) →
   bu F ν (ba ops.toList rs (DB aE) t0 m) (H++kO rs (DB aE) m) a w→gy (DB aE) ops.size≤fuel→wpAnyIn (WF r) n P .any ops Q fuel aE a w) :
  ∀ (fuel:Nat) (aE:Array Bool) (ν:Nu) (a:Act) (w:World),aE.size=ops.size→pf ops.toList (DB aE)→(∀ i,DB aE i=true→i < m) →
  bu F ν (ba ops.toList rs (DB aE) t0 m) (H++kO rs (DB aE) m) a w→(∀ i,i < m→DB aE i=false→ν (H.length+i)=none)→gy (DB aE) ops.size≤fuel →
  wpAnyIn (WF r) n P .any ops Q fuel aE a w:=by
 have lQ:∀ i d,i < m→bO ops.toList i=some d→d < t0.length:=by
  intro i d hi hd;obtain ⟨o,q,h1,J,h3,_⟩:=(hh i hi).ok;unfold bO at hd;rw [h1] at hd;exact h3 d hd
 have pS:xX ops.toList m:=by
  intro i j d hi hj h1 J;rcases Nat.decEq i j with aD | he
  ·obtain ⟨o,q,k1,_⟩:=(hh i hi).ok;obtain ⟨p,q',k2,_⟩:=(hh j hj).ok;unfold bO at h1 J;rw [k1] at h1; rw [k2] at J;exact absurd h1 (zw i o j p d hi hj (Ne.symm aD) k1 k2 J).1
  ·exact he
 intro fuel
 induction fuel with
 | zero =>
  intro aE ν a w hs eZ al hi gm hu;have c5:∀ i,i < ops.size→DB aE i=true:=fun i aQ=>by
   cases hd:DB aE i with
   | true=>rfl
   | false=>have:=Fz aQ hd; omega
  exact pI 0 aE ν a w hs eZ al (fun i aQ _=>c5 i (by omega)) hi hu
 | succ fuel ih =>
  intro aE ν a w hs eZ al hi gm hu;by_cases pC:∀ i,i < m→i ∉ fl→DB aE i=true
  ·exact pI (fuel+1) aE ν a w hs eZ al pC hi hu
  ·-- something of the head has not gone: the least such one may go
   have hex:∃ i,i < m∧i ∉ fl∧DB aE i=false:=by
    refine Classical.byContradiction fun aD=>pC fun i aQ hf=>?_
    cases hd:DB aE i with
    | true=>rfl
    | false=>exact absurd ⟨i,aQ,hf,hd⟩ aD
   obtain ⟨i1,Ez,JJ,c8⟩:=hex;obtain ⟨i0,QC,fE,je⟩:=Fa c8;have gd:i0 < m:=by omega
   have hr:=BD hc hs (by omega:i0 < ops.size) fE je
   refine ⟨(fun hn=>by rw [hn] at hr; cases hr),fun j hj=>?_⟩
   rw [mem_ready] at hj;obtain ⟨h1,o,ho,he⟩:=hj;have nG:j < ops.size:=(Array.getElem?_eq_some_iff.1 ho).1;rw [uG (by omega)] at h1
   have gg:ops.toList[j]?=some o:=by simpa using ho
   have mf:=ug hc eZ j o gg (fun e' gh bE=>he e' gh bE)
   have mQ:j < m:=by
    rcases Nat.lt_or_ge j m with h | h
    ·exact h
    ·have:=mf i1 (Dt j nG h i1 Ez JJ);rw [c8] at this; cases this
   obtain ⟨o',q,g1,g2,g3,g4⟩:=(hh j mQ).ok;rw [gg] at g1; cases g1;have JK:bO ops.toList j=o.dst:=by simp [bO,gg]
   -- what it reads stands as the text's order has it
   have H8:∀ d,d∈jk ops.toList o→(ba ops.toList rs (DB aE) t0 m)[d]?=(ba ops.toList rs (fun i=>decide (i < j)) t0 j)[d]?:=by
    intro d hd;rw [← wR (j:=j) (m:=m) (by omega) (fun i h1 J=>by simp; omega)]
    refine yT pS lQ (fun i aQ gf=>?_)
    by_cases e:i=j
    ·subst e; rw [h1]; simp
    ·obtain ⟨p,q',k1,_⟩:=(hh i aQ).ok;have JL:p.dst=some d:=by unfold bO at gf; rw [k1] at gf; exact gf
     rcases (zw j o i p d mQ aQ e gg k1 JL).2 with h | h | h
     ·exact absurd hd h
     ·rw [mf i h];have:=(hc.mask j o gg i h).1;simp [this]
     ·have hji:=(hc.mask i p k1 j h).1;have:DB aE i=false:=by
       cases cV:DB aE i with
       | false=>rfl
       | true =>
        have:=ug hc eZ i p k1 (eZ i p cV k1) j h;rw [h1] at this; cases this
      rw [this]; simp; omega
   have dg:∀ i,DB (aE.setIfInBounds j true) i=(DB aE i || i == j):=fun i=>C5 (by omega) i
   have yj:pf ops.toList (DB (aE.setIfInBounds j true)):=by
    intro i p aQ hp e' gh bE;rw [dg] at aQ ⊢;by_cases e:i=j
    ·subst e;rw [gg] at hp; cases hp;have:DB aE e'.on=true:=he e' gh bE;rw [this]; rfl
    ·have e2:(i == j)=false:=by simp [e]
     rw [e2,Bool.or_false] at aQ;rw [eZ i p aQ hp e' gh bE]; rfl
   have q9:∀ i,DB (aE.setIfInBounds j true) i=true→i < m:=fun i aQ=>by
    rw [dg] at aQ;by_cases e:i=j
    ·subst e; exact mQ
    ·have e2:(i == j)=false:=by simp [e]
     rw [e2,Bool.or_false] at aQ;exact al i aQ
   have tH:gy (DB (aE.setIfInBounds j true)) ops.size≤fuel:=by
    have:=BR dg h1 ops.size;rw [if_pos nG] at this; omega
   have ve:=LK (D:=DB aE) (D':=DB (aE.setIfInBounds j true)) pS lQ mQ h1 dg g2;rw [JK] at ve;have fx:∀ (id:Nat) (c:ai),(H++kO rs (DB (aE.setIfInBounds j true)) m)[id]?=some (some c) ↔
     (H++kO rs (DB aE) m)[id]?=some (some c)∨(id=H.length+j∧q.nb=some c):=by
    intro id c;by_cases bm:id < H.length
    ·rw [List.getElem?_append_left bm,List.getElem?_append_left bm];constructor
     ·exact .inl
     ·rintro (h | ⟨h,_⟩)
      ·exact h
      ·omega
    ·rw [List.getElem?_append_right (by omega),List.getElem?_append_right (by omega),r6,r6]
     constructor
     ·rintro ⟨k1,k2,k3⟩
      rw [dg] at k2;by_cases e:id - H.length=j
      ·refine .inr ⟨by omega,?_⟩
       rw [e,g2] at k3; exact k3
      ·have e2:(id - H.length == j)=false:=by simp [e]
       rw [e2,Bool.or_false] at k2;exact .inl ⟨k1,k2,k3⟩
     ·rintro (⟨k1,k2,k3⟩ | ⟨k1,k2⟩)
      ·exact ⟨k1,by rw [dg,k2]; rfl,k3⟩
      ·have e:id - H.length=j:=by omega
       rw [e];exact ⟨mQ,by rw [dg]; simp,by rw [g2]; exact k2⟩
   have nf:ν (H.length+j)=none:=gm j mQ h1;have H9:(H++kO rs (DB aE) m).length=H.length+m:=by rw [List.length_append,KS]
   have Hu:(H++kO rs (DB (aE.setIfInBounds j true)) m).length=H.length+m:=by rw [List.length_append,KS]
   -- the state behind it
   have after:∀ v' w' ak,nc ν ak (H.length+j) w w' q.v v' q.nb→wpAnyIn (WF r) n P .any ops Q fuel (aE.setIfInBounds j true) (a.put o.dst v') w':=by
    intro v' w' ak hp;have hb:=hp.below;refine ih _ ak _ w' (by simp [hs]) yj q9 ⟨?_,?_,?_,fun id bm=>?_,hi.kp.below hb,fun id c lc cD ot dN=>?_,Nu.le_trans hi.mono hp.le⟩ (fun i aQ cV=>?_) tH
    ·rw [ve];cases hd:o.dst with
     | none=>exact hi.tm.mono hp.le
     | some d=>rw [sj]; exact (hi.tm.mono hp.le).set hp.val d
    ·cases o.dst <;> exact hi.df.below hb
    ·cases gB:q.nb with
     | none =>
      have:=hp.Ay gB;subst this;refine (hi.hp.below hb).sN (fun id c cD=>?_)
      rcases (fx id c).1 cD with h | ⟨_,h⟩
      ·exact h
      ·rw [gB] at h; cases h
     | some b =>
      obtain ⟨l,hl,hB,hle⟩:=hp.g8 b gB;have kT:ak=ν.add (H.length+j) l:=by
       funext id
       by_cases e:id=H.length+j
       ·subst e; rw [hl,Nu.add_same]
       ·rw [hp.only id e,Nu.iV e]
      subst kT;refine hi.hp.push hb nf _ (fun id c cD=>?_) hle hB
      rcases (fx id c).1 cD with h | ⟨h3,h4⟩
      ·by_cases e:id=H.length+j
       ·obtain ⟨l',cC,_⟩:=hi.hp.aL id c h;rw [e,nf] at cC; cases cC
       ·exact .inr ⟨e,h⟩
      ·rw [gB] at h4; cases h4;exact .inl ⟨h3,rfl⟩
    ·rw [Hu] at bm;rw [hp.only id (by omega)]
     exact hi.fr id (by rw [H9]; exact bm)
    ·rcases (fx id c).1 cD with h | ⟨h3,h4⟩
     ·have aD:id≠H.length+j:=fun e=>by
       obtain ⟨l',cC,_⟩:=hi.hp.aL id c h;rw [e,nf] at cC; cases cC
      rw [hp.only id aD] at dN;exact hi.own id c lc h ot dN
     ·obtain ⟨l,hl,_,hle⟩:=hp.g8 c h4;rw [h3,hl] at dN; cases dN;exact .inr (Nat.le_trans hi.kp.size hle)
    ·have aD:i≠j:=fun e=>by subst e; rw [dg] at cV; simp at cV
     rw [hp.only _ (by omega)]
     refine gm i aQ ?_;rw [dg] at cV;simp only [Bool.or_eq_false_iff] at cV;exact cV.1
   unfold wpOpIn;rw [ho]
   dsimp only
   have fC:∀ d,d∈jk ops.toList o→∀ v,(ba ops.toList rs (fun i=>decide (i < j)) t0 j)[d]?=some v→∃ v',a.tmps[d]?=some v'∧au ν v v':=by
    intro d hd v hv;rw [← H8 d hd] at hv;obtain ⟨v',k1,k2⟩:=hi.tm.get hv;exact ⟨v',by simpa using k1,k2⟩
   rcases g4 with ⟨G,q1,q2,q3⟩ | ⟨q1,q2,g,want,d,v,q3,q4,q5,q6⟩
   ·have hw:Region.wanted o (yielded ops a.tmps)=true:=by
     rcases q3 with hg | ⟨g,want,d,b,hg,hd,hv,hb⟩
     ·simp [Region.wanted,hg]
     ·obtain ⟨v',k1,k2⟩:=fC d (Bq hg hd) _ hv;rw [k2.j7] at k1;have hy:=yR (ops:=ops) (tmps:=a.tmps) (j:=g) (d:=d) (by simpa [bO] using hd)
      rw [k1] at hy;simp only [Region.wanted,hg,hy];rw [← hb];cases b <;> cases want <;> rfl
    rw [if_pos hw];refine q2 ν a w r n (fun x hx t ht v hv=>fC t ?_ v hv) (hi.hp.sN fun id b hb=>?_) nf _ Q after
    ·unfold jk;exact List.mem_append_left _ (p8 (by rw [ht] at hx; simpa using hx))
    ·rcases q1 id b hb with ⟨h3,h4⟩ | ⟨i,h3,h4,h5,h6⟩
     ·rw [List.getElem?_append_left h3]; exact h4
     ·subst h3;rw [List.getElem?_append_right (by omega)]
      rw [show H.length+i - H.length=i by omega,r6]
      exact ⟨by omega,mf i h5,h6⟩
   ·have hw:Region.wanted o (yielded ops a.tmps)=false:=by
     obtain ⟨v',k1,k2⟩:=fC d (Bq q3 q4) _ q5;have hy:=yR (ops:=ops) (tmps:=a.tmps) (j:=g) (d:=d) (by simpa [bO] using q4)
     rw [k1] at hy;rcases q6 with ⟨b,rfl,hb⟩ | ⟨vs,rfl⟩
     ·rw [k2.j7] at hy;simp only [Region.wanted,q3,hy];rw [← hb];cases b <;> cases want <;> rfl
     ·obtain ⟨ys,rfl,_⟩:=au.nR (xs:=vs.toList) k2;simp only [Region.wanted,q3,hy]
      rfl
    rw [if_neg (by rw [hw]; simp)]
    refine ⟨fun _ _=>trivial,after undef w ν ⟨ν.le_refl,fun _ _=>rfl,by rw [q1]; exact .undef ν,Below.refl _ _,fun _=>rfl,(fun b hb=>by rw [q2] at hb; cases hb)⟩⟩
theorem Wo (hm:P.follows .mixedOrders=true):nC P PT:=by
 intro E hE r n F bL ops Q id ν tmps H a w k hi h hk;obtain ⟨m,aU,bc,h⟩:=h;have h:=mr h;obtain ⟨QD,h⟩:=yS h;have hc:=Le bc;obtain ⟨rs,iQ,kg,gk⟩:=FZ (P:=P) hE.toEnvOk (ops:=ops.toList) (t0:=tmps) (H:=H) (aU:=aU) (l:=ops.toList.take m) (ms:=aU) (j:=0) (rs:=[]) rfl
  (fun i o ho=>by
   rw [List.getElem?_take] at ho
   split at ho
   ·simpa using ho
   ·cases ho)
  (fun i _=>by simp) (fun i hi=>by omega) h
 have gk:=ux gk;have hlen:0+(ops.toList.take m).length=m:=by rw [List.length_take]; omega
 rw [hlen] at iQ kg gk;refine wpIn_region_any hm ?_;have hD:DB (Array.replicate ops.size false)=fun _=>false:=by
  funext i
  unfold DB;by_cases h:i < ops.size <;> simp [h]
 refine MD (F:=F) (fl:=[]) hc.toOrder (by have:=hc.le; simpa using this) hc.apart (fun j hj hm i hi _=>hc.tail j (by simpa using hj) hm i (by omega)) kg ?_ ops.size _ ν a _ (by simp) (fun j o hj=>by rw [hD] at hj; cases hj) (fun i aQ=>by rw [hD] at aQ; cases aQ) ?_ (fun i _ _=>hi.fr _ (by omega)) ?_
 ·intro fuel aE ν a w hs eZ al c5 hi hu;have hle:m≤ops.size:=by have:=hc.le; simpa using this
  have hD:∀ i,DB aE i=decide (i < m):=fun i=>by
   by_cases h:i < m
   ·rw [c5 i h (by simp)]; simp [h]
   ·cases hd:DB aE i with
    | true=>exact absurd (al i hd) h
    | false=>simp [h]
  have e1:ba ops.toList rs (DB aE) tmps m=ba ops.toList rs (fun i=>decide (i < m)) tmps m:=yJ (fun i _=>hD i)
  have e2:kO rs (DB aE) m=rs.map (·.nb):=by
   unfold kO;apply List.ext_getElem?;intro i;rw [List.getElem?_map,List.getElem?_map];by_cases h:i < m
   ·rw [List.getElem?_range h,List.getElem?_eq_getElem (by omega:i < rs.length)]
    simp only [Option.map_some,hD i,h,decide_true,if_true];rw [List.getElem?_eq_getElem (by omega:i < rs.length)]; rfl
   ·rw [List.getElem?_eq_none (by simp; omega),List.getElem?_eq_none (by omega)]; rfl
  rw [e1,e2] at hi;exact F0 hE bL hc.toOrder hc.tail hk fuel aE m ν _ _ a w hs hD (Nat.le_refl _) hle hi gk (by
   have:=E9 hD ops.size hle; omega)
 ·rw [hD];have e1:ba ops.toList rs (fun _=>false) tmps m=tmps:=wR (j:=0) (by omega) (fun _ _ _=>rfl)
  rw [e1];have kP:Below w.heap.size w { w with drawn:=w.drawn+1 }:=⟨rfl,rfl,rfl,Nat.le_refl _,fun _ _=>rfl⟩
  refine ⟨hi.tm,hi.df.below kP,(hi.hp.below kP).sN (fun id c cD=>?_),fun id bm=>hi.fr id (by rw [List.length_append] at bm; omega),hi.kp.below kP,fun id c lc cD ot dN=>?_,hi.mono⟩
  ·rw [List.getElem?_append] at cD
   split at cD
   ·exact cD
   ·have:=(r6.1 cD).2.1; cases this
  ·rw [List.getElem?_append] at cD
   split at cD
   ·exact hi.own id c lc cD ot dN
   ·have:=(r6.1 cD).2.1; cases this
 ·unfold gy;have:=List.length_filter_le (fun i=>!DB (Array.replicate ops.size false) i) (List.range ops.size)
  simpa using this
end
open Go Go.RowKit
def IQ (E:Env) (o:Oper) (t:List Value) (H:ay) (k:SK):Prop :=
 match o.op with
 | .store ty x y=>C2 E t H ty x y fun t' H'=>dr t' o.dst undef fun vP=>k vP H'
 | .call c=>match c.callee with
  | .builtin .append=>match c.args.toList,c.argTypes.toList with
   | [x,y],[ty,ty']=>match Nat.beq ty ty' with
    | true=>bS t x fun xv=>bS t y fun yv=>match Ck xv with
     | true=>GQ E [] H ty xv yv fun v _ H'=>dr t o.dst v fun t'=>k t' H'
     | false=>False
    | false=>False
   | _,_=>False
  | .builtin .copy=>match c.args.toList,c.argTypes.toList with
   | [x,y],[ty,_]=>bS t x fun xv=>bS t y fun yv=>GR E H ty xv yv fun v H'=>dr t o.dst v fun t'=>k t' H'
   | _,_=>False
  | _=>jw H fun aJ=>kZ E o.op t H aJ fun v nb=>dr t o.dst v fun t'=>vx H nb fun H'=>k t' H'
 | _=>jw H fun aJ=>kZ E o.op t H aJ fun v nb=>dr t o.dst v fun t'=>vx H nb fun H'=>k t' H'
def QE:Option Nat→ay→ay→Prop→Prop
 | none,_,_,k=>k
 | some n,H,H',k=>H'.take n=H.take n∧k
def Du (E:Env) (fz:Option Nat):List Oper→List Value→ay→SK→Prop
 | [],t,H,k=>k t H
 | o::l,t,H,k=>IQ E o t H fun t' H'=>QE fz H H' (Du E fz l t' H' k)
theorem ME {fz:Option Nat} {H H':ay} {k:Prop} (h:QE fz H H' k):k∧∀ n,fz=some n→H'.take n=H.take n:=by
 cases fz with
 | none=>exact ⟨h,fun n e=>by cases e⟩
 | some m=>exact ⟨h.2,fun n e=>by cases e; exact h.1⟩
def IS (ops:List Oper) (fl:List Nat) (n:Nat):Option Nat:=match fl.all fun f=>match ops[f]? with | some o=>mw o.op | none=>true with
 | true=>none
 | false=>some n
def GW (ops:List Oper) (m q:Nat) (aU:List (List Nat)) (fl:List Nat):Bool :=
 decide (m+q≤ops.length) && CG ops aU &&
 (List.range ops.length).all (fun j=>match ops[j]? with
  | some o=>o.after.toList.all fun e=>!Region.binds .any e || decide (e.on < j)
  | none=>true) &&
 (List.range m).all (fun j=>match ops[j]? with
  | some o=>(List.range m).all fun i=>i == j || match ops[i]? with
   | some p=>match p.dst with
    | some d=>(o.dst != some d) && (!(jk ops o).contains d || (aU.getD j []).contains i || (aU.getD i []).contains j)
    | none=>true
   | none=>true
  | none=>true) &&
 fl.all (fun f=>decide (f < m) && match ops[f]? with
  | some o=>o.guard.isNone && ((mw o.op || (my o.op && (aU.getD f []).all fun i=>fl.contains i)) && ((match o.dst with | some d=>!(iI o.op.operands.toList).contains d | none=>false) && (List.range (m+q)).all fun i=>i == f || (match bO ops i with
   | none=>true
   | some e=>(o.dst != some e) && (!(iI o.op.operands.toList).contains e || (decide (i < m) && (aU.getD f []).contains i)))))
  | none=>false) &&
 (List.range (m+q)).all (fun j=>decide (j < m) || match ops[j]? with
  | some o=>o.guard.isNone && ((List.range j).all fun i=>(aU.getD j []).contains i || fl.contains i) && fl.all fun f=>(aU.getD j []).contains f || match bO ops f with | some d=>!(jk ops o).contains d | none=>false
  | none=>true) &&
 (List.range ops.length).all (fun j=>decide (j < m+q) || (List.range j).all fun i=>(aU.getD j []).contains i)
structure Ok (ops:List Oper) (m q:Nat) (aU:List (List Nat)) (fl:List Nat):Prop extends Order ops aU where
 le:m+q≤ops.length
 apart:∀ j o i p d,j < m→i < m→i≠j→ops[j]?=some o→ops[i]?=some p→p.dst=some d→o.dst≠some d∧(d ∉ jk ops o∨i∈aU.getD j []∨j∈aU.getD i [])
 rD:∀ f∈fl,f < m∧∃ o d,ops[f]?=some o∧o.guard=none∧(mw o.op=true∨(my o.op=true∧∀ i∈aU.getD f [],i∈fl))∧o.dst=some d∧d ∉ iI o.op.operands.toList∧∀ i e,i < m+q→i≠f→bO ops i=some e→e≠d∧(e∈iI o.op.operands.toList→i < m∧i∈aU.getD f [])
 mid:∀ j o,m≤j→j < m+q→ops[j]?=some o→o.guard=none∧(∀ i,i < j→i∈aU.getD j []∨i∈fl)∧∀ f∈fl,f∈aU.getD j []∨∀ d,bO ops f=some d→d ∉ jk ops o
 tail:∀ j,j < ops.length→m+q≤j→∀ i,i < j→i∈aU.getD j []
theorem SS {ops:List Oper} {m q:Nat} {aU:List (List Nat)} {fl:List Nat} (h:GW ops m q aU fl=true):Ok ops m q aU fl:=by
 unfold GW at h;simp only [Bool.and_eq_true,decide_eq_true_eq] at h;obtain ⟨⟨⟨⟨⟨⟨h1,J⟩,h3⟩,h4⟩,h5⟩,h6⟩,h7⟩:=h;have lt:∀ {j:Nat} {o:Oper},ops[j]?=some o→j∈List.range ops.length:=fun hj=>List.mem_range.2 (List.getElem?_eq_some_iff.1 hj).1
 refine ⟨⟨fun j o hj i hi=>?_,fun j o hj e he hb=>?_⟩,h1,fun j o i p d hj hi aD ho hp hd=>?_,fun f hf=>?_,fun j o hm hj ho=>?_,fun j hj hm i hi=>?_⟩
 ·unfold CG at J;have:=List.all_eq_true.1 J j (lt hj);rw [hj] at this;have:=List.all_eq_true.1 this i hi;simp only [Bool.and_eq_true,decide_eq_true_eq,List.any_eq_true,Bool.or_eq_true,beq_iff_eq,List.contains_iff_mem] at this;obtain ⟨k1,e,k2,k3,k4⟩:=this;exact ⟨k1,e,by simpa using k2,k3,k4⟩
 ·have:=List.all_eq_true.1 h3 j (lt hj);rw [hj] at this;have:=List.all_eq_true.1 this e (by simpa using he)
  simp only [hb,Bool.not_true,Bool.false_or,decide_eq_true_eq] at this;exact this
 ·have:=List.all_eq_true.1 h4 j (List.mem_range.2 hj);rw [ho] at this;have:=List.all_eq_true.1 this i (List.mem_range.2 hi);rw [hp] at this;have hb:(i == j)=false:=by simp [aD]
  rw [hb,Bool.false_or] at this
  dsimp only at this
  rw [hd] at this;simp only [Bool.and_eq_true,bne_iff_ne,Bool.or_eq_true,Bool.not_eq_true',List.contains_iff_mem,or_assoc] at this;refine ⟨this.1,this.2.imp (fun k=>?_) (fun k=>k)⟩
  intro gL;rw [List.contains_iff_mem.2 gL] at k;cases k
 ·have:=List.all_eq_true.1 h5 f hf;simp only [Bool.and_eq_true,decide_eq_true_eq] at this;obtain ⟨k1,k2⟩:=this;refine ⟨k1,?_⟩
  split at k2
  ·rename_i o ho;simp only [Bool.and_eq_true,Bool.or_eq_true,Option.isNone_iff_eq_none] at k2;obtain ⟨k2,hx,k3,k4⟩:=k2;cases hd:o.dst with
   | none=>rw [hd] at k3; cases k3
   | some d =>
   rw [hd] at k3;have HV:d ∉ iI o.op.operands.toList:=fun hm=>by
    have k3:(!(iI o.op.operands.toList).contains d)=true:=k3;rw [List.contains_iff_mem.2 hm] at k3; cases k3
   refine ⟨o,d,ho,k2,hx.imp id (fun h=>⟨h.1,fun i hi=>by simpa using List.all_eq_true.1 h.2 i hi⟩),hd,HV,fun i e hi aD he=>?_⟩
   have:=List.all_eq_true.1 k4 i (List.mem_range.2 hi);have hb:(i == f)=false:=by simp [aD]
   rw [hb,Bool.false_or,he,hd] at this;simp only [Bool.or_eq_true,Bool.and_eq_true,bne_iff_ne,decide_eq_true_eq,List.contains_iff_mem,Bool.not_eq_true'] at this;obtain ⟨h1,J⟩:=this;refine ⟨fun e'=>h1 (by rw [e']),fun e'=>?_⟩
   rcases J with J | J
   ·rw [List.contains_iff_mem.2 e'] at J; cases J
   ·exact J
  ·cases k2
 ·have:=List.all_eq_true.1 h6 j (List.mem_range.2 hj);have hd:decide (j < m)=false:=by simp; omega
  rw [hd,Bool.false_or,ho] at this;simp only [Bool.and_eq_true,Option.isNone_iff_eq_none,List.all_eq_true,List.mem_range,Bool.or_eq_true,List.contains_iff_mem] at this;obtain ⟨⟨k1,k2⟩,k3⟩:=this;refine ⟨k1,k2,fun f hf=>(k3 f hf).imp (fun h=>h) (fun h d hd=>?_)⟩
  rw [hd] at h;simp only [Bool.not_eq_true'] at h;intro gL;rw [List.contains_iff_mem.2 gL] at h;cases h
 ·have:=List.all_eq_true.1 h7 j (List.mem_range.2 hj);simp only [Bool.or_eq_true,decide_eq_true_eq,List.all_eq_true,List.mem_range,List.contains_iff_mem] at this;rcases this with h | h
  ·omega
  ·exact h i hi
def PU (E:Env) (ops:List Oper) (t:List Value) (H:ay) (k:SK):Prop :=
 ∃ (m q:Nat) (aU:List (List Nat)) (fl:List Nat),GW ops m q aU fl=true∧jw H fun n0=>vf ops m fun hd tl=>vf tl q fun md tl2 =>
  lJ E ops H n0 hd aU 0 t [] fun t' S=>nF H S fun G=>Du E (IS ops fl n0) md t' G fun t2 G2=>nq E ops tl2 t2 G2 k
structure vy (fz:Option Nat) (P:Program) (F:Fr) (bh:Nu) (ops:List Oper) (fl:List Nat) (D:Nat→Bool) (ν:Nu) (t:List Value) (H:ay) (a:Act) (w:World):Prop where
 len:t.length=a.tmps.toList.length
 tm:∀ (d:Nat) v,t[d]?=some v→(∀ f∈fl,D f=false→bO ops f≠some d)→∃ v',a.tmps.toList[d]?=some v'∧au ν v v'
 un:∀ f∈fl,D f=false→∀ o d,ops[f]?=some o→o.dst=some d→∃ v G,t[d]?=some v∧nZ P bh G o.op t v∧∀ id b,G[id]?=some (some b)→H[id]?=some (some b)∧∃ n,fz=some n∧id < n
 le:bh.le ν
 rest:bu F ν [] H { a with tmps:=#[] } w
theorem Ol:∀ {l:List Value} {n:Nat} {v:Value} {k:List Value→Prop},n < l.length→k (l.set n v)→yd l n v k
 | [],_,_,_,h,_=>absurd h (Nat.not_lt_zero _)
 | _::l,0,v,k,_,h=>h
 | x::l,n+1,v,k,h,hk=>Ol (l:=l) (by simpa using h) hk
theorem nZ.same {P:Program} {bh:Nu} {G:ay} {op:Op} {t t':List Value} {v:Value} (h:nZ P bh G op t v) (hs:∀ s∈iI op.operands.toList,t'[s]?=t[s]?):nZ P bh G op t' v :=
 ⟨h.1,fun o ν a w hle ho ha=>h.2 o ν a w hle ho fun x hx s nE u hu=>ha x hx s nE u (by rw [hs s (p8 (by rw [← nE]; simpa using hx))]; exact hu)⟩
theorem qL.heap {P:Program} {bh:Nu} {op:Op} {t:List Value} {v:Value} (h:qL P bh op t v) (G:ay):nZ P bh G op t v:=⟨h.1,fun o ν a w hle ho ha _=>h.2 o ν a w hle ho ha⟩
theorem MF {fz:Option Nat} {G H H':ay} (h:∀ id b,G[id]?=some (some b)→H[id]?=some (some b)∧∃ n,fz=some n∧id < n) (hf:∀ n,fz=some n→H'.take n=H.take n) :
  ∀ id b,G[id]?=some (some b)→H'[id]?=some (some b)∧∃ n,fz=some n∧id < n:=fun id b hb=>by
 obtain ⟨h1,n,J,h3⟩:=h id b hb;refine ⟨?_,n,J,h3⟩;have:=congrArg (fun l=>l[id]?) (hf n J)
 simp only [List.getElem?_take,if_pos h3] at this;rw [this]; exact h1
theorem Cl {op:Op} {C:Prop} (h:mw op=true∨(my op=true∧C)):(mw op || my op)=true:=by
 rcases h with h | ⟨h,_⟩
 ·rw [h]; rfl
 ·rw [h]; simp
theorem Gp {t:List Value} {o:Option Tmp} {v:Value} {k:List Value→Prop} {C:Prop} (h:dr t o v k) (hk:∀ t,k t→C):C:=by
 cases o with
 | none=>exact hk _ h
 | some d=>exact hk _ (oV h).2
theorem vy.put {fz:Option Nat} {P:Program} {F:Fr} {bh:Nu} {ops:List Oper} {fl:List Nat} {D D':Nat→Bool} {ν ak:Nu} {t:List Value} {H H':ay} {a:Act} {w w':World} (h:vy fz P F bh ops fl D ν t H a w) (JM:∀ n,fz=some n→H'.take n=H.take n) (hle:ν.le ak)
  (hD:∀ f∈fl,D' f=D f) {v v':Value} (hv:au ak v v') {o:Option Tmp} (ho:∀ d,o=some d→∀ f∈fl,∀ p e,ops[f]?=some p→p.dst=some e→d≠e∧d ∉ iI p.op.operands.toList)
  {k:List Value→Prop} (hk:dr t o v k) (hr:bu F ak [] H' { a with tmps:=#[] } w'):∃ t',k t'∧vy fz P F bh ops fl D' ak t' H' (a.put o v') w':=by
 cases o with
 | none =>
  refine ⟨t,hk,h.len,fun d u hu hn=>?_,fun f mg hd p e h1 J=>?_,Nu.le_trans h.le hle,hr⟩
  ·obtain ⟨u',k1,k2⟩:=h.tm d u hu (fun f mg hd=>hn f mg (by rw [hD f mg]; exact hd))
   exact ⟨u',k1,k2.mono hle⟩
  ·obtain ⟨u,G,q1,q2,q3⟩:=h.un f mg (by rw [← hD f mg]; exact hd) p e h1 J
   exact ⟨u,G,q1,q2,MF q3 JM⟩
 | some d0 =>
  obtain ⟨h1,J⟩:=oV hk;refine ⟨_,J,?_,fun d u hu hn=>?_,fun f mg hd p e k1 k2=>?_,Nu.le_trans h.le hle,hr⟩
  ·rw [sj,List.length_set,List.length_set]; exact h.len
  ·rw [sj];by_cases e:d0=d
   ·subst e;rw [List.getElem?_set_self h1] at hu;cases hu;exact ⟨v',by rw [List.getElem?_set_self (by rw [← h.len]; exact h1)],hv⟩
   ·rw [List.getElem?_set_ne e] at hu ⊢;obtain ⟨u',k1,k2⟩:=h.tm d u hu (fun f mg hd=>hn f mg (by rw [hD f mg]; exact hd))
    exact ⟨u',k1,k2.mono hle⟩
  ·obtain ⟨aD,hns⟩:=ho d0 rfl f mg p e k1 k2;obtain ⟨u,G,q1,q2,q3⟩:=h.un f mg (by rw [← hD f mg]; exact hd) p e k1 k2
   exact ⟨u,G,by rw [List.getElem?_set_ne aD]; exact q1,q2.same fun s hs=>by rw [List.getElem?_set_ne (fun e:d0=s=>hns (by rw [e]; exact hs))],MF q3 JM⟩
section
variable {fz:Option Nat} {P:Program} {E:Env} {r:Option Nat} {n:Nat} {F:Fr} {ops:Array Oper} {Q:Exit→Act→World→Prop} {m q:Nat} {aU:List (List Nat)} {fl:List Nat} {k:SK}
theorem Wp (hE:jU P E) (bL:k9 F E) {bh:Nu} {o:Oper} {D D':Nat→Bool} {ν:Nu} {t:List Value} {H:ay} {a:Act} {w:World} (h:vy fz P F bh ops.toList fl D ν t H a w) {k:SK} (AR:∀ t' H',k t' H'→∀ n,fz=some n→H'.take n=H.take n)
  (hD:∀ f∈fl,D' f=D f)
  (fC:∀ f∈fl,D f=false→∀ d,bO ops.toList f=some d→d ∉ jk ops.toList o)
  (ho:∀ d,o.dst=some d→∀ f∈fl,∀ p e,ops.toList[f]?=some p→p.dst=some e→d≠e∧d ∉ iI p.op.operands.toList)
  (hk:IQ E o t H k) {next:Act→World→Prop} {Q:Exit→Act→World→Prop}
  (hn:∀ ak t' H' a' w',vy fz P F bh ops.toList fl D' ak t' H' a' w'→k t' H'→next a' w'):o.wpIn (WF r) n P a w next Q:=by
 have oD:∀ x∈o.op.operands,fm ν t a x:=fun x hx s hs v hv=>by
  obtain ⟨v',k1,k2⟩:=h.tm s v hv (fun f mg hd eX=>fC f mg hd s eX (by unfold jk; exact List.mem_append_left _ (p8 (by rw [hs] at hx; simpa using hx))))
  exact ⟨v',by simpa using k1,k2⟩
 have quiet:(jw H fun aJ=>kZ E o.op t H aJ fun v nb=>dr t o.dst v fun t'=>vx H nb fun H'=>k t' H')→o.wpIn (WF r) n P a w next Q:=by
  intro hk;have hk:=mr hk;obtain ⟨v,nb,rC,hq⟩:=BW (P:=P) hE.toEnvOk hk;refine hq o ν a w r n rfl oD h.rest.hp (h.rest.fr _ (Nat.le_refl _)) next Q (fun v' w' ak hp=>?_)
  cases hd:o.dst with
  | none =>
   rw [hd] at rC ho;obtain ⟨H',h1,J⟩:=h.rest.quiet hp rC;obtain ⟨t',k1,k2⟩:=h.put (D':=D') (o:=none) (AR _ _ h1) hp.le hD hp.val (fun d hd=>by cases hd) (k:=fun t'=>t'=t) rfl J
   subst k1;exact hn _ _ _ _ _ k2 h1
  | some d =>
   rw [hd] at rC ho;obtain ⟨h1,J⟩:=oV rC;obtain ⟨H',h3,h4⟩:=h.rest.quiet hp J;obtain ⟨t',k1,k2⟩:=h.put (D':=D') (o:=some d) (AR _ _ h3) hp.le hD hp.val ho (k:=fun t'=>k t' H') (by
    show yd t d v _
    exact Ol h1 h3) h4
   exact hn _ _ _ _ _ k2 k1
 unfold IQ at hk
 split at hk
 ·rename_i ty x y ar;have hx:fm ν t a x:=oD x (by rw [ar]; simp [Op.operands])
  have hy:fm ν t a y:=oD y (by rw [ar]; simp [Op.operands])
  obtain ⟨w',H',bB,aQ,J⟩:=Lz hE.toEnvOk ar h.rest hx hy hk;obtain ⟨t',k1,k2⟩:=h.put (D':=D') (o:=o.dst) (Gp J fun t hk=>AR t _ hk) ν.le_refl hD (.undef ν) ho J aQ
  refine ⟨fun _ _=>trivial,?_⟩
  rw [Oper.semAt_eq _ _ _ (by simp [ar]),bB]
  exact hn _ _ _ _ _ k2 k1
 ·rename_i c ar
  split at hk
  ·rename_i hc
   split at hk
   ·rename_i x y t1 t2 rE EA
    split at hk
    ·rename_i hb;have hb:t1=t2:=Nat.eq_of_beq_eq_true hb;subst hb;have vV:c.args=#[x,y]:=Array.ext' rE;have AD:c.argTypes=#[t1,t1]:=Array.ext' EA;obtain ⟨xv,gO,vM⟩:=kG hk (oD x (by rw [ar]; simp [Op.operands,Call.operands,vV]))
     obtain ⟨yv,AS,vN⟩:=kG gO (oD y (by rw [ar]; simp [Op.operands,Call.operands,vV]))
     split at AS
     ·rename_i hex;obtain ⟨v,v',ak,t',H',w',h1,J,h3,h4,h5⟩:=Lc hE.toEnvOk bL h.rest vM vN AS o.type;obtain rfl:t'=[]:=List.eq_nil_of_length_eq_zero (by have:=h3.tm.1; simpa using this)
      obtain ⟨t2,k1,k2⟩:=h.put (D':=D') (Gp h1 fun t hk=>AR t _ hk) (h5 hex) hD J ho h1 h3
      exact jH (by simp [ar]) (by simp [execOp,ar,resolve,hc,vV,AD,invoke,builtin,h4]) next Q (hn _ _ _ _ _ k2 k1)
     ·exact AS.elim
    ·exact hk.elim
   ·exact hk.elim
  ·rename_i hc
   split at hk
   ·rename_i x y t1 t2 rE EA;have vV:c.args=#[x,y]:=Array.ext' rE;have AD:c.argTypes=#[t1,t2]:=Array.ext' EA;obtain ⟨xv,gO,vM⟩:=kG hk (oD x (by rw [ar]; simp [Op.operands,Call.operands,vV]))
    obtain ⟨yv,AS,vN⟩:=kG gO (oD y (by rw [ar]; simp [Op.operands,Call.operands,vV]))
    obtain ⟨v,H',w',h1,J,h3,h4⟩:=LF hE.toEnvOk h.rest vM vN AS t2 o.type;obtain ⟨t2,k1,k2⟩:=h.put (D':=D') (Gp h1 fun t hk=>AR t _ hk) ν.le_refl hD J ho h1 h3
    exact jH (by simp [ar]) (by simp [execOp,ar,resolve,hc,vV,AD,invoke,builtin,h4]) next Q (hn _ _ _ _ _ k2 k1)
   ·exact hk.elim
  ·exact quiet hk
 ·exact quiet hk
theorem Wq (hE:jU P E) (bL:k9 F E) (hc:Ok ops.toList m q aU fl) (hk:∀ ν t' H' a' w',bu F ν t' H' a' w'→k t' H'→Q .normal a' w') :
  ∀ (fuel:Nat) (aE:Array Bool) (j0:Nat) (bh ν:Nu) (t:List Value) (H:ay) (a:Act) (w:World),aE.size=ops.size→pf ops.toList (DB aE)→m≤j0→j0≤m+q →
  (∀ i,i < j0→i ∉ fl→DB aE i=true)→(∀ i,DB aE i=true→i < j0)→vy fz P F bh ops.toList fl (DB aE) ν t H a w →
  Du E fz ((ops.toList.take (m+q)).drop j0) t H (fun t' H'=>nq E ops.toList (ops.toList.drop (m+q)) t' H' k)→gy (DB aE) ops.size≤fuel→wpAnyIn (WF r) n P .any ops Q fuel aE a w:=by
 have hle:m+q≤ops.size:=by have:=hc.le; simpa using this
 have yg:∀ (i:Nat) (d:Tmp),i < m+q→m≤i→bO ops.toList i=some d→∀ f∈fl,f≠i→∀ p e,ops.toList[f]?=some p→p.dst=some e→d≠e∧d ∉ iI p.op.operands.toList:=by
  intro i d hi Dt hd f hf aD p e h1 h3;obtain ⟨_,o,d',k1,k2,k3,k4,_,k5⟩:=hc.rD f hf;rw [h1] at k1; cases k1;rw [h3] at k4; cases k4;obtain ⟨q1,q2⟩:=k5 i d hi (Ne.symm aD) hd;exact ⟨q1,fun e'=>by have:=(q2 e').1; omega⟩
 have finish:∀ (fuel:Nat) (aE:Array Bool) (j0:Nat) (bh ν:Nu) (t:List Value) (H:ay) (a:Act) (w:World),aE.size=ops.size→m≤j0→j0≤m+q→(∀ i,DB aE i=true→i < j0)→vy fz P F bh ops.toList fl (DB aE) ν t H a w →
   Du E fz ((ops.toList.take (m+q)).drop j0) t H (fun t' H'=>nq E ops.toList (ops.toList.drop (m+q)) t' H' k)→gy (DB aE) ops.size≤fuel→(∀ i,i < m+q→DB aE i=true)→wpAnyIn (WF r) n P .any ops Q fuel aE a w:=by
  intro fuel aE j0 bh ν t H a w hs hm kB al hi h hu c5;have e:j0=m+q:=by
   rcases Nat.lt_or_ge j0 (m+q) with h' | h'
   ·have:=al j0 (c5 j0 h'); omega
   ·omega
  subst e;rw [List.drop_eq_nil_of_le (by simp; omega)] at h
  have hD:∀ i,DB aE i=decide (i < m+q):=fun i=>by
   by_cases h:i < m+q
   ·rw [c5 i h]; simp [h]
   ·cases hd:DB aE i with
    | true=>exact absurd (al i hd) h
    | false=>simp [h]
  have aQ:bu F ν t H a w:=⟨⟨hi.len,fun d x y hx hy=>by
   obtain ⟨y',k1,k2⟩:=hi.tm d x hx (fun f hf hd=>by have:=(hc.rD f hf).1; rw [c5 f (by omega)] at hd; cases hd)
   rw [hy] at k1; cases k1; exact k2⟩,hi.rest.df,hi.rest.hp,hi.rest.fr,hi.rest.kp,hi.rest.own,hi.rest.mono⟩
  exact F0 hE bL hc.toOrder (m:=m+q) hc.tail hk fuel aE (m+q) ν t H a w hs hD (Nat.le_refl _) hle aQ h (by
   have:=E9 hD ops.size hle; omega)
 intro fuel
 induction fuel with
 | zero =>
  intro aE j0 bh ν t H a w hs eZ hm kB pC al hi h hu;exact finish 0 aE j0 bh ν t H a w hs hm kB al hi h hu (fun i aQ=>by
   cases hd:DB aE i with
   | true=>rfl
   | false=>have:=Fz (n:=ops.size) (by omega:i < ops.size) hd; omega)
 | succ fuel ih =>
  intro aE j0 bh ν t H a w hs eZ hm kB pC al hi h hu;by_cases c5:∀ i,i < m+q→DB aE i=true
  ·exact finish (fuel+1) aE j0 bh ν t H a w hs hm kB al hi h hu c5
  ·have hex:∃ i,i < m+q∧DB aE i=false:=by
    refine Classical.byContradiction fun aD=>c5 fun i aQ=>?_
    cases hd:DB aE i with
    | true=>rfl
    | false=>exact absurd ⟨i,aQ,hd⟩ aD
   obtain ⟨i1,Ez,c8⟩:=hex;obtain ⟨i0,QC,fE,je⟩:=Fa c8;have hr:=BD hc.toOrder hs (by omega:i0 < ops.size) fE je
   refine ⟨(fun hn=>by rw [hn] at hr; cases hr),fun j hj=>?_⟩
   rw [mem_ready] at hj;obtain ⟨h1,o,ho,he⟩:=hj;have nG:j < ops.size:=(Array.getElem?_eq_some_iff.1 ho).1;rw [uG (by omega)] at h1
   have gg:ops.toList[j]?=some o:=by simpa using ho
   have mf:=ug hc.toOrder eZ j o gg (fun e' gh bE=>he e' gh bE)
   have dg:∀ i,DB (aE.setIfInBounds j true) i=(DB aE i || i == j):=fun i=>C5 (by omega) i
   have yj:pf ops.toList (DB (aE.setIfInBounds j true)):=by
    intro i p aQ hp e' gh bE;rw [dg] at aQ ⊢;by_cases e:i=j
    ·subst e;rw [gg] at hp; cases hp;have:DB aE e'.on=true:=he e' gh bE;rw [this]; rfl
    ·have e2:(i == j)=false:=by simp [e]
     rw [e2,Bool.or_false] at aQ;rw [eZ i p aQ hp e' gh bE]; rfl
   have tH:gy (DB (aE.setIfInBounds j true)) ops.size≤fuel:=by
    have:=BR dg h1 ops.size;rw [if_pos nG] at this; omega
   by_cases AT:j∈fl
   ·-- a floating move
    obtain ⟨mQ,o',d,g1,g2,g3,g4,g6,g5⟩:=hc.rD j AT;rw [gg] at g1; cases g1;obtain ⟨v,G,nH,JG,hGH⟩:=hi.un j AT h1 o d gg g4;obtain ⟨vu,EB,adm⟩:=JG.2 o ν a w hi.le rfl (fun x hx s nE u hu=>by
     have rF:s∈iI o.op.operands.toList:=p8 (by rw [← nE]; simpa using hx)
     obtain ⟨u',r1,r2⟩:=hi.tm s u hu (fun f hf hd eX=>by
      have AU:=(hc.rD f hf).1;by_cases e:f=j
      ·subst e;have:bO ops.toList f=some d:=by simp [bO,gg,g4]
       rw [this] at eX; cases eX;exact g6 rF
      ·have:=((g5 f s (by omega) e eX).2 rF).2
       rw [mf f this] at hd; cases hd)
     exact ⟨u',by simpa using r1,r2⟩) (hi.rest.hp.sN fun id b hb=>(hGH id b hb).1)
    unfold wpOpIn;rw [ho]
    dsimp only
    rw [if_pos (by simp [Region.wanted,g2])]
    refine jH (v':=vu) (w':=w) JG.1 adm _ Q ?_;rw [g4];refine ih _ j0 bh ν t H _ w (by simp [hs]) yj hm kB (fun i aQ hf=>by rw [dg,pC i aQ hf]; rfl) (fun i aQ=>?_) ⟨?_,fun e u tQ bM=>?_,fun f hf hd p e k1 k2=>?_,hi.le,hi.rest⟩ h tH
    ·rw [dg] at aQ;by_cases e:i=j
     ·omega
     ·have e2:(i == j)=false:=by simp [e]
      rw [e2,Bool.or_false] at aQ;exact al i aQ
    ·rw [sj,List.length_set]; exact hi.len
    ·rw [sj];by_cases e':d=e
     ·subst e';rw [nH] at tQ; cases tQ;have:d < t.length:=(List.getElem?_eq_some_iff.1 nH).1;exact ⟨vu,by rw [List.getElem?_set_self (by rw [← hi.len]; exact this)],EB⟩
     ·rw [List.getElem?_set_ne e'];refine hi.tm e u tQ (fun f hf hd=>?_)
      by_cases e3:f=j
      ·subst e3;intro cV;have:bO ops.toList f=some d:=by simp [bO,gg,g4]
       rw [this] at cV; exact e' (Option.some.inj cV)
      ·exact bM f hf (by rw [dg,hd]; simp [e3])
    ·have aD:f≠j:=fun e3=>by subst e3; rw [dg] at hd; simp at hd
     have bQ:DB aE f=false:=by
      rw [dg] at hd;simp only [Bool.or_eq_false_iff] at hd;exact hd.1
     exact hi.un f hf bQ p e k1 k2
   ·have eK:j0≤j:=by
     rcases Nat.lt_or_ge j j0 with h' | h'
     ·rw [pC j h' AT] at h1; cases h1
     ·exact h'
    have JN:j < m+q:=by
     rcases Nat.lt_or_ge j (m+q) with h' | h'
     ·exact h'
     ·have:=mf i1 (hc.tail j (by simpa using nG) h' i1 (by omega))
      rw [c8] at this; cases this
    obtain ⟨c1,c2,c3⟩:=hc.mid j o (by omega) JN gg
    have hjj:j=j0:=by
     rcases Nat.lt_or_ge j0 j with h' | h'
     ·rcases c2 j0 h' with J | J
      ·have:=al j0 (mf j0 J); omega
      ·have:=(hc.rD j0 J).1; omega
     ·omega
    subst hjj;have H6:(ops.toList.take (m+q)).drop j=o::(ops.toList.take (m+q)).drop (j+1):=by
     have hl:j < (ops.toList.take (m+q)).length:=by simp; omega
     rw [List.drop_eq_getElem_cons hl]
     congr 1
     have:=List.getElem?_eq_getElem hl;rw [List.getElem?_take,if_pos JN,gg] at this;exact (Option.some.inj this).symm
    rw [H6] at h;unfold wpOpIn;rw [ho]
    dsimp only
    rw [if_pos (by simp [Region.wanted,c1])]
    refine Wp hE bL (D':=DB (aE.setIfInBounds j true)) hi (fun t' H' h'=>(ME h').2) (fun f hf=>?_) (fun f hf hd d cV=>?_) (fun d hd f hf=>?_) h (fun ak t' H' a' w' aQ h'=>?_)
    ·have:f≠j:=fun e=>AT (e ▸ hf)
     rw [dg]; simp [this]
    ·rcases c3 f hf with J | J
     ·rw [mf f J] at hd; cases hd
     ·exact J d cV
    ·exact yg j d JN (by omega) (by simp [bO,gg,hd]) f hf (fun e=>AT (e ▸ hf))
    ·refine ih _ (j+1) bh ak t' H' a' w' (by simp [hs]) yj (by omega) (by omega) (fun i hJ hf=>?_) (fun i hJ=>?_) aQ (ME h').1 tH
     ·rw [dg];by_cases e:i=j
      ·simp [e]
      ·rw [pC i (by omega) hf]; rfl
     ·rw [dg] at hJ;by_cases e:i=j
      ·omega
      ·have e2:(i == j)=false:=by simp [e]
       rw [e2,Bool.or_false] at hJ;have:=al i hJ; omega
theorem Wr (hm:P.follows .mixedOrders=true):nC P PU:=by
 intro E hE r n F bL ops Q id ν tmps H a w k hi h hk;obtain ⟨m,q,aU,fl,bc,h⟩:=h;have h:=mr h;obtain ⟨QD,h⟩:=yS h;obtain ⟨afM,h⟩:=yS h;have hc:=SS bc;obtain ⟨rs,iQ,kg,gk⟩:=FZ (P:=P) hE.toEnvOk (ops:=ops.toList) (t0:=tmps) (H:=H) (aU:=aU) (l:=ops.toList.take m) (ms:=aU) (j:=0) (rs:=[]) rfl
  (fun i o ho=>by
   rw [List.getElem?_take] at ho
   split at ho
   ·simpa using ho
   ·cases ho)
  (fun i _=>by simp) (fun i hi=>by omega) h
 have gk:=ux gk;have hlen:0+(ops.toList.take m).length=m:=by rw [List.length_take]; omega
 rw [hlen] at iQ kg gk;have hD:DB (Array.replicate ops.size false)=fun _=>false:=by
  funext i
  unfold DB;by_cases h:i < ops.size <;> simp [h]
 have hmd:(ops.toList.drop m).take q=(ops.toList.take (m+q)).drop m:=by
  rw [List.drop_take]; congr 1; omega
 have htl:(ops.toList.drop m).drop q=ops.toList.drop (m+q):=by rw [List.drop_drop]
 rw [hmd,htl] at gk;have aW:m+q≤ops.size:=by have:=hc.le; simpa using this
 refine wpIn_region_any hm ?_;refine MD (F:=F) (fl:=fl) hc.toOrder (by omega) hc.apart (fun j hj hm i hi hf=>?_) kg ?_ ops.size _ ν a _ (by simp) (fun j o hj=>by rw [hD] at hj; cases hj) (fun i aQ=>by rw [hD] at aQ; cases aQ) ?_ (fun i _ _=>hi.fr _ (by omega)) ?_
 ·by_cases h':j < m+q
  ·rcases (hc.mid j ops[j] hm h' (by simp [hj])).2.1 i (by omega) with h | h
   ·exact h
   ·exact absurd h hf
  ·exact hc.tail j (by simpa using hj) (by omega) i (by omega)
 ·intro fuel aE ν a w hs eZ al c5 hi hu;have lQ:∀ i d,i < m→bO ops.toList i=some d→d < tmps.length:=by
   intro i d hi hd;obtain ⟨o,q,h1,J,h3,_⟩:=(kg i hi).ok;unfold bO at hd;rw [h1] at hd;exact h3 d hd
  have pS:xX ops.toList m:=by
   intro i j d hi hj h1 J;rcases Nat.decEq i j with aD | he
   ·obtain ⟨o,q,k1,_⟩:=(kg i hi).ok;obtain ⟨p,q',k2,_⟩:=(kg j hj).ok;unfold bO at h1 J;rw [k1] at h1; rw [k2] at J;exact absurd h1 (hc.apart i o j p d hi hj (Ne.symm aD) k1 k2 J).1
   ·exact he
  have e2:kO rs (DB aE) m=rs.map (·.nb):=by
   unfold kO;apply List.ext_getElem?;intro i;rw [List.getElem?_map,List.getElem?_map];by_cases h:i < m
   ·rw [List.getElem?_range h,List.getElem?_eq_getElem (by omega:i < rs.length)]
    simp only [Option.map_some];rw [List.getElem?_eq_getElem (by omega:i < rs.length)]
    cases gf:DB aE i with
    | true=>rfl
    | false =>
     have hf:i∈fl:=Classical.byContradiction fun hn=>by rw [c5 i h hn] at gf; cases gf
     obtain ⟨_,o,d,g1,g2,g3,g4,_⟩:=hc.rD i hf;obtain ⟨r',k1,k2,_⟩:=(kg i h).mv o g1 (Cl g3) g2;rw [List.getElem?_eq_getElem (by omega:i < rs.length)] at k1
     cases k1;rw [k2]; rfl
   ·rw [List.getElem?_eq_none (by simp; omega),List.getElem?_eq_none (by omega)]; rfl
  have gd:=hi.hp;rw [e2] at hi;refine Wq hE bL hc hk fuel aE m ν ν _ _ a w hs eZ (Nat.le_refl _) (by omega) c5 al ⟨?_,fun d u tQ bM=>?_,fun f hf hd o d k1 k3=>?_,ν.le_refl,⟨.nil ν,hi.df,hi.hp,hi.fr,hi.kp,hi.own,hi.mono⟩⟩ gk hu
  ·have:=hi.tm.1;rw [rW] at this ⊢;exact this
  ·have Ia:(ba ops.toList rs (DB aE) tmps m)[d]?=(ba ops.toList rs (fun i=>decide (i < m)) tmps m)[d]?:=by
    refine yT pS lQ (fun i aQ gf=>?_)
    have:DB aE i=true:=by
     by_cases hf:i∈fl
     ·cases QF:DB aE i with
      | true=>rfl
      | false=>exact absurd gf (bM i hf QF)
     ·exact c5 i aQ hf
    rw [this]; simp [aQ]
   rw [← Ia] at tQ;exact hi.tm.get tQ
  ·obtain ⟨AU,o',d',g1,g2,g3,g4,g6,g5⟩:=hc.rD f hf;rw [k1] at g1; cases g1;rw [k3] at g4; cases g4;obtain ⟨r',q1,q2,G,qG,q3⟩:=(kg f AU).mv o k1 (Cl g3) g2;have l9:∀ (id:Nat) (b:ai),G[id]?=some (some b)→(H++rs.map (·.nb))[id]?=some (some b)∧(H++kO rs (DB aE) m)[id]?=some (some b):=by
    intro id b hb;rcases qG id b hb with ⟨h1,J⟩ | ⟨i,h1,J,h3,h4⟩
    ·rw [List.getElem?_append_left h1,List.getElem?_append_left h1]; exact ⟨J,J⟩
    ·subst h1;have AV:i < m:=by omega
     have gf:DB aE i=true:=Classical.byContradiction fun hn=>by
      have EC:i∈fl:=Classical.byContradiction fun bM=>hn (c5 i AV bM)
      obtain ⟨_,o2,d2,y1,y2,y3,y4,_⟩:=hc.rD i EC;obtain ⟨r2,z1,z2,_⟩:=(kg i AV).mv o2 y1 (Cl y3) y2;rw [z1] at h4;simp [z2] at h4
     rw [List.getElem?_append_right (by omega),List.getElem?_append_right (by omega)]
     rw [show H.length+i - H.length=i by omega]
     refine ⟨?_,r6.2 ⟨AV,gf,h4⟩⟩;rw [List.getElem?_map];cases hr:rs[i]? with
     | none=>rw [hr] at h4; cases h4
     | some r2=>rw [hr] at h4; simpa using h4
   have hG:bU ν G w:=⟨fun id b hb=>gd.aL id b (l9 id b hb).2,fun x y bx bY lx ly hx hy aD ho e1 e2=>gd.sep x y bx bY lx ly (l9 x bx hx).2 (l9 y bY hy).2 aD ho e1 e2⟩
   have hV:∃ G2,nZ P ν G2 o.op (ba ops.toList rs (fun i=>decide (i < f)) tmps f) r'.v∧∀ id b,G2[id]?=some (some b)→(H++rs.map (·.nb))[id]?=some (some b)∧∃ n,IS ops.toList fl H.length=some n∧id < n:=by
    cases hp:mw o.op with
    | true=>exact ⟨[],(q3.1 hp ν w hG).heap [],fun id b hb=>by simp at hb⟩
    | false =>
     obtain ⟨hh,mf⟩:=g3.resolve_left (by rw [hp]; simp)
     refine ⟨G,q3.2 hh ν,fun id b hb=>?_⟩
     rcases qG id b hb with ⟨h1,J⟩ | ⟨i,h1,J,h3,h4⟩
     ·refine ⟨by rw [List.getElem?_append_left h1]; exact J,H.length,?_,h1⟩
      unfold IS;have:(fl.all fun f=>match ops.toList[f]? with | some o=>mw o.op | none=>true)=false:=by
       rw [List.all_eq_false];exact ⟨f,hf,by rw [k1]; simp [hp]⟩
      rw [this]
     ·obtain ⟨_,o2,d2,y1,y2,y3,y4,_⟩:=hc.rD i (mf i h3);obtain ⟨r2,z1,z2,_⟩:=(kg i (by omega)).mv o2 y1 (Cl y3) y2
      rw [z1] at h4;simp [z2] at h4
   obtain ⟨G2,q3,qg⟩:=hV;have JO:bO ops.toList f=some d:=by simp [bO,k1,k3]
   refine ⟨r'.v,G2,uy _ JO q1 (by simp [AU]) (lQ f d AU JO) m AU pS,q3.same fun s hs=>?_,qg⟩
   by_cases hex:∃ i,i < m∧i≠f∧bO ops.toList i=some s
   ·obtain ⟨i,h1,J,h3⟩:=hex;obtain ⟨_,k5⟩:=g5 i s (by omega) J h3
    obtain ⟨_,k7⟩:=k5 hs;have EC:=(hc.mask f o k1 i k7).1;obtain ⟨o2,r2,w1,w2,_⟩:=(kg i h1).ok;rw [uy _ h3 w2 (by simp [EC]) (lQ i s h1 h3) f EC (fun a b c h4 h5=>pS a b c (by omega) (by omega)),uy _ h3 w2 (by simp [h1]) (lQ i s h1 h3) m h1 pS]
   ·have ox:∀ i,i < m→bO ops.toList i=some s→i=f:=fun i h1 J=>Classical.byContradiction fun h3=>hex ⟨i,h1,h3,J⟩
    by_cases RA:s=d
    ·subst RA;exact absurd hs g6
    ·rw [wQ _ f (fun i aQ _ gf=>by have:=ox i (by omega) gf; omega),wQ _ m (fun i aQ QF gf=>by
      have:=ox i aQ gf;subst this;rw [JO] at gf; exact absurd (Option.some.inj gf).symm RA)]
 ·rw [hD];have e1:ba ops.toList rs (fun _=>false) tmps m=tmps:=wR (j:=0) (by omega) (fun _ _ _=>rfl)
  rw [e1];have kP:Below w.heap.size w { w with drawn:=w.drawn+1 }:=⟨rfl,rfl,rfl,Nat.le_refl _,fun _ _=>rfl⟩
  refine ⟨hi.tm,hi.df.below kP,(hi.hp.below kP).sN (fun id c cD=>?_),fun id bm=>hi.fr id (by rw [List.length_append] at bm; omega),hi.kp.below kP,fun id c lc cD ot dN=>?_,hi.mono⟩
  ·rw [List.getElem?_append] at cD
   split at cD
   ·exact cD
   ·have:=(r6.1 cD).2.1; cases this
  ·rw [List.getElem?_append] at cD
   split at cD
   ·exact hi.own id c lc cD ot dN
   ·have:=(r6.1 cD).2.1; cases this
 ·unfold gy;have:=List.length_filter_le (fun i=>!DB (Array.replicate ops.size false) i) (List.range ops.size)
  simpa using this
end
open Go Go.RowKit
def isApp (op:Op):Option (TypeId × Operand × Operand):=match op with
 | .call c=>match c.callee with
  | .builtin .append=>match c.args.toList,c.argTypes.toList with
   | [x,y],[t,t']=>match Nat.beq t t' with
    | true=>some (t,x,y)
    | false=>none
   | _,_=>none
  | _=>none
 | _=>none
theorem TZ {op:Op} {t:TypeId} {x y:Operand} (h:isApp op=some (t,x,y)):∃ c,op=.call c∧c.callee=.builtin .append∧c.args=#[x,y]∧c.argTypes=#[t,t]:=by
 unfold isApp at h
 split at h
 ·rename_i c
  split at h
  ·rename_i hc
   split at h
   ·rename_i x' y' t1 t2 hx ht
    split at h
    ·rename_i hb;cases h;have hb:=Nat.eq_of_beq_eq_true hb;subst hb;exact ⟨c,rfl,hc,Array.ext' hx,Array.ext' ht⟩
    ·cases h
   ·cases h
  ·cases h
 ·cases h
def QG (E:Env) (tmps:List Value) (G:ay) (n0 aJ:Nat) (t:TypeId) (x y:Operand) (k:Value→Option Nat→Option ai→Prop):Prop :=
 bS tmps x fun xv=>bS tmps y fun yv=>cJ E.tt t fun ti=>match ti.kind with
  | .slice e=>cJ E.tt e fun te=>Ai G te.size yv fun s=>match xv with
   | .slice none 0 0=>match s.m with
    | 0=>k (.slice none 0 0) none none
    | m+1=>((m+1)*te.bytes≤140737488355328)∧k (.slice (some ⟨aJ,0,none⟩) (m+1) aI) none (some (o8 te.size s))
   | .slice (some ⟨id,0,none⟩) n c=>gK G id fun b=>match Nat.beq b.ae te.size && Nat.ble n0 id with
    | true=>(n=b.n∧(n+s.m)*te.bytes≤140737488355328)∧xn b s fun b'=>k (.slice (some ⟨aJ,0,none⟩) (n+s.m) aI) (some (id - n0)) (some b')
    | false=>False
   | _=>False
  | _=>False
structure EPost (ν ak:Nu) (aJ:Nat) (iP:Option Loc) (w w':World) (v v':Value) (nb:Option ai):Prop where
 le:ν.le ak
 only:∀ id,id≠aJ→ak id=ν id
 val:au ak v v'
 ED:Below w.heap.size w w'∨∃ l,iP=some l∧(∃ cur t,w.heap[l.aL]?=some (.cells cur t (0,0)))∧(∀ q,q≠l.aL→w'.heap[q]?=w.heap[q]?)∧w.heap.size≤w'.heap.size∧w'.os=w.os∧w'.tape=w.tape∧w'.output=w.output
 Ay:nb=none→ak=ν
 g8:∀ b,nb=some b→∃ l,ak aJ=some l∧bP ak l b w'∧(w.heap.size≤l.aL∨∃ lo,iP=some lo∧l.aL=lo.aL)
theorem nc.e {ν ak:Nu} {aJ:Nat} {w w':World} {v v':Value} {nb:Option ai} (h:nc ν ak aJ w w' v v' nb) (iP:Option Loc):EPost ν ak aJ iP w w' v v' nb :=
 ⟨h.le,h.only,h.val,.inl h.below,h.Ay,fun b hb=>let ⟨l,h1,J,h3⟩:=h.g8 b hb; ⟨l,h1,J,.inl h3⟩⟩
section
variable {P:Program} {E:Env}
theorem Vj (hE:EnvOk P E) {tmps:List Value} {G:ay} {n0 aJ:Nat} {t:TypeId} {x y:Operand} {k:Value→Option Nat→Option ai→Prop} (h:QG E tmps G n0 aJ t x y k) :
  ∃ v gp nb,k v gp nb∧(∀ i,gp=some i→∃ b,G[n0+i]?=some (some b)∧b.own=true) ∧
   ∀ (ν:Nu) (a:Act) (w:World) (ty:TypeId),fm ν tmps a x→fm ν tmps a y→bU ν G w→ν aJ=none →
    ∃ v' w' ak,(Builtin.append_ #[t,t] ty #[a.eval x,a.eval y]).run P w=.ok v' w'∧EPost ν ak aJ (gp.bind fun i=>ν (n0+i)) w w' v v' nb:=by
 obtain ⟨xv,J,vS⟩:=cN h;clear h;obtain ⟨yv,h,AM⟩:=cN J;clear J;obtain ⟨ti,ht,J⟩:=cO h;clear h;obtain ⟨d,hu,hd⟩:=(hE.ty _ _ ht).under
 split at J
 ·rename_i e hk;rw [hk] at hd;have hd:d=.slice e:=hd;subst hd;obtain ⟨te,he,h⟩:=cO J;clear J;have bc:=hE.ty _ _ he;obtain ⟨i,iL,gA,nz,z,hz,iB⟩:=bc.info;obtain ⟨s,J,yx,hs⟩:=FR h;clear h;have jz:z.cells.size=te.size:=by rw [iB]; simpa using bc.len
  have aeM:=bc.bit;have small:∀ q,q*te.bytes≤140737488355328→q≤140737488355328:=fun q hq=>by
   have:q*1≤q*te.bytes:=Nat.mul_le_mul_left _ (by omega)
   omega
  split at J
  ·-- onto nil
   split at J
   ·rename_i hm;refine ⟨_,_,_,J,(fun i hi=>by cases hi),fun ν a w ty vW AW hH hn=>?_⟩
    have hx:=(vS ν a vW).qn;obtain ⟨oy,cy,L,kz,kA,hC,jZ⟩:=hs ν w _ hH (AM ν a AW);have hL:L.length=s.m*i.size:=by rw [gA]; exact hC.len
    refine ⟨_,w,ν,?_,⟨ν.le_refl,fun _ _=>rfl,.ju,.inl (Below.refl _ _),fun _=>rfl,(fun b hb=>by cases hb)⟩⟩
    rw [hx,kz];have:=rY (P:=P) (w:=w) (ty:=ty) hu iL (A:=none) (oy:=oy) (n:=0) (c:=0) (m:=s.m) (cy:=cy) (L:=L) hL jZ kA (by omega) (w2:=w) (fun a ha=>by cases ha) (fun _=>rfl)
    rw [hm] at this ⊢
    simpa using this
   ·rename_i m hm;obtain ⟨hB,h⟩:=J;refine ⟨_,_,_,h,(fun i hi=>by cases hi),fun ν a w ty vW AW hH hn=>?_⟩
    have hx:=(vS ν a vW).qn;obtain ⟨oy,cy,L,kz,kA,hC,jZ⟩:=hs ν w _ hH (AM ν a AW);have hL:L.length=s.m*i.size:=by rw [gA]; exact hC.len
    have q8:s.kj=true→∀ r,r < s.m→∀ v∈s.get r,cG v=true:=fun h r hr v hv=>yx h r hr ν w hH v hv
    have bB:=Bt (P:=P) (w:=w) (ty:=ty) hu iL hz (A:=none) (oy:=oy) (n:=0) (c:=0) (m:=s.m) (cy:=cy) (O:=[]) (L:=L) (by simp) (fun a ha=>by cases ha) (fun _=>⟨rfl,rfl⟩) hL jZ kA (by omega) (by omega) (by rw [nz,hm]; simpa using hB) (by have:=small _ hB; omega)
    have dV:Ext (o8 te.size s) te.size (fun _=>[]) 0 s.get s.m s.kj:=by
     cases s with
     | fl m g=>exact ⟨rfl,rfl,by simp [o8,ai.n,Src.m],fun r hr=>by rw [gw (by omega)]; rfl,fun _=>rfl⟩
     | ex L=>exact ⟨rfl,rfl,by simp [o8,ai.n,Src.m],fun r hr=>by rw [gw (by omega)]; rfl,fun h=>by simp [o8,ai.jM] at h⟩
    have yw:=hC.mono (Nu.kd (l:=⟨w.heap.size,0,te.size,grownCap w (0+s.m) 0 e⟩) hn);have iC:=wJ (CR.nil _ te.size (fun _=>[])) yw dV (fun h=>⟨fun r hr=>absurd hr (by omega),q8 h⟩) (w:=w) jz (iP:=0) (e:=e)
    have eK:=grownCap_ge w (0+s.m) 0 e;have cm:au (ν.add aJ ⟨w.heap.size,0,te.size,grownCap w (0+s.m) 0 e⟩) (.slice (some ⟨aJ,0,none⟩) (m+1) aI) (.slice (some ⟨w.heap.size,0,none⟩) (0+s.m) (grownCap w (0+s.m) 0 e)):=by
     have:=au.slice (ν:=ν.add aJ ⟨w.heap.size,0,te.size,grownCap w (0+s.m) 0 e⟩) aJ 0 (0+s.m) aI (grownCap w (0+s.m) 0 e) _ Nu.add_same (.inr rfl) eK (by simp)
     rw [show m+1=0+s.m by omega]
     simpa [Loc.at] using this
    have hq:=mW hn iC (wD w _ _ _ _) (Nat.le_refl _) cm;refine ⟨_,_,_,?_,hq.e _⟩;rw [hx,kz]
    simpa using bB
  ·rename_i id n c;obtain ⟨b,hb,h⟩:=gD J;clear J
   split at h
   ·rename_i dv;rw [Bool.and_eq_true] at dv;obtain ⟨dv,QH⟩:=dv;have dv:b.ae=te.size:=Nat.eq_of_beq_eq_true dv;have QH:n0≤id:=Nat.le_of_ble_eq_true QH;obtain ⟨⟨fZ,me⟩,h⟩:=h;obtain ⟨b',h,ho,dV⟩:=Bu h;have bm:n0+(id - n0)=id:=by omega
    refine ⟨_,_,_,h,(fun i hi=>by cases hi; rw [bm]; exact ⟨b,hb,(ai.cZ ho).1⟩),fun ν a w ty vW AW hH hn=>?_⟩
    have hx:=vS ν a vW;obtain ⟨oy,cy,L,kz,kA,hC,jZ⟩:=hs ν w _ hH (AM ν a AW);have hL:L.length=s.m*i.size:=by rw [gA]; exact hC.len
    have q8:s.kj=true→∀ r,r < s.m→∀ v∈s.get r,cG v=true:=fun h r hr v hv=>yx h r hr ν w hH v hv
    obtain ⟨l,hl,hB⟩:=hH.aL id b hb;rw [← dv] at hC jz;have aD:id≠aJ:=fun e=>by rw [e,hn] at hl; cases hl
    have hold:(some (id - n0)).bind (fun i=>ν (n0+i))=some l:=by
     show ν (n0+(id - n0))=some l
     rw [bm]; exact hl
    rw [hold];have Ju:∃ A c',a.eval x=.slice (some A) n c'∧n≤c'∧((A=l.at 0 0∧c'≤l.cap)∨(n=0∧c'=0)):=by
     rcases hx.uq with ⟨l',c',cC,h1,J,h3,e⟩ | ⟨h1,J,bb,e⟩
     ·rw [hl] at cC; cases cC;exact ⟨_,c',e,J,.inl ⟨rfl,by omega⟩⟩
     ·exact ⟨bb,0,by rw [e,h1],by omega,.inr ⟨h1,rfl⟩⟩
    obtain ⟨A,c',cj,Es,hA⟩:=Ju;have hO:∃ O,CR ν b.ae b.row n O∧∀ (j:Nat) u,O[j]?=some u→w.cell? (A.add j)=some u:=by
     rcases hA with ⟨rfl,_⟩ | ⟨h0,_⟩
     ·obtain ⟨O,h1,J⟩:=CR.Hr hB (row:=0) (m:=n) (by omega)
      exact ⟨O,h1.congr (fun r hr=>by simp),J⟩
     ·subst h0;exact ⟨[],CR.nil _ _ _,fun j u hu=>by simp at hu⟩
    obtain ⟨O,hO,rA⟩:=hO;have tJ:b.pB=true→∀ r,r < b.n→∀ v∈b.row r,cG v=true:=fun h r hr v hv=>by
     cases b with
     | flat o n e g=>exact hB.plain rfl r hr v hv
     | aP o e rows =>
      have h:rows.all jJ=true:=h;have hr:r < rows.length:=hr;have hv:v∈rows.getD r []:=hv;rw [List.getD_eq_getElem?_getD,List.getElem?_eq_getElem hr] at hv;exact yI (List.all_eq_true.1 h _ (List.getElem_mem hr)) v hv
     | b6 r=>cases h
    have mH:(b.pB && s.kj)=true→(∀ r,r < b.n→∀ v∈b.row r,cG v=true)∧∀ r,r < s.m→∀ v∈s.get r,cG v=true:=fun h=>by
     rw [Bool.and_eq_true] at h; exact ⟨tJ h.1,q8 h.2⟩
    by_cases cP:n+s.m≤c'
    ·-- in its place
     obtain ⟨cur,tt,jV,aW,adn⟩:=hB.own (ai.cZ ho).1 (ai.cZ ho).2;have hle:=Nu.kd (l:=l) hn;rcases hA with ⟨rfl,fO⟩ | ⟨h0,ov⟩
     ·obtain ⟨h1,J⟩:=hB.extend (P:=P) ho (Nat.le_refl _) hC dV mH (by omega)
      refine ⟨_,w.setCells l.aL (l.base+b.n*l.ae) L,ν.add aJ l,?_,⟨hle,fun j hj=>Nu.iV hj,.slice _ _ _ _ _ l Nu.add_same (.inr rfl) cP (by omega),.inr ⟨l,rfl,⟨cur,tt,jV⟩,fun q hq=>rU _ _ _ _ _ hq,by rw [oQ]; exact Nat.le_refl _,(wC _ _ _ _).1,(wC _ _ _ _).2.1,(wC _ _ _ _).2.2⟩,(fun h=>by cases h),fun b2 dM=>by cases dM; exact ⟨l,Nu.add_same,J.mono hle,.inr ⟨l,rfl,rfl⟩⟩⟩⟩
      rw [cj,kz];refine rY (P:=P) hu iL hL jZ kA cP (fun A' tK=>?_) (fun h=>by cases h)
      cases tK;have:(l.at 0 0).add (n*i.size)=l.at b.n 0:=by
       rw [Loc.jN]; unfold Loc.at; congr 1;rw [hB.ae,gA,dv,fZ]; omega
      rw [this]; exact h1
     ·have ky:s.m=0:=by omega
      have yy:L=[]:=List.eq_nil_of_length_eq_zero (by rw [hL,ky]; simp)
      refine ⟨.slice (some A) (n+s.m) c',w,ν.add aJ l,?_,⟨hle,fun j hj=>Nu.iV hj,?_,.inl (Below.refl _ _),(fun h=>by cases h),fun b2 dM=>by
       cases dM;have vX:b'.n=b.n:=by rw [dV.num,ky]; rfl
       have a8:∀ r,r < b.n→b'.row r=b.row r:=fun r hr=>by rw [dV.row r (by omega),ji hr]
       refine ⟨l,Nu.add_same,bP.mono hle ⟨by rw [dV.ae]; exact hB.ae,fun r hr=>by rw [vX] at hr; rw [a8 r hr,dV.ae]; exact hB.len r hr,
        fun r hr j v hv=>by rw [vX] at hr; rw [a8 r hr] at hv; exact hB.cell r hr j v hv,
        fun h r hr v hv=>by rw [vX] at hr; rw [a8 r hr] at hv; exact (mH (dV.flat h)).1 r hr v hv,
        fun r hr v hv=>by rw [vX] at hr; rw [a8 r hr] at hv; exact hB.one r hr v hv,
        fun _ _=>⟨cur,tt,jV,aW,by rw [vX]; exact adn⟩,(fun r h=>by rw [(ai.cZ dV.own).2] at h; cases h),hB.live⟩,.inr ⟨l,rfl,rfl⟩⟩⟩⟩
      ·rw [cj,kz];exact rY (P:=P) hu iL hL jZ kA cP (fun A' tK=>by rw [yy]; rfl) (fun h=>by cases h)
      ·subst ov;rw [show n+s.m=0 by omega]
       exact .void _ _ _ _ (.inr rfl)
    ·have bB:(Builtin.append_ #[t,t] ty #[a.eval x,a.eval y]).run P w=.ok (.slice (some ⟨w.heap.size,0,none⟩) (n+s.m) (grownCap w (n+s.m) c' e)) (w.drew.alloc (uu (O++L).toArray z (grownCap w (n+s.m) c' e - (n+s.m)) e)):=by
      rw [cj,kz];exact Bt (P:=P) (w:=w) (ty:=ty) hu iL hz (by rw [hO.len,gA,dv]) (fun a ha=>by cases ha; exact rA) (fun h=>by cases h) hL jZ kA Es (by omega) (by rw [nz]; exact me) (small _ me)
     have kV:=Nu.kd (l:=⟨w.heap.size,0,b.ae,grownCap w (n+s.m) c' e⟩) hn;have IE:Ext b' b.ae b.row n s.get s.m (b.pB && s.kj):=by rw [fZ]; exact dV
     have iC:=wJ (hO.mono kV) (hC.mono kV) IE (fun h=>⟨fun r hr v hv=>(mH h).1 r (by omega) v hv,(mH h).2⟩) (w:=w) jz (iP:=c') (e:=e)
     have eK:=grownCap_ge w (n+s.m) c' e;have cm:au (ν.add aJ ⟨w.heap.size,0,b.ae,grownCap w (n+s.m) c' e⟩) (.slice (some ⟨aJ,0,none⟩) (n+s.m) aI) (.slice (some ⟨w.heap.size,0,none⟩) (n+s.m) (grownCap w (n+s.m) c' e)):=by
      have:=au.slice (ν:=ν.add aJ ⟨w.heap.size,0,b.ae,grownCap w (n+s.m) c' e⟩) aJ 0 (n+s.m) aI (grownCap w (n+s.m) c' e) _ Nu.add_same (.inr rfl) eK (by simp)
      simpa [Loc.at] using this
     have hq:=mW hn iC (wD w _ _ _ _) (Nat.le_refl _) cm;exact ⟨_,_,_,bB,hq.e _⟩
   ·exact h.elim
  ·exact J.elim
 ·exact J.elim
end
end Go.Ae
