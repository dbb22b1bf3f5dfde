import Derived.RangeFuncLeaves
import Derived.RangeFuncRecord
import Derived.KernelRfl
import Derived.Test.YtlapbjdhekcipaaGreatTA
set_option linter.unusedVariables false
set_option linter.unusedSimpArgs false
namespace Go.Ae
open Go Go.RowKit
def o5 (ah:Nat):Src→ai
 | .fl m g=>.flat true m ah g
 | .ex L=>.aR true ah L
def ai.ph:ai→Bool
 | .flat _ _ _ _=>true
 | .aR _ _ rows=>rows.all jQ
 | .cB _=>false
def wL (b:ai) (s:Src) (k:ai→Prop):Prop :=
 match b,s with
 | .flat true n ah get,.fl m news=>k (.flat true (n+m) ah (gQ get n news))
 | .aR true ah rows,.ex L=>sV rows L fun l=>k (.aR true ah l)
 | .aR true ah rows,.fl m news=>match Nat.ble 2 ah && rows.all jQ with
  | true=>k (.flat true (rows.length+m) ah (gQ (fun j=>rows.getD j []) rows.length news))
  | false=>xn news 0 m fun L=>sV rows L fun l=>k (.aR true ah l)
 | _,_=>False
def CS (b:ai) (row n:Nat) (s:Src) (k:ai→Prop):Prop :=
 match b,s with
 | .flat _ _ ah get,.fl m news=>k (.flat true (n+m) ah (gQ (fun j=>get (dR row j)) n news))
 | .aR _ ah rows,.ex L=>sI rows row n fun L0=>sV L0 L fun l=>k (.aR true ah l)
 | .aR _ ah rows,.fl m news=>match Nat.ble 2 ah && rows.all jQ with
  | true=>k (.flat true (n+m) ah (gQ (fun j=>rows.getD (dR row j) []) n news))
  | false=>sI rows row n fun L0=>xn news 0 m fun L=>sV L0 L fun l=>k (.aR true ah l)
 | _,_=>False
structure Ext (b':ai) (ah:Nat) (g:Nat→List Value) (n:Nat) (h:Nat→List Value) (m:Nat) (fl:Bool):Prop where
 own:b'.oh=true
 ah:b'.ah=ah
 num:b'.n=n+m
 row:∀ r,r < n+m→b'.row r=gQ g n h r
 flat:b'.jd=true→fl=true
theorem RN {l m:List (List Value)} {r:Nat} (h:r < l.length):(l++m).getD r []=l.getD r []:=by
 simp [List.getD,List.getElem?_append_left h]
theorem RO {l m:List (List Value)} {r:Nat} (h:l.length≤r):(l++m).getD r []=m.getD (r - l.length) []:=by
 simp [List.getD,List.getElem?_append_right h]
theorem BL {ah:Nat} {L0 L:List (List Value)} {g h:Nat→List Value} {n m:Nat} (h0:L0.length=n) (h1:L.length=m) (hg:∀ r,r < n→L0.getD r []=g r) (hh:∀ r,r < m→L.getD r []=h r) (fl:Bool) :
  Ext (.aR true ah (L0++L)) ah g n h m fl:=by
 refine ⟨rfl,rfl,by simp [ai.n,h0,h1],fun r hr=>?_,fun h=>by simp [ai.jd] at h⟩
 show (L0++L).getD r []=_
 by_cases ak:r < n
 ·rw [RN (by omega),iO ak,hg r ak]
 ·rw [RO (by omega),fO (by omega),h0,hh _ (by omega)]
theorem A5 {b:ai} {s:Src} {k:ai→Prop} (h:wL b s k):∃ b',k b'∧b.oh=true∧Ext b' b.ah b.row b.n s.get s.m (b.ph && s.kz):=by
 cases b with
 | flat o n e g =>
  cases o with
  | false=>cases s <;> exact h.elim
  | true =>
   cases s with
   | fl m news=>exact ⟨_,h,rfl,rfl,rfl,rfl,fun r _=>rfl,fun _=>rfl⟩
   | ex L=>exact h.elim
 | aR o e rows =>
  cases o with
  | false=>cases s <;> exact h.elim
  | true =>
   cases s with
   | fl m news =>
    have h:match Nat.ble 2 e && rows.all jQ with
     | true=>k (.flat true (rows.length+m) e (gQ (fun j=>rows.getD j []) rows.length news))
     | false=>xn news 0 m fun L=>sV rows L fun l=>k (.aR true e l):=h
    split at h
    ·rename_i hs;rw [Bool.and_eq_true] at hs;exact ⟨_,h,rfl,rfl,rfl,rfl,fun r _=>rfl,fun _=>by show (rows.all jQ && true)=true; rw [hs.2]; rfl⟩
    obtain ⟨L,h,h1,J⟩:=EW h;have h:=yy h;exact ⟨_,h,rfl,BL rfl h1 (fun _ _=>rfl) (fun r hr=>by rw [J r hr]; simp [Src.get]) _⟩
   | ex L =>
    have h:=yy h;exact ⟨_,h,rfl,BL rfl rfl (fun _ _=>rfl) (fun r hr=>rfl) _⟩
 | cB r=>cases s <;> exact h.elim
theorem Lg {b:ai} {row n:Nat} {s:Src} {k:ai→Prop} (h:CS b row n s k):∃ b',k b'∧Ext b' b.ah (fun j=>b.row (row+j)) n s.get s.m (b.ph && s.kz):=by
 cases b with
 | flat o N e g =>
  cases s with
  | fl m news=>exact ⟨_,h,rfl,rfl,rfl,fun r hr=>by simp [ai.row,ar,Src.get,Src.m],fun _=>rfl⟩
  | ex L=>exact h.elim
 | aR o e rows =>
  have bd:∀ (L0:List (List Value)),(L0.length=n∧row+n≤rows.length)→(∀ (j:Nat) v,L0[j]?=some v→rows[row+j]?=some v)→∀ r,r < n→L0.getD r []=(ai.aR o e rows).row (row+r):=by
   intro L0 h0 h1 r hr;have ak:r < L0.length:=by omega
   have:=h1 r _ (List.getElem?_eq_getElem ak);simp [ai.row,List.getD,this,List.getElem?_eq_getElem ak]
  cases s with
  | fl m news =>
   have h:match Nat.ble 2 e && rows.all jQ with
    | true=>k (.flat true (n+m) e (gQ (fun j=>rows.getD (dR row j) []) n news))
    | false=>sI rows row n fun L0=>xn news 0 m fun L=>sV L0 L fun l=>k (.aR true e l):=h
   split at h
   ·rename_i hs;rw [Bool.and_eq_true] at hs;exact ⟨_,h,rfl,rfl,rfl,fun r hr=>by simp [ai.row,ar,Src.get,Src.m],fun _=>by show (rows.all jQ && true)=true; rw [hs.2]; rfl⟩
   obtain ⟨L0,h,h0,h3⟩:=yq h;obtain ⟨L,h,h1,J⟩:=EW h;have h:=yy h;exact ⟨_,h,BL h0.1 h1 (bd L0 h0 h3) (fun r hr=>by rw [J r hr]; simp [Src.get]) _⟩
  | ex L =>
   obtain ⟨L0,h,h0,h3⟩:=yq h;have h:=yy h;exact ⟨_,h,BL h0.1 rfl (bd L0 h0 h3) (fun r hr=>rfl) _⟩
 | cB r=>cases s <;> exact h.elim
def jR (g:Nat→List Value) (q:Nat) (h:Nat→List Value) (m:Nat):Nat→List Value:=fun j=>bif Nat.blt j q then g j else bif Nat.blt j (q+m) then h (j - q) else g j
theorem Hx {a b:Nat} (h:b≤a):Nat.blt a b=false:=by
 cases e:Nat.blt a b with
 | false=>rfl
 | true=>rw [Nat.blt_eq] at e; omega
theorem S4 {g h:Nat→List Value} {q m j:Nat} (hj:j < q):jR g q h m j=g j:=by
 have:Nat.blt j q=true:=by rw [Nat.blt_eq]; exact hj
 simp [jR,this]
theorem S5 {g h:Nat→List Value} {q m j:Nat} (h1:q≤j) (J:j < q+m):jR g q h m j=h (j - q):=by
 have:Nat.blt j (q+m)=true:=by rw [Nat.blt_eq]; exact J
 simp [jR,this,Hx h1]
theorem S6 {g h:Nat→List Value} {q m j:Nat} (hj:q+m≤j):jR g q h m j=g j:=by
 simp [jR,Hx hj,Hx (show q≤j by omega)]
def Gn (E:Env) (tmps:List Value) (H:aA) (t:TypeId) (xv yv:Value) (k:Value→List Value→aA→Prop):Prop :=
 cY E.tt t fun ti=>match ti.kind with
  | .slice e=>cY E.tt e fun te=>zO H te.size yv fun s=>match xv with
   | .slice none 0 0=>match s.m with
    | 0=>k (.slice none 0 0) tmps H
    | m+1=>((m+1)*te.bytes≤140737488355328)∧jE H fun aK=>pf H (some (o5 te.size s)) fun H'=>k (.slice (some ⟨aK,0,none⟩) (m+1) ao) tmps H'
   | .slice (some ⟨id,row,none⟩) n c=>gX H id fun b=>match Nat.beq b.ah te.size with
    | true=>match decide (c=ao) with
     | false=>br (Nat.ble (n+s.m) c)
      (row+n=b.n∧wL b s fun b'=>jD H id (some b') fun H'=>k (.slice (some ⟨id,row,none⟩) (n+s.m) c) tmps H')
      ((row+n≤b.n∧(n+s.m)*te.bytes≤140737488355328)∧CS b row n s fun b'=>jE H fun aK=>pf H (some b') fun H'=>k (.slice (some ⟨aK,0,none⟩) (n+s.m) ao) tmps H')
     | true=>match E.iE with
      | true=>match row with
       | 0=>(E.base≤id∧(n≤b.n∧b.oh=true)∧(n+s.m)*te.bytes≤140737488355328)∧CS b 0 n s fun b1=>zv id b1 fun b'=>∃ aa,∀ a:Nat→Value,uL a id aa 0 tmps fun zw=>xm id H fun H1=>jD H1 id (some b') fun H'=>k (.slice (some ⟨id,0,none⟩) (n+s.m) ao) zw H'
       | _=>False
      | false=>match Nat.ble E.base id with
       | true=>match row with
        | 0=>(E.base≤id∧n=b.n∧(n+s.m)*te.bytes≤140737488355328)∧wL b s fun b1=>zv id b1 fun b'=>∃ aa,∀ a:Nat→Value,uL a id aa 0 tmps fun zw=>xm id H fun H1=>jD H1 id (some b') fun H'=>k (.slice (some ⟨id,0,none⟩) (n+s.m) ao) zw H'
        | _=>False
       | false=>match row with
        | 0=>(n=b.n∧(n+s.m)*te.bytes≤140737488355328)∧wL b s fun b'=>jD H id none fun H1=>jE H1 fun aK=>pf H1 (some b') fun H'=>k (.slice (some ⟨aK,0,none⟩) (n+s.m) ao) tmps H'
        | _=>False
    | false=>False
   | .slice (some ⟨id,row,some b0⟩) n c=>gX H id fun b=>match Nat.beq b.ah te.size with
    | true=>match b,s with
     | .flat true N ah get,.fl m news=>(n+m≤b0∧row+(n+m)≤N)∧jD H id (some (.flat true N ah (jR get (dR row n) news m))) fun H'=>k (.slice (some ⟨id,row,some b0⟩) (n+m) c) tmps H'
     | _,_=>False
    | false=>False
   | _=>False
  | _=>False
def Ow (E:Env) (tmps:List Value) (H:aA) (t:TypeId) (x:Operand) (k:aA→Prop):Prop :=
 b9 tmps x fun xv=>cY E.tt t fun ti=>match ti.kind with
  | .slice e=>cY E.tt e fun te=>match xv with
   | .slice (some ⟨id,row,_⟩) n _=>gX H id fun b=>match Nat.beq b.ah te.size with
    | true=>match b with
     | .flat true N ah get=>(row+n≤N∧mL te.zero=true)∧jD H id (some (.flat true N ah (jR get row (fun _=>te.zero) n))) k
     | _=>False
    | false=>False
   | _=>False
  | _=>False
def Gp (E:Env) (H:aA) (t:TypeId) (xv yv:Value) (k:Value→aA→Prop):Prop :=
 cY E.tt t fun ti=>match ti.kind with
  | .slice e=>cY E.tt e fun te=>zO H te.size yv fun s=>match s,xv with
   | .fl m news,.slice (some ⟨id,row,_⟩) n _=>gX H id fun b=>match Nat.beq b.ah te.size with
    | true=>match b with
     | .flat true N ah get=>row+n≤N∧jD H id (some (.flat true N ah (jR get row news (Nat.min m n)))) fun H'=>k (.int .i64 (Nat.min m n)) H'
     | _=>False
    | false=>False
   | _,_=>False
  | _=>False
def NH (E:Env) (tmps:List Value) (H:aA) (t:TypeId) (x y:Operand) (k:Value→List Value→aA→Prop):Prop :=
 b9 tmps x fun xv=>b9 tmps y fun yv=>Gn E tmps H t xv yv k
def BM:Value→Bool
 | .slice (some _) _ c=>!decide (c=ao)
 | _=>true
section
variable {P:Program} {E:Env} {F:Fr}
theorem Es (z:Array Value) (n:Nat):(Builtin.zeroCells z n).size=n*z.size:=by simp [Builtin.zeroCells]
theorem Su {O L:List Value} {z:Value} {k q:Nat} (hq:q < (O++L).length):((O++L).toArray++Builtin.zeroCells z.cells k)[q]?=(O++L)[q]?:=by
 rw [Array.getElem?_append_left (by simpa using hq)]
 simp
theorem bS.extend {ν:Nu} {l:Loc} {b b':ai} {w:World} (hB:bS ν l b w) (ho:b.oh=true) {n m:Nat} (bJ:n≤b.n) {news:Nat→List Value} {L:List Value} {fl:Bool}
  (hC:CR ν b.ah news m L) (hx:Ext b' b.ah b.row n news m fl) (tf:fl=true→(∀ r,r < b.n→∀ v∈b.row r,cW v=true)∧∀ r,r < m→∀ v∈news r,cW v=true) (fG:n+m≤l.cap) :
  (storeCells (l.at n 0) L).run P w=.ok () (w.setCells l.aJ (l.base+n*l.ah) L)∧bS ν l b' (w.setCells l.aJ (l.base+n*l.ah) L):=by
 obtain ⟨cur,t,j5,aY,_⟩:=hB.own (ai.dm ho).1 (ai.dm ho).2;have he:=hB.ah;have xJ:l.base+n*l.ah+L.length≤cur.size:=by
  rw [hC.len,he];have:(n+m)*b.ah≤l.cap*b.ah:=Nat.mul_le_mul_right _ fG;rw [Nat.add_mul] at this;rw [he] at aY;omega
 have sJ:∀ j,j < L.length→(w.cell? ⟨l.aJ,l.base+n*l.ah+j,none⟩).isSome=true:=by
  intro j hj;simp only [World.cell?];rw [j5];simp;omega
 refine ⟨?_,?_⟩
 ·have:=run_storeCells_cells (P:=P) l.aJ (l.base+n*l.ah) L 0 w (by simpa using sJ) (fun j hj=>by simp [World.frozen?,j5]) hC.one
  simpa [Loc.at] using this
 ·obtain ⟨pA,J,h3⟩:=A1 l.aJ L (l.base+n*l.ah) w cur t j5;refine ⟨by rw [hx.ah]; exact he,fun r hr=>?_,fun r hr j v hv=>?_,fun h r hr v hv=>?_,fun r hr v hv=>?_,fun _ _=>⟨pA,t,J,by rw [h3]; exact aY,by rw [hx.num]; exact fG⟩,(fun r h=>by rw [(ai.dm hx.own).2] at h; cases h),by rw [oO]; exact hB.live⟩
  ·rw [hx.num] at hr;rw [hx.row r hr,hx.ah];by_cases h:r < n
   ·rw [iO h]; exact hB.len r (by omega)
   ·rw [fO (by omega)]; exact hC.row _ (by omega)
  ·rw [hx.num] at hr;rw [hx.row r hr] at hv;by_cases h:r < n
   ·rw [iO h] at hv;obtain ⟨v',h4,h5⟩:=hB.cell r (by omega) j v hv
    have hj:j < b.ah:=by rw [← hB.len r (by omega)]; exact (List.getElem?_eq_some_iff.1 hv).1
    refine ⟨v',?_,h5⟩;rw [World.cell?_setCells_out l.aJ _ _ _ _ (fun _ _=>?_)]
    ·exact h4
    ·left
     simp only [Loc.at,he];have:(r+1)*b.ah≤n*b.ah:=Nat.mul_le_mul_right _ h;rw [Nat.add_mul] at this; omega
   ·rw [fO (by omega)] at hv
    obtain ⟨v',h4,h5⟩:=hC.cell (r - n) (by omega) j v hv
    have ak:=(List.getElem?_eq_some_iff.1 h4).1;refine ⟨v',?_,h5⟩;have:=World.cell?_setCells_in l.aJ L (l.base+n*l.ah) w sJ _ ak;have e:l.at r j=⟨l.aJ,l.base+n*l.ah+((r - n)*b.ah+j),none⟩:=by
     unfold Loc.at
     congr 1
     rw [he];have:r*b.ah=n*b.ah+(r - n)*b.ah:=by rw [← Nat.add_mul]; congr 1; omega
     omega
    rw [e,this,← h4,List.getElem?_eq_getElem ak]
  ·rw [hx.num] at hr;rw [hx.row r hr] at hv;obtain ⟨h6,h7⟩:=tf (hx.flat h);by_cases h:r < n
   ·rw [iO h] at hv; exact h6 r (by omega) v hv
   ·rw [fO (by omega)] at hv; exact h7 _ (by omega) v hv
  ·rw [hx.num] at hr;rw [hx.row r hr] at hv;by_cases h:r < n
   ·rw [iO h] at hv; exact hB.one r (by omega) v hv
   ·rw [fO (by omega)] at hv; exact hC.sU _ (by omega) v hv
theorem Kept.setCells {O:Nat→Prop} {W w:World} (h:Kept O W w) {b:Nat} (hb:O b∨W.heap.size≤b) (o:Nat) (L:List Value):Kept O W (w.setCells b o L):=by
 obtain ⟨o1,o2,o3⟩:=vX b L o w;refine ⟨o1.trans h.os,o2.trans h.tape,o3.trans h.output,by rw [oO]; exact h.size,fun q h1 J=>?_⟩
 rw [rK]
 ·exact h.aJ q h1 J
 ·intro e;subst e;rcases hb with h' | h'
  ·exact J h'
  ·omega
theorem v7 {ν:Nu} {ah n m:Nat} {g h:Nat→List Value} {O L:List Value} {b':ai} {fl:Bool} (hO:CR ν ah g n O) (hC:CR ν ah h m L) (hx:Ext b' ah g n h m fl)
  (tf:fl=true→(∀ r,r < n→∀ v∈g r,cW v=true)∧∀ r,r < m→∀ v∈h r,cW v=true) {w:World} {z:Value} (hz:z.cells.size=ah) {iW:Nat} {e:TypeId} :
  bS ν ⟨w.heap.size,0,ah,grownCap w (n+m) iW e⟩ b' (w.drew.alloc (tZ (O++L).toArray z (grownCap w (n+m) iW e - (n+m)) e)):=by
 have eY:=grownCap_ge w (n+m) iW e;have Qv:=hO.append hC;refine W9 Qv hx.row hx.num hx.ah (fun hf r hr v hv=>?_) (C:=(O++L).toArray++Builtin.zeroCells z.cells (grownCap w (n+m) iW e - (n+m))) (t:=e) ?_ (fun q hq=>Su hq) eY ?_ (ai.dm hx.own).2
 ·obtain ⟨h1,J⟩:=tf (hx.flat hf);by_cases h:r < n
  ·rw [iO h] at hv; exact h1 r h v hv
  ·rw [fO (by omega)] at hv; exact J _ (by omega) v hv
 ·show (w.heap.push _)[w.heap.size]?=_
  simp [tZ]
 ·rw [Array.size_append,Es,hz];simp only [List.size_toArray];rw [Qv.len,← Nat.add_mul];apply Nat.le_of_eq
  congr 1
  omega
theorem vY (w:World) (C:Array Value) (z:Value) (k:Nat) (e:TypeId):Below w.heap.size w (w.drew.alloc (tZ C z k e)):=((Below.refl _ w).drew).alloc (Nat.le_refl _) _
theorem bS.iE {ν:Nu} {l:Loc} {N ah:Nat} {get:Nat→List Value} {w:World} (hB:bS ν l (.flat true N ah get) w) {q m:Nat} (hq:q+m≤N) {news:Nat→List Value} {L:List Value}
  (hC:CR ν ah news m L) (hs:∀ r,r < m→∀ v∈news r,cW v=true) :
  (storeCells (l.at q 0) L).run P w=.ok () (w.setCells l.aJ (l.base+q*l.ah) L)∧bS ν l (.flat true N ah (jR get q news m)) (w.setCells l.aJ (l.base+q*l.ah) L):=by
 obtain ⟨cur,t,j5,aY,fG⟩:=hB.own rfl rfl;have fG:N≤l.cap:=fG;have he:l.ah=ah:=hB.ah;have xJ:l.base+q*l.ah+L.length≤cur.size:=by
  rw [hC.len,he];have:(q+m)*ah≤l.cap*ah:=Nat.mul_le_mul_right _ (by omega)
  rw [Nat.add_mul] at this;rw [he] at aY;omega
 have sJ:∀ j,j < L.length→(w.cell? ⟨l.aJ,l.base+q*l.ah+j,none⟩).isSome=true:=by
  intro j hj;simp only [World.cell?];rw [j5];simp;omega
 refine ⟨?_,?_⟩
 ·have:=run_storeCells_cells (P:=P) l.aJ (l.base+q*l.ah) L 0 w (by simpa using sJ) (fun j hj=>by simp [World.frozen?,j5]) hC.one
  simpa [Loc.at] using this
 ·obtain ⟨pA,J,h3⟩:=A1 l.aJ L (l.base+q*l.ah) w cur t j5;have rows:∀ r,r < N→(jR get q news m r=get r∧(r < q∨q+m≤r))∨(jR get q news m r=news (r - q)∧q≤r∧r < q+m):=fun r _=>by
   by_cases h:r < q
   ·exact .inl ⟨S4 h,.inl h⟩
   ·by_cases h':r < q+m
    ·exact .inr ⟨S5 (by omega) h',by omega,h'⟩
    ·exact .inl ⟨S6 (by omega),.inr (by omega)⟩
  refine ⟨he,fun r hr=>?_,fun r hr j v hv=>?_,fun _ r hr v hv=>?_,fun r hr v hv=>?_,fun _ _=>⟨pA,t,J,by rw [h3]; exact aY,fG⟩,(fun r h=>by cases h),by rw [oO]; exact hB.live⟩
  ·have hr:r < N:=hr;show (jR get q news m r).length=ah
   rcases rows r hr with ⟨e,_⟩ | ⟨e,h1,J⟩
   ·rw [e]; exact hB.len r hr
   ·rw [e]; exact hC.row _ (by omega)
  ·have hr:r < N:=hr;have hv:(jR get q news m r)[j]?=some v:=hv;rcases rows r hr with ⟨e,h1⟩ | ⟨e,h1,J⟩
   ·rw [e] at hv;obtain ⟨v',h4,h5⟩:=hB.cell r hr j v hv;have hj:j < ah:=by have e':(get r).length=ah:=hB.len r hr; rw [← e']; exact (List.getElem?_eq_some_iff.1 hv).1
    refine ⟨v',?_,h5⟩;rw [World.cell?_setCells_out l.aJ _ _ _ _ (fun _ _=>?_)]
    ·exact h4
    ·rcases h1 with h | h
     ·left
      simp only [Loc.at,he];have:(r+1)*ah≤q*ah:=Nat.mul_le_mul_right _ h;rw [Nat.add_mul] at this; omega
     ·right
      simp only [Loc.at,he,hC.len];have:(q+m)*ah≤r*ah:=Nat.mul_le_mul_right _ h;rw [Nat.add_mul] at this; omega
   ·rw [e] at hv;obtain ⟨v',h4,h5⟩:=hC.cell (r - q) (by omega) j v hv
    have ak:=(List.getElem?_eq_some_iff.1 h4).1;refine ⟨v',?_,h5⟩;have:=World.cell?_setCells_in l.aJ L (l.base+q*l.ah) w sJ _ ak;have e:l.at r j=⟨l.aJ,l.base+q*l.ah+((r - q)*ah+j),none⟩:=by
     unfold Loc.at
     congr 1
     rw [he];have:r*ah=q*ah+(r - q)*ah:=by rw [← Nat.add_mul]; congr 1; omega
     omega
    rw [e,this,← h4,List.getElem?_eq_getElem ak]
  ·have hr:r < N:=hr;have hv:v∈jR get q news m r:=hv;rcases rows r hr with ⟨e,_⟩ | ⟨e,h1,J⟩
   ·rw [e] at hv; exact hB.plain rfl r hr v hv
   ·rw [e] at hv; exact hs _ (by omega) v hv
  ·have hr:r < N:=hr;have hv:v∈jR get q news m r:=hv;rcases rows r hr with ⟨e,_⟩ | ⟨e,h1,J⟩
   ·rw [e] at hv; exact hB.one r hr v hv
   ·rw [e] at hv; exact hC.sU _ (by omega) v hv
theorem bD.iE {ν:Nu} {tmps:List Value} {H:aA} {a:Act} {w:World} (hi:bD F ν tmps H a w) {id N ah:Nat} {get:Nat→List Value} (hb:H[id]?=some (some (.flat true N ah get))) {l:Loc} (hl:ν id=some l)
  {q m:Nat} (hq:q+m≤N) {news:Nat→List Value} {L:List Value} (hC:CR ν ah news m L) (hs:∀ r,r < m→∀ v∈news r,cW v=true) :
  (storeCells (l.at q 0) L).run P w=.ok () (w.setCells l.aJ (l.base+q*l.ah) L)∧bD F ν tmps (H.set id (some (.flat true N ah (jR get q news m)))) a (w.setCells l.aJ (l.base+q*l.ah) L):=by
 obtain ⟨l0,ff,hB⟩:=hi.hp.aJ id _ hb;rw [hl] at ff; cases ff;obtain ⟨h1,iI⟩:=hB.iE (P:=P) hq hC hs;have ak:id < H.length:=(List.getElem?_eq_some_iff.1 hb).1;have oj:∀ q',q'≠l.aJ→(w.setCells l.aJ (l.base+q*l.ah) L).heap[q']?=w.heap[q']?:=fun q' I6=>rK _ _ _ _ _ I6
 have pK:w.heap.size≤(w.setCells l.aJ (l.base+q*l.ah) L).heap.size:=by rw [oO]; exact Nat.le_refl _
 refine ⟨h1,hi.tm,(let ⟨_,_,uN,_⟩:=hB.own rfl rfl; hi.df.fZ uN oj),?_,fun j hj=>hi.fr j (by simpa using hj),hi.kp.setCells (hi.own id _ l hb rfl hl) _ _,fun j bj lj hj ow dq=>?_,hi.mono⟩
 ·refine hi.hp.fZ (id:=id) (fun _ _=>rfl) (fun j bj hj aN=>?_) (fun bj hj=>?_)
  ·rw [List.getElem?_set_ne (Ne.symm aN)] at hj;refine ⟨bj,hj,rfl,fun lj dq rh=>rh.same (oj _ ?_) pK⟩
   exact Ne.symm (hi.hp.sep id j _ bj l lj hb hj (Ne.symm aN) rfl hl dq)
  ·rw [List.getElem?_set_self ak] at hj;cases hj;exact ⟨l,hl,iI,fun j lj bj aN hj dq=>Ne.symm (hi.hp.sep id j _ bj l lj hb hj (Ne.symm aN) rfl hl dq)⟩
 ·by_cases e':j=id
  ·subst e'; rw [hl] at dq; cases dq; exact hi.own j _ l hb rfl hl
  ·rw [List.getElem?_set_ne (Ne.symm e')] at hj; exact hi.own j bj lj hj ow dq
theorem CR.aci {ν:Nu} {z:Value} {zs:List Value} (hz:z.cells=⟨zs⟩) (Hz:bn ν zs zs) (qQ:∀ v∈zs,v.oneCell'=true) (h0:0 < zs.length) (n:Nat):CR ν zs.length (fun _=>zs) n (Builtin.zeroCells z.cells n).toList:=by
 have aY:z.cells.size=zs.length:=by rw [hz]; rfl
 have ld:∀ j,j < n*zs.length→(Builtin.zeroCells z.cells n)[j]?=zs[j % zs.length]?:=fun j hj=>by
  rw [Kn _ _ _ (by rw [aY]; exact hj) (by rw [aY]; exact h0),aY,hz]; simp
 refine ⟨by simp [Es,aY],fun _ _=>rfl,fun r hr j v hv=>?_,fun u hu=>?_,fun _ _ v hv=>qQ v hv⟩
 ·have hj:=(List.getElem?_eq_some_iff.1 hv).1;have ak:r*zs.length+j < n*zs.length:=by
   have:(r+1)*zs.length≤n*zs.length:=Nat.mul_le_mul_right _ hr;rw [Nat.add_mul] at this; omega
  refine ⟨v,?_,Hz.2 j v v hv hv⟩;rw [Array.getElem?_toList,ld _ ak,Nat.mul_comm,Nat.mul_add_mod,Nat.mod_eq_of_lt hj]; exact hv
 ·obtain ⟨j,hj,rfl⟩:=List.getElem_of_mem hu;have gy:j < n*zs.length:=by simpa [Es,aY] using hj
  have h1:=ld j gy;rw [← Array.getElem?_toList,List.getElem?_eq_getElem hj] at h1;exact qQ _ (List.mem_of_getElem? h1.symm)
theorem Sv (hE:EnvOk P E) {ν:Nu} {tmps:List Value} {H:aA} {a:Act} {w:World} (hi:bD F ν tmps H a w) {t:TypeId} {x:Operand} {k:aA→Prop}
  (h:Ow E tmps H t x k) (ty:TypeId):∃ H' w',k H'∧bD F ν tmps H' a w'∧(Builtin.clear_ #[t] ty #[a.eval x]).run P w=.ok (.tuple #[]) w':=by
 obtain ⟨xv,J,hx⟩:=kQ h (hi.mE x);clear h;obtain ⟨ti,ht,h⟩:=c5 J;clear J;obtain ⟨d,hu,hd⟩:=(hE.ty _ _ ht).under
 split at h
 ·rename_i e hk;rw [hk] at hd;have hd:d=.slice e:=hd;subst hd;obtain ⟨te,he,J⟩:=c5 h;clear h;have a9:=hE.ty _ _ he
  split at J
  ·rename_i id row sp n c;obtain ⟨b,hb,h⟩:=gK J;clear J
   split at h
   ·rename_i dF;have dF:b.ah=te.size:=Nat.eq_of_beq_eq_true dF
    split at h
    ·rename_i N ah get _;have dF:ah=te.size:=dF;obtain ⟨⟨hN,dp⟩,h⟩:=h;obtain ⟨ak,h⟩:=my h;obtain ⟨l,hl,hB⟩:=hi.hp.aJ id _ hb;obtain ⟨i,iS,gG,nQ,z,hz,iH⟩:=a9.info;have xW:=CR.aci (ν:=ν) iH (a9.self ν) a9.one (by rw [a9.len]; exact a9.bit.1) n
     rw [a9.len,← dF] at xW;have hsc:∀ r,r < n→∀ v∈te.zero,cW v=true:=fun _ _ v hv=>dQ dp v hv
     have xo:n=0∨(0 < n∧∃ c',a.eval x=.slice (some (l.at row 0)) n c'):=by
      rcases hx.Cq with ⟨l',c',cP,_,_,e⟩ | ⟨h0,_⟩
      ·rw [hl] at cP; cases cP;rcases Nat.eq_zero_or_pos n with h | h
       ·exact .inl h
       ·exact .inr ⟨h,c',e⟩
      ·exact .inl h0
     rcases xo with h0 | ⟨lZ,c',cK⟩
     ·subst h0;have:=(hi.iE (P:=P) hb hl (q:=row) (m:=0) hN (CR.nil _ _ (fun _=>te.zero)) (fun r hr=>absurd hr (by omega))).2
      refine ⟨_,w,h,this,?_⟩;have:∃ o,a.eval x=.slice o 0 0∨∃ c',a.eval x=.slice o 0 c':=by
       rcases hx.Cq with ⟨l',c',_,_,_,e⟩ | ⟨_,bb,e⟩
       ·exact ⟨_,.inr ⟨_,e⟩⟩
       ·exact ⟨_,.inl e⟩
      obtain ⟨o,e | ⟨c',e⟩⟩:=this <;> rw [e] <;> cases o <;> simp [Builtin.clear_,dO hu]
     ·obtain ⟨h1,J⟩:=hi.iE (P:=P) hb hl (q:=row) hN xW hsc;refine ⟨_,_,h,J,?_⟩;obtain ⟨m,rfl⟩:∃ m,n=m+1:=⟨n - 1,by omega⟩
      rw [cK];simp [Builtin.clear_,dO hu,vV iS hz,h1]
    ·exact h.elim
   ·exact h.elim
  ·exact J.elim
 ·exact h.elim
theorem CR.pre {ν:Nu} {ah m q:Nat} {g:Nat→List Value} {L:List Value} (h:CR ν ah g m L) (hq:q≤m):CR ν ah g q (L.take (q*ah)):=by
 have hle:q*ah≤m*ah:=Nat.mul_le_mul_right _ hq;refine ⟨by rw [List.length_take,h.len]; omega,fun r hr=>h.row r (by omega),fun r hr j v hv=>?_,fun u hu=>h.one u (List.mem_of_mem_take hu),fun r hr=>h.sU r (by omega)⟩
 obtain ⟨v',h1,J⟩:=h.cell r (by omega) j v hv
 have hj:j < ah:=by rw [← h.row r (by omega)]; exact (List.getElem?_eq_some_iff.1 hv).1
 have:(r+1)*ah≤q*ah:=Nat.mul_le_mul_right _ hr;rw [Nat.add_mul] at this;exact ⟨v',by rw [List.getElem?_take_of_lt (by omega)]; exact h1,J⟩
theorem Lh (hE:EnvOk P E) {ν:Nu} {tmps:List Value} {H:aA} {a:Act} {w:World} (hi:bD F ν tmps H a w) {t:TypeId} {xv yv x' y':Value} {k:Value→aA→Prop} (hx:au ν xv x') (hy:au ν yv y')
  (h:Gp E H t xv yv k) (t2 ty:TypeId):∃ v H' w',k v H'∧au ν v v∧bD F ν tmps H' a w'∧(Builtin.copy_ #[t,t2] ty #[x',y']).run P w=.ok v w':=by
 obtain ⟨ti,ht,J⟩:=c5 h;clear h;obtain ⟨d,hu,hd⟩:=(hE.ty _ _ ht).under
 split at J
 ·rename_i e hk;rw [hk] at hd;have hd:d=.slice e:=hd;subst hd;obtain ⟨te,he,h⟩:=c5 J;clear J;have a9:=hE.ty _ _ he;obtain ⟨i,iS,gG,nQ,z,hz,iH⟩:=a9.info;obtain ⟨s,J,xX,hs⟩:=Fi h;clear h;obtain ⟨oy,cy,L,kH,kI,hC,j8⟩:=hs ν w _ hi.hp hy;have qR:s.kz=true→∀ r,r < s.m→∀ v∈s.get r,cW v=true:=fun h r hr v hv=>xX h r hr ν w hi.hp v hv
  split at J
  ·rename_i m news id row sp n c;obtain ⟨b,hb,h⟩:=gK J;clear J
   split at h
   ·rename_i dF;have dF:b.ah=te.size:=Nat.eq_of_beq_eq_true dF
    split at h
    ·rename_i N ah get _;have dF:ah=te.size:=dF;obtain ⟨hN,h⟩:=h;obtain ⟨ak,h⟩:=my h;obtain ⟨l,hl,hB⟩:=hi.hp.aJ id _ hb;have z8:CR ν te.size news m L:=hC;have PG:Nat.min m n≤m:=Nat.min_le_left _ _;have aeR:Nat.min m n≤n:=Nat.min_le_right _ _;have I7:CR ν ah news (Nat.min m n) (L.take (Nat.min m n*te.size)):=by rw [dF]; exact z8.pre PG
     obtain ⟨h1,h3⟩:=hi.iE (P:=P) hb hl (q:=row) (m:=Nat.min m n) (by omega) I7 (fun r hr=>qR rfl r (by show r < m; omega))
     have Af:y'=.slice oy m cy:=kH;have hf:(Builtin.firstCells i.size (Nat.min m n) (.slice oy m cy)).run P w=.ok (L.take (Nat.min m n*te.size)).toArray w:=by
      cases oy with
      | none =>
       have kG:m=0:=kI rfl;subst kG;have:L=[]:=List.eq_nil_of_length_eq_zero (by rw [z8.len]; simp)
       subst this;rw [run_firstCells_none]; simp
      | some b0 =>
       refine run_firstCells_some (P:=P) w i.size (Nat.min m n) b0 m cy _ (by rw [gG]; exact (z8.pre PG).len) fun j v hv=>j8 b0 rfl j v ?_
       have:=(List.getElem?_eq_some_iff.1 hv).1;rw [List.length_take] at this;rw [List.getElem?_take_of_lt (by omega)] at hv
       exact hv
     rcases hx.Cq with ⟨l',c',cP,_,_,e⟩ | ⟨h0,bb,e⟩
     ·rw [hl] at cP; cases cP;refine ⟨_,_,_,h,.int _ _,h3,?_⟩;rw [e,Af];simp [Builtin.copy_,dO hu,Builtin.lenOf,sizeOf,typeInfo,iS,hf,h1]
      rfl
     ·subst h0;have hq:Nat.min m 0=0:=Nat.min_zero m;have h4:=(hi.iE (P:=P) hb hl (q:=row) (m:=Nat.min m 0) (news:=news) (L:=[]) (by omega) (by rw [hq]; exact CR.nil _ _ _) (fun r hr=>absurd hr (by omega))).2
      refine ⟨_,_,w,h,.int _ _,h4,?_⟩;rw [e,Af];rw [hq,Nat.zero_mul,List.take_zero] at hf;cases bb <;> simp [Builtin.copy_,dO hu,Builtin.lenOf,sizeOf,typeInfo,iS,hq,hf] <;> rfl
    ·exact h.elim
   ·exact h.elim
  ·exact J.elim
 ·exact J.elim
theorem KR (hE:EnvOk P E) (bQ:lC F E) {ν:Nu} {tmps:List Value} {H:aA} {a:Act} {w:World} (hi:bD F ν tmps H a w) {t:TypeId} {xv yv x' y':Value} {k:Value→List Value→aA→Prop}
  (hx:au ν xv x') (hy:au ν yv y') (h:Gn E tmps H t xv yv k) (ty:TypeId) :
  ∃ v v' aj t' H' w',k v t' H'∧au aj v v'∧bD F aj t' H' a w'∧(Builtin.append_ #[t,t] ty #[x',y']).run P w=.ok v' w'∧(BM xv=true→ν.le aj):=by
 obtain ⟨ti,ht,J⟩:=c5 h;clear h;obtain ⟨d,hu,hd⟩:=(hE.ty _ _ ht).under
 split at J
 ·rename_i e hk;rw [hk] at hd;have hd:d=.slice e:=hd;subst hd;obtain ⟨te,he,h⟩:=c5 J;clear J;have a9:=hE.ty _ _ he;obtain ⟨i,iS,gG,nQ,z,hz,iH⟩:=a9.info;obtain ⟨s,J,xX,hs⟩:=Fi h;clear h;obtain ⟨oy,cy,L,kH,kI,hC,j8⟩:=hs ν w _ hi.hp hy;have hL:L.length=s.m*i.size:=by rw [gG]; exact hC.len
  have jH:z.cells.size=te.size:=by rw [iH]; simpa using a9.len
  have adR:=a9.bit;have small:∀ q,q*te.bytes≤140737488355328→q≤140737488355328:=fun q hq=>by
   have:q*1≤q*te.bytes:=Nat.mul_le_mul_left _ (by omega)
   omega
  have qR:s.kz=true→∀ r,r < s.m→∀ v∈s.get r,cW v=true:=fun h r hr v hv=>xX h r hr ν w hi.hp v hv
  split at J
  ·-- onto nil
   have hx:=hx.p6
   split at J
   ·rename_i hm;have xY:L=[]:=List.eq_nil_of_length_eq_zero (by rw [hL,hm]; simp)
    refine ⟨_,_,ν,_,_,w,J,.iR,hi,?_,fun _=>ν.le_refl⟩
    rw [hx,kH];have:=rN (P:=P) (w:=w) (ty:=ty) hu iS (A:=none) (oy:=oy) (n:=0) (c:=0) (m:=s.m) (cy:=cy) (L:=L) hL j8 kI (by omega) (w2:=w) (fun a ha=>by cases ha) (fun _=>rfl)
    rw [hm] at this ⊢
    simpa using this
   ·rename_i m hm;obtain ⟨hB,h⟩:=J;have h:=mz h;have bK:=A4 (P:=P) (w:=w) (ty:=ty) hu iS hz (A:=none) (oy:=oy) (n:=0) (c:=0) (m:=s.m) (cy:=cy) (O:=[]) (L:=L) (by simp) (fun a ha=>by cases ha) (fun _=>⟨rfl,rfl⟩) hL j8 kI (by omega) (by omega) (by rw [nQ,hm]; simpa using hB) (by have:=small _ hB; omega)
    have pB:ν H.length=none:=hi.fr _ (Nat.le_refl _);have eG:Ext (o5 te.size s) te.size (fun _=>[]) 0 s.get s.m s.kz:=by
     cases s with
     | fl m g=>exact ⟨rfl,rfl,by simp [o5,ai.n,Src.m],fun r hr=>by rw [fO (by omega)]; rfl,fun _=>rfl⟩
     | ex L=>exact ⟨rfl,rfl,by simp [o5,ai.n,Src.m],fun r hr=>by rw [fO (by omega)]; rfl,fun h=>by simp [o5,ai.jd] at h⟩
    have xW:=hC.mono (Nu.ko (l:=⟨w.heap.size,0,te.size,grownCap w (0+s.m) 0 e⟩) pB);have iI:=v7 (CR.nil _ te.size (fun _=>[])) xW eG (fun h=>⟨fun r hr=>absurd hr (by omega),qR h⟩) (w:=w) jH (iW:=0) (e:=e)
    have eY:=grownCap_ge w (0+s.m) 0 e;have cN:au (ν.add H.length ⟨w.heap.size,0,te.size,grownCap w (0+s.m) 0 e⟩) (.slice (some ⟨H.length,0,none⟩) (m+1) ao) (.slice (some ⟨w.heap.size,0,none⟩) (0+s.m) (grownCap w (0+s.m) 0 e)):=by
     have:=au.slice (ν:=ν.add H.length ⟨w.heap.size,0,te.size,grownCap w (0+s.m) 0 e⟩) H.length 0 (0+s.m) ao (grownCap w (0+s.m) 0 e) _ Nu.add_same (.inr rfl) eY (by simp)
     rw [show m+1=0+s.m by omega]
     simpa [Loc.at] using this
    have hq:=nh pB iI (vY w _ _ _ _) (Nat.le_refl _) cN;obtain ⟨H',h1,J⟩:=hi.quiet hq (k:=fun H'=>k _ tmps H') h
    refine ⟨_,_,_,_,_,_,h1,cN,J,?_,fun _=>Nu.ko pB⟩
    rw [hx,kH]
    simpa using bK
  ·rename_i id row n c;obtain ⟨b,hb,h⟩:=gK J;clear J;obtain ⟨l,hl,hB⟩:=hi.hp.aJ id b hb
   split at h
   ·rename_i dF;have dF:b.ah=te.size:=Nat.eq_of_beq_eq_true dF;rw [← dF] at hC jH
    -- what the slice may be
    have I8:∃ A c',x'=.slice (some A) n c'∧n≤c'∧(c'=c∨c=ao)∧((A=l.at row 0∧row+c'≤l.cap)∨(n=0∧c'=0)):=by
     rcases hx.tX with ⟨l',c',cP,h1,J,h3,e⟩ | ⟨h1,J,bb,e⟩
     ·rw [hl] at cP; cases cP;exact ⟨_,c',e,J,h1,.inl ⟨rfl,h3⟩⟩
     ·exact ⟨bb,0,by rw [e,h1],by omega,J.imp (fun h=>h) (fun h=>h),.inr ⟨h1,rfl⟩⟩
    obtain ⟨A,c',cK,DF,lE,hA⟩:=I8
    -- its cells
    have hold:row+n≤b.n→∃ O,CR ν b.ah (fun j=>b.row (row+j)) n O∧∀ (j:Nat) u,O[j]?=some u→w.cell? (A.add j)=some u:=by
     intro hle;rcases hA with ⟨rfl,_⟩ | ⟨h0,_⟩
     ·exact CR.G0 hB hle
     ·subst h0;exact ⟨[],CR.nil _ _ _,fun j u hu=>by simp at hu⟩
    have th:b.ph=true→∀ r,r < b.n→∀ v∈b.row r,cW v=true:=fun h r hr v hv=>by
     cases b with
     | flat o n e g=>exact hB.plain rfl r hr v hv
     | aR o e rows =>
      have h:rows.all jQ=true:=h;have hr:r < rows.length:=hr;have hv:v∈rows.getD r []:=hv;rw [List.getD_eq_getElem?_getD,List.getElem?_eq_getElem hr] at hv;exact ye (List.all_eq_true.1 h _ (List.getElem_mem hr)) v hv
     | cB r=>cases h
    have mM:(b.ph && s.kz)=true→(∀ r,r < b.n→∀ v∈b.row r,cW v=true)∧∀ r,r < s.m→∀ v∈s.get r,cW v=true:=fun h=>by
     rw [Bool.and_eq_true] at h; exact ⟨th h.1,qR h.2⟩
    -- in its place
    have Gq:∀ b' (q:Nat),b.oh=true→Ext b' b.ah b.row q s.get s.m (b.ph && s.kz)→row+n=q→q≤b.n→n+s.m≤c'→∃ w2,(Builtin.append_ #[t,t] ty #[x',y']).run P w=.ok (.slice (some A) (n+s.m) c') w2 ∧
      bS ν l b' w2∧Kept F.O F.W w2∧w.heap.size≤w2.heap.size∧∀ q,q≠l.aJ→w2.heap[q]?=w.heap[q]?:=by
     intro b' q ho eG Ag ri c7;rcases hA with ⟨rfl,fG⟩ | ⟨h0,ox⟩
     ·obtain ⟨h1,J⟩:=hB.extend (P:=P) ho ri hC eG mM (by omega)
      refine ⟨_,?_,J,hi.kp.setCells (hi.own id b l hb (ai.dm ho).1 hl) _ _,by rw [oO]; exact Nat.le_refl _,fun q hq=>rK _ _ _ _ _ hq⟩
      rw [cK,kH];refine rN (P:=P) hu iS hL j8 kI c7 (fun A' tj=>?_) (fun h=>by cases h)
      cases tj;have:(l.at row 0).add (n*i.size)=l.at q 0:=by
       rw [Loc.jS]; unfold Loc.at; congr 1;rw [hB.ah,← Ag,Nat.add_mul,gG,dF]; omega
      rw [this]; exact h1
     ·have kG:s.m=0:=by omega
      have xY:L=[]:=List.eq_nil_of_length_eq_zero (by rw [hL,kG]; simp)
      refine ⟨w,?_,?_,hi.kp,Nat.le_refl _,fun _ _=>rfl⟩
      ·rw [cK,kH];refine rN (P:=P) hu iS hL j8 kI c7 (fun A' tj=>by rw [xY]; rfl) (fun h=>by cases h)
      ·have fh:b'.n=q:=by rw [eG.num,kG]; rfl
       have bd:∀ r,r < q→b'.row r=b.row r:=fun r hr=>by rw [eG.row r (by omega),iO hr]
       exact ⟨by rw [eG.ah]; exact hB.ah,fun r hr=>by rw [fh] at hr; rw [bd r hr,eG.ah]; exact hB.len r (by omega),
        fun r hr j v hv=>by rw [fh] at hr; rw [bd r hr] at hv; exact hB.cell r (by omega) j v hv,
        fun h r hr v hv=>by rw [fh] at hr; rw [bd r hr] at hv; exact (mM (eG.flat h)).1 r (by omega) v hv,
        fun r hr v hv=>by rw [fh] at hr; rw [bd r hr] at hv; exact hB.one r (by omega) v hv,
        fun _ _=>by obtain ⟨cur,tt,q1,q2,q3⟩:=hB.own (ai.dm ho).1 (ai.dm ho).2; exact ⟨cur,tt,q1,q2,by rw [fh]; omega⟩,(fun r h=>by rw [(ai.dm eG.own).2] at h; cases h),hB.live⟩
    have PH:n+s.m≤c'→∀ aj,aj id=some l→au aj (.slice (some ⟨id,row,none⟩) (n+s.m) c) (.slice (some A) (n+s.m) c'):=by
     intro c7 aj cP;rcases hA with ⟨rfl,fG⟩ | ⟨h0,ox⟩
     ·exact .slice _ _ _ _ _ l cP lE c7 fG
     ·have kG:s.m=0:=by omega
      subst ox;rw [h0,kG];exact .void _ _ _ _ lE
    have grow:(n+s.m)*te.bytes≤140737488355328→c' < n+s.m→∀ O,O.length=n*i.size→(∀ (j:Nat) u,O[j]?=some u→w.cell? (A.add j)=some u) →
      (Builtin.append_ #[t,t] ty #[x',y']).run P w=.ok (.slice (some ⟨w.heap.size,0,none⟩) (n+s.m) (grownCap w (n+s.m) c' e)) (w.drew.alloc (tZ (O++L).toArray z (grownCap w (n+s.m) c' e - (n+s.m)) e)):=by
     intro hB c7 O hO1 hO2;rw [cK,kH];exact A4 (P:=P) (w:=w) (ty:=ty) hu iS hz hO1 (fun a ha=>by cases ha; exact hO2) (fun h=>by cases h) hL j8 kI DF c7 (by rw [nQ]; exact hB) (small _ hB)
    -- a block that stays
    have DG:row+n=b.n→n+s.m≤c'→(wL b s fun b'=>jD H id (some b') fun H'=>k (.slice (some ⟨id,row,none⟩) (n+s.m) c) tmps H') →
      ∃ v v' aj t' H' w',k v t' H'∧au aj v v'∧bD F aj t' H' a w'∧(Builtin.append_ #[t,t] ty #[x',y']).run P w=.ok v' w'∧ν.le aj:=fun Ag c7 h=>by
     obtain ⟨b',h,ho,eG⟩:=A5 h;obtain ⟨ak,h⟩:=my h;obtain ⟨w2,bK,iI,jJ,pK,oj⟩:=Gq b' _ ho eG Ag (Nat.le_refl _) c7;refine ⟨_,_,ν,_,_,w2,h,PH c7 ν hl,⟨hi.tm,(let ⟨_,_,uN,_⟩:=hB.own (ai.dm ho).1 (ai.dm ho).2; hi.df.fZ uN oj),?_,fun j hj=>hi.fr j (by simpa using hj),jJ,fun j bj lj hj ow dq=>?_,hi.mono⟩,bK,ν.le_refl⟩
     ·refine hi.hp.fZ (id:=id) (fun _ _=>rfl) (fun j bj hj aN=>?_) (fun bj hj=>?_)
      ·rw [List.getElem?_set_ne (Ne.symm aN)] at hj;refine ⟨bj,hj,rfl,fun lj dq rh=>rh.same (oj _ ?_) pK⟩
       exact Ne.symm (hi.hp.sep id j b bj l lj hb hj (Ne.symm aN) (ai.dm ho).1 hl dq)
      ·rw [List.getElem?_set_self ak] at hj;cases hj;exact ⟨l,hl,iI,fun j lj bj aN hj dq=>Ne.symm (hi.hp.sep id j b bj l lj hb hj (Ne.symm aN) (ai.dm ho).1 hl dq)⟩
     ·by_cases e':j=id
      ·subst e'; rw [hl] at dq; cases dq; exact hi.own j b l hb (ai.dm ho).1 hl
      ·rw [List.getElem?_set_ne (Ne.symm e')] at hj; exact hi.own j bj lj hj ow dq
    -- a new block
    have DH:row+n≤b.n→(n+s.m)*te.bytes≤140737488355328→c' < n+s.m→(CS b row n s fun b'=>jE H fun aK=>pf H (some b') fun H'=>k (.slice (some ⟨aK,0,none⟩) (n+s.m) ao) tmps H') →
      ∃ v v' aj t' H' w',k v t' H'∧au aj v v'∧bD F aj t' H' a w'∧(Builtin.append_ #[t,t] ty #[x',y']).run P w=.ok v' w'∧ν.le aj:=fun hle mj c7 h=>by
     obtain ⟨b',h,eG⟩:=Lg h;have h:=mz h;obtain ⟨O,hO,rj⟩:=hold hle;have bK:=grow mj c7 O (by rw [hO.len,gG,dF]) rj
     have pB:ν H.length=none:=hi.fr _ (Nat.le_refl _);have lf:=Nu.ko (l:=⟨w.heap.size,0,b.ah,grownCap w (n+s.m) c' e⟩) pB;have iI:=v7 (hO.mono lf) (hC.mono lf) eG (fun h=>⟨fun r hr v hv=>(mM h).1 (row+r) (by omega) v hv,(mM h).2⟩) (w:=w) jH (iW:=c') (e:=e)
     have eY:=grownCap_ge w (n+s.m) c' e;have cN:au (ν.add H.length ⟨w.heap.size,0,b.ah,grownCap w (n+s.m) c' e⟩) (.slice (some ⟨H.length,0,none⟩) (n+s.m) ao) (.slice (some ⟨w.heap.size,0,none⟩) (n+s.m) (grownCap w (n+s.m) c' e)):=by
      have:=au.slice (ν:=ν.add H.length ⟨w.heap.size,0,b.ah,grownCap w (n+s.m) c' e⟩) H.length 0 (n+s.m) ao (grownCap w (n+s.m) c' e) _ Nu.add_same (.inr rfl) eY (by simp)
      simpa [Loc.at] using this
     have hq:=nh pB iI (vY w _ _ _ _) (Nat.le_refl _) cN;obtain ⟨H',h1,J⟩:=hi.quiet hq (k:=fun H'=>k _ tmps H') h
     exact ⟨_,_,_,_,_,_,h1,cN,J,bK,lf⟩
    -- a block that is put in place of the old one
    have Ia:∀ b1:ai,b.oh=true→Ext b1 b.ah b.row n s.get s.m (b.ph && s.kz)→c=ao→row=0→E.base≤id→n≤b.n→(n+s.m)*te.bytes≤140737488355328 →
      (zv id b1 fun b'=>∃ aa,∀ a:Nat→Value,uL a id aa 0 tmps fun zw=>xm id H fun H1=>jD H1 id (some b') fun H'=>k (.slice (some ⟨id,0,none⟩) (n+s.m) ao) zw H') →
      ∃ v v' aj t' H' w',k v t' H'∧au aj v v'∧bD F aj t' H' a w'∧(Builtin.append_ #[t,t] ty #[x',y']).run P w=.ok v' w':=fun b1 ho eG cL acj CT fh mj tq=>by
     subst acj;obtain ⟨b',h,ho1,Qw⟩:=Le tq;obtain ⟨aa,h⟩:=h;obtain ⟨af,I9⟩:=NG hi.tm;obtain ⟨t',h,jK⟩:=EU (h af) ν _ hi.tm (fun j y hy aj=>by rw [Nat.zero_add]; exact I9 j y hy aj)
     obtain ⟨H1,h,kF,DJ⟩:=EV h;obtain ⟨ak,h⟩:=my h;by_cases c7:n+s.m≤c'
     ·obtain ⟨w2,bK,iI,jJ,pK,oj⟩:=Gq b1 _ ho eG (Nat.zero_add n) fh c7;have iI:=Qw ν ν l w2 (fun _ _=>rfl) iI
      have hv:=PH c7 ν hl;rw [cL] at hv;refine ⟨_,_,ν,_,_,w2,h,hv,⟨jK ν (fun _ _=>rfl),(let ⟨_,_,uN,_⟩:=hB.own (ai.dm ho).1 (ai.dm ho).2; hi.df.fZ uN oj),?_,fun j hj=>hi.fr j (by simpa [kF] using hj),jJ,fun j bj lj hj ow dq=>?_,hi.mono⟩,bK⟩
      ·refine hi.hp.fZ (id:=id) (fun _ _=>rfl) (fun j bj hj aN=>?_) (fun bj hj=>?_)
       ·rw [List.getElem?_set_ne (Ne.symm aN)] at hj;obtain ⟨b0,kJ,vA,tq⟩:=DJ j bj hj;refine ⟨b0,kJ,vA,fun lj dq rh=>tq ν ν lj w2 (fun _ _=>rfl) (rh.same (oj _ ?_) pK)⟩
        exact Ne.symm (hi.hp.sep id j b b0 l lj hb kJ (Ne.symm aN) (ai.dm ho).1 hl dq)
       ·rw [List.getElem?_set_self ak] at hj;cases hj;exact ⟨l,hl,iI,fun j lj bj aN hj dq=>Ne.symm (hi.hp.sep id j b bj l lj hb hj (Ne.symm aN) (ai.dm ho).1 hl dq)⟩
      ·by_cases e':j=id
       ·subst e'; rw [hl] at dq; cases dq; exact hi.own j b l hb (ai.dm ho).1 hl
       ·rw [List.getElem?_set_ne (Ne.symm e')] at hj;obtain ⟨b0,kJ,vA,_⟩:=DJ j bj hj;exact hi.own j b0 lj kJ (by rw [← vA]; exact ow) dq
     ·have c7:c' < n+s.m:=by omega
      obtain ⟨O,hO,rj⟩:=hold (by omega)
      have bK:=grow mj c7 O (by rw [hO.len,gG,dF]) rj
      have eY:=grownCap_ge w (n+s.m) c' e;have ib:ν.off (ν.add id ⟨w.heap.size,0,b.ah,grownCap w (n+s.m) c' e⟩) id:=fun j hj=>Nu.jc hj
      have Ib:=vY w (O++L).toArray z (grownCap w (n+s.m) c' e - (n+s.m)) e;have Ja:CR ν b.ah b.row n O:=hO.congr (fun r hr=>by simp)
      have iI:bS ν ⟨w.heap.size,0,b.ah,grownCap w (n+s.m) c' e⟩ b1 _:=v7 Ja hC eG (fun h=>⟨fun r hr v hv=>(mM h).1 r (by omega) v hv,(mM h).2⟩) (w:=w) jH (iW:=c') (e:=e)
      have hF:F.ν.le (ν.add id ⟨w.heap.size,0,b.ah,grownCap w (n+s.m) c' e⟩):=by
       intro j lj hj;have aN:j≠id:=by
        intro e';subst e';rw [F.fresh j (by have:=bQ.n0; omega)] at hj
        cases hj
       rw [Nu.jc aN]; exact hi.mono j lj hj
      have cN:au (ν.add id ⟨w.heap.size,0,b.ah,grownCap w (n+s.m) c' e⟩) (.slice (some ⟨id,0,none⟩) (n+s.m) ao) (.slice (some ⟨w.heap.size,0,none⟩) (n+s.m) (grownCap w (n+s.m) c' e)):=by
       have:=au.slice (ν:=ν.add id ⟨w.heap.size,0,b.ah,grownCap w (n+s.m) c' e⟩) id 0 (n+s.m) ao (grownCap w (n+s.m) c' e) _ Nu.add_same (.inr rfl) eY (by simp)
       simpa [Loc.at] using this
      have qS:id < H.length:=by rw [← kF]; exact ak
      refine ⟨_,_,ν.add id ⟨w.heap.size,0,b.ah,grownCap w (n+s.m) c' e⟩,_,_,_,h,cN,⟨jK _ ib,hi.df.below Ib,?_,fun j hj=>?_,hi.kp.below Ib,fun j bj lj hj ow dq=>?_,hF⟩,bK⟩
      ·refine hi.hp.fZ (id:=id) ib (fun j bj hj aN=>?_) (fun bj hj=>?_)
       ·rw [List.getElem?_set_ne (Ne.symm aN)] at hj;obtain ⟨b0,kJ,vA,tq⟩:=DJ j bj hj;exact ⟨b0,kJ,vA,fun lj dq rh=>tq ν _ lj _ ib (rh.below Ib)⟩
       ·rw [List.getElem?_set_self ak] at hj;cases hj;refine ⟨_,Nu.add_same,Qw ν _ _ _ ib iI,fun j lj bj aN hj dq=>?_⟩
        obtain ⟨lj',e1,e2⟩:=hi.hp.aJ j bj hj;rw [dq] at e1; cases e1;have:=e2.live;simp only;omega
      ·have hj:H.length≤j:=by simpa [kF] using hj
       rw [Nu.jc (by omega)]; exact hi.fr j hj
      ·by_cases e':j=id
       ·subst e';rw [Nu.add_same] at dq;cases dq;exact .inr hi.kp.size
       ·rw [List.getElem?_set_ne (Ne.symm e')] at hj;obtain ⟨b0,kJ,vA,_⟩:=DJ j bj hj;rw [Nu.jc e'] at dq;exact hi.own j b0 lj kJ (by rw [← vA]; exact ow) dq
    split at h
    ·rename_i cL;have cL:c≠ao:=of_decide_eq_false cL;have hc:c'=c:=lE.resolve_right cL;cases sT:Nat.ble (n+s.m) c with
     | true =>
      have c7:=Nat.le_of_ble_eq_true sT;obtain ⟨Ag,h⟩:=B6 h sT;obtain ⟨v,v',aj,t',H',w',h1,J,h3,h4,h5⟩:=DG Ag (by omega) h
      exact ⟨v,v',aj,t',H',w',h1,J,h3,h4,fun _=>h5⟩
     | false =>
      have c7:c < n+s.m:=by
       rcases Nat.lt_or_ge c (n+s.m) with h' | h'
       ·exact h'
       ·rw [Nat.ble_eq_true_of_le h'] at sT; cases sT
      obtain ⟨⟨hle,mj⟩,h⟩:=BJ h sT;obtain ⟨v,v',aj,t',H',w',h1,J,h3,h4,h5⟩:=DH hle mj (by omega) h
      exact ⟨v,v',aj,t',H',w',h1,J,h3,h4,fun _=>h5⟩
    ·rename_i cL;have cL:c=ao:=of_decide_eq_true cL;have nx:BM (.slice (some ⟨id,row,none⟩) n c)=true→False:=fun hx=>by rw [cL] at hx; simp [BM] at hx
     split at h
     ·have Ah:row=0:=by
       cases row with
       | zero=>rfl
       | succ r=>exact h.elim
      clear DG DH;subst Ah;obtain ⟨⟨CT,⟨fh,ho⟩,mj⟩,h⟩:=h;obtain ⟨b1,h,eG⟩:=Lg h;obtain ⟨v,v',aj,t',H',w',h1,J,h3,h4⟩:=Ia b1 ho (by simpa using eG) cL rfl CT fh mj h
      exact ⟨v,v',aj,t',H',w',h1,J,h3,h4,fun hx=>(nx hx).elim⟩
     ·split at h
      ·have Ah:row=0:=by
        cases row with
        | zero=>rfl
        | succ r=>exact h.elim
       clear DG DH;subst Ah;obtain ⟨⟨CT,fh,mj⟩,h⟩:=h;obtain ⟨b1,h,ho,eG⟩:=A5 h;obtain ⟨v,v',aj,t',H',w',h1,J,h3,h4⟩:=Ia b1 ho (by rw [fh]; exact eG) cL rfl CT (Nat.le_of_eq fh) mj h
       exact ⟨v,v',aj,t',H',w',h1,J,h3,h4,fun hx=>(nx hx).elim⟩
      ·have Ah:row=0:=by
        cases row with
        | zero=>rfl
        | succ r=>exact h.elim
       clear DG DH Ia;subst Ah;obtain ⟨⟨fh,mj⟩,h⟩:=h;obtain ⟨b',h,ho,eG⟩:=A5 h;obtain ⟨ak,h⟩:=my h;have h:=mz h;have gH:bD F ν tmps (H.set id none) a w:=by
        have hle:aA.le (H.set id none) H:=fun j bj hj=>by
         by_cases e':j=id
         ·subst e'; rw [List.getElem?_set_self ak] at hj; cases hj
         ·rw [List.getElem?_set_ne (Ne.symm e')] at hj; exact hj
        exact ⟨hi.tm,hi.df,hi.hp.sG hle,fun j hj=>hi.fr j (by simpa using hj),hi.kp,fun j bj lj hj ow dq=>hi.own j bj lj (hle j bj hj) ow dq,hi.mono⟩
       have pB:ν (H.set id none).length=none:=gH.fr _ (Nat.le_refl _);have iW:∀ j bj,(H.set id none)[j]?=some (some bj)→j≠id∧H[j]?=some (some bj):=fun j bj hj=>by
        by_cases e':j=id
        ·subst e'; rw [List.getElem?_set_self ak] at hj; cases hj
        ·rw [List.getElem?_set_ne (Ne.symm e')] at hj; exact ⟨e',hj⟩
       by_cases c7:n+s.m≤c'
       ·obtain ⟨w2,bK,iI,jJ,pK,oj⟩:=Gq b' _ ho eG (by rw [fh]; simp) (Nat.le_refl _) c7
        have h:=yo h;have lf:=Nu.ko (l:=l) pB;have y5:∀ j bj,(H.set id none++[some b'])[j]?=some (some bj)→(j < (H.set id none).length∧j≠id∧H[j]?=some (some bj))∨(j=(H.set id none).length∧bj=b'):=fun j bj hj=>by
         rw [List.getElem?_append] at hj
         split at hj
         ·rename_i Ic;exact .inl ⟨Ic,iW j bj hj⟩
         ·rename_i eY;have:j - (H.set id none).length=0:=by
           rcases Nat.lt_or_ge (j - (H.set id none).length) 1 with h' | h'
           ·omega
           ·rw [List.getElem?_eq_none (by simpa using h')] at hj; cases hj
          rw [this] at hj;cases hj;exact .inr ⟨by omega,rfl⟩
        have hv:au (ν.add (H.set id none).length l) (.slice (some ⟨(H.set id none).length,0,none⟩) (n+s.m) ao) (.slice (some A) (n+s.m) c'):=by
         rcases hA with ⟨rfl,fG⟩ | ⟨h0,ox⟩
         ·exact .slice _ _ _ _ _ l Nu.add_same (.inr rfl) c7 fG
         ·have kG:s.m=0:=by omega
          subst ox;rw [h0,kG];exact .void _ _ _ _ (.inr rfl)
        refine ⟨_,_,ν.add (H.set id none).length l,_,_,w2,h,hv,⟨hi.tm.mono lf,(let ⟨_,_,uN,_⟩:=hB.own (ai.dm ho).1 (ai.dm ho).2; hi.df.fZ uN oj),⟨fun j bj hj=>?_,fun i j bi bj li lj h1 J aN xV e1 e2=>?_⟩,fun j hj=>?_,jJ,fun j bj lj hj ow dq=>?_,Nu.le_trans hi.mono lf⟩,bK,fun hx=>(nx hx).elim⟩
        ·rcases y5 j bj hj with ⟨q1,q2,q3⟩ | ⟨q1,q2⟩
         ·obtain ⟨lj,e1,e2⟩:=hi.hp.aJ j bj q3;refine ⟨lj,lf _ _ e1,(e2.same (oj _ ?_) pK).mono lf⟩;exact Ne.symm (hi.hp.sep id j b bj l lj hb q3 (Ne.symm q2) (ai.dm ho).1 hl e1)
         ·subst q1; subst q2;exact ⟨l,Nu.add_same,iI.mono lf⟩
        ·rcases y5 i bi h1 with ⟨q1,q2,q3⟩ | ⟨q1,q2⟩
         ·rw [Nu.jc (by omega)] at e1
          rcases y5 j bj J with ⟨p1,p2,p3⟩ | ⟨p1,p2⟩
          ·rw [Nu.jc (by omega)] at e2
           exact hi.hp.sep i j bi bj li lj q3 p3 aN xV e1 e2
          ·subst p1;rw [Nu.add_same] at e2; cases e2;exact Ne.symm (hi.hp.sep id i b bi l li hb q3 (Ne.symm q2) (ai.dm ho).1 hl e1)
         ·subst q1;rw [Nu.add_same] at e1; cases e1;rcases y5 j bj J with ⟨p1,p2,p3⟩ | ⟨p1,p2⟩
          ·rw [Nu.jc (by omega)] at e2
           exact hi.hp.sep id j b bj l lj hb p3 (Ne.symm p2) (ai.dm ho).1 hl e2
          ·exact absurd p1.symm aN
        ·have hj:H.length+1≤j:=by simpa using hj
         rw [Nu.jc (by simp; omega)]; exact hi.fr j (by omega)
        ·rcases y5 j bj hj with ⟨q1,q2,q3⟩ | ⟨q1,q2⟩
         ·rw [Nu.jc (by omega)] at dq
          exact hi.own j bj lj q3 ow dq
         ·subst q1;rw [Nu.add_same] at dq; cases dq;exact hi.own id b l hb (ai.dm ho).1 hl
       ·obtain ⟨O,hO,rj⟩:=hold (by omega)
        have bK:=grow mj (by omega) O (by rw [hO.len,gG,dF]) rj
        have lf:=Nu.ko (l:=⟨w.heap.size,0,b.ah,grownCap w (n+s.m) c' e⟩) pB;have Ja:CR ν b.ah b.row n O:=hO.congr (fun r hr=>by simp)
        have Ie:Ext b' b.ah b.row n s.get s.m (b.ph && s.kz):=by rw [fh]; exact eG
        have iI:=v7 (Ja.mono lf) (hC.mono lf) Ie (fun h=>⟨fun r hr v hv=>(mM h).1 r (by omega) v hv,(mM h).2⟩) (w:=w) jH (iW:=c') (e:=e)
        have eY:=grownCap_ge w (n+s.m) c' e;have cN:au (ν.add (H.set id none).length ⟨w.heap.size,0,b.ah,grownCap w (n+s.m) c' e⟩) (.slice (some ⟨(H.set id none).length,0,none⟩) (n+s.m) ao) (.slice (some ⟨w.heap.size,0,none⟩) (n+s.m) (grownCap w (n+s.m) c' e)):=by
         have:=au.slice (ν:=ν.add (H.set id none).length ⟨w.heap.size,0,b.ah,grownCap w (n+s.m) c' e⟩) (H.set id none).length 0 (n+s.m) ao (grownCap w (n+s.m) c' e) _ Nu.add_same (.inr rfl) eY (by simp)
         simpa [Loc.at] using this
        have hq:=nh pB iI (vY w _ _ _ _) (Nat.le_refl _) cN;obtain ⟨H',h1,J⟩:=gH.quiet hq (k:=fun H'=>k _ tmps H') h
        exact ⟨_,_,_,_,_,_,h1,cN,J,bK,fun hx=>(nx hx).elim⟩
   ·exact h.elim
  ·rename_i id row b0 n c;obtain ⟨b,hb,h⟩:=gK J;clear J
   split at h
   ·rename_i dF;have dF:b.ah=te.size:=Nat.eq_of_beq_eq_true dF
    split at h
    ·rename_i N ah get m news _;have dF:ah=te.size:=dF;obtain ⟨⟨iu,hN⟩,h⟩:=h;obtain ⟨ak,h⟩:=my h;obtain ⟨l,hl,hB⟩:=hi.hp.aJ id _ hb;rw [ar] at h;have I7:CR ν ah news m L:=by rw [dF]; exact hC
     have vB:∀ r,r < m→∀ v∈news r,cW v=true:=qR rfl;obtain ⟨h1,J⟩:=hi.iE (P:=P) hb hl (q:=row+n) (m:=m) (by omega) I7 vB
     have Af:y'=.slice oy m cy:=kH;have Jb:L.length=m*i.size:=hL;have PI:oy=none→m=0:=kI;rcases hx.W5 with ⟨l',c',cP,h3,h4,h5,cL,e⟩ | ⟨h3,h4,cL,bb,e⟩
     ·rw [hl] at cP; cases cP;subst cL;refine ⟨_,_,ν,_,_,_,h,.mi _ _ _ _ c' l hl h3 (by omega) h5,J,?_,fun _=>ν.le_refl⟩
      rw [e,Af];refine rN (P:=P) hu iS Jb j8 PI (by omega) (fun A' tj=>?_) (fun h=>by cases h)
      cases tj;have e2:(l.at row 0).add (n*i.size)=l.at (row+n) 0:=by
       rw [Loc.jS]; unfold Loc.at; congr 1;rw [show l.ah=ah from hB.ah,gG,Nat.add_mul,dF]; omega
      rw [e2]; exact h1
     ·have kG:m=0:=by omega
      subst cL;subst h3;subst kG;subst h4;have xY:L=[]:=List.eq_nil_of_length_eq_zero (by rw [Jb]; simp)
      subst xY;refine ⟨_,_,ν,_,_,w,h,.kZ _ _ bb,J,?_,fun _=>ν.le_refl⟩
      rw [e,Af];exact rN (P:=P) hu iS Jb j8 PI (by omega) (fun A' tj=>rfl) (fun h=>by cases h)
    ·exact h.elim
   ·exact h.elim
  ·exact J.elim
 ·exact J.elim
theorem R4 (hE:EnvOk P E) (bQ:lC F E) {ν:Nu} {tmps:List Value} {H:aA} {a:Act} {w:World} (hi:bD F ν tmps H a w) {t:TypeId} {x y:Operand} {k:Value→List Value→aA→Prop}
  (h:NH E tmps H t x y k) (ty:TypeId):∃ v v' aj t' H' w',k v t' H'∧au aj v v'∧bD F aj t' H' a w'∧(Builtin.append_ #[t,t] ty #[a.eval x,a.eval y]).run P w=.ok v' w':=by
 obtain ⟨xv,J,hx⟩:=kQ h (hi.mE x);clear h;obtain ⟨yv,h,hy⟩:=kQ J (hi.mE y);obtain ⟨v,v',aj,t',H',w',h1,J,h3,h4,_⟩:=KR hE bQ hi hx hy h ty;exact ⟨v,v',aj,t',H',w',h1,J,h3,h4⟩
end
open Go Go.RowKit
def xK:List Nat→Nat→Nat→Option Nat
 | [],_,_=>none
 | a::l,id,k=>match Nat.beq a id with
  | true=>some k
  | false=>xK l id (k+1)
theorem Ma:∀ {l:List Nat} {id k j:Nat},xK l id k=some j→k≤j∧l[j - k]?=some id
 | [],id,k,j,h=>by cases h
 | a::l,id,k,j,h=>by
  unfold xK at h
  split at h
  ·rename_i e;cases h;exact ⟨Nat.le_refl _,by simp [Nat.eq_of_beq_eq_true e]⟩
  ·obtain ⟨h1,J⟩:=Ma h;refine ⟨by omega,?_⟩
   rw [show j - k=(j - (k+1))+1 by omega,List.getElem?_cons_succ]; exact J
def ic (σ:List Nat):Nat→Value→Option Value
 | 0,_=>none
 | k+1,v=>match v with
  | .bool b=>some (.bool b)
  | .int q n=>some (.int q n)
  | .string s=>some (.string s)
  | .pointer none=>some (.pointer none)
  | .pointer (some ⟨id,row,sp⟩)=>match xK σ id 0 with | some j=>some (.pointer (some ⟨j,row,sp⟩)) | none=>some (.chan none)
  | .slice none n c=>some (.slice none n c)
  | .slice (some ⟨id,row,sp⟩) n c=>match xK σ id 0 with | some j=>some (.slice (some ⟨j,row,sp⟩) n c) | none=>some (.chan none)
  | .nilFunc=>some .nilFunc
  | .chan none=>some (.chan none)
  | .agg ⟨l⟩=>match l.foldr (fun v acc=>match ic σ k v,acc with | some x,some xs=>some (x::xs) | _,_=>none) (some []) with | some l'=>some (.agg ⟨l'⟩) | none=>none
  | .tuple ⟨l⟩=>match l.foldr (fun v acc=>match ic σ k v,acc with | some x,some xs=>some (x::xs) | _,_=>none) (some []) with | some l'=>some (.tuple ⟨l'⟩) | none=>none
  | .func fn ⟨l⟩ ⟨m⟩=>match l.foldr (fun v acc=>match ic σ k v,acc with | some x,some xs=>some (x::xs) | _,_=>none) (some []),m.foldr (fun v acc=>match ic σ k v,acc with | some x,some xs=>some (x::xs) | _,_=>none) (some []) with
   | some l',some m'=>some (.func fn ⟨l'⟩ ⟨m'⟩) | _,_=>none
  | _=>none
def nJ (σ:List Nat) (k:Nat) (l:List Value):Option (List Value):=l.foldr (fun v acc=>match ic σ k v,acc with | some x,some xs=>some (x::xs) | _,_=>none) (some [])
theorem Fj {σ:List Nat} {m:Nat} {x:Value} {xs l:List Value} (h:nJ σ m (x::xs)=some l):∃ y ys,l=y::ys∧ic σ m x=some y∧nJ σ m xs=some ys:=by
 unfold nJ at h;rw [List.foldr_cons] at h
 split at h
 ·rename_i y ys h1 J;exact ⟨y,ys,(Option.some.inj h).symm,h1,J⟩
 ·cases h
theorem yD {σ:List Nat} {m:Nat} {ν aj:Nu} (h:∀ v v2 r,ic σ m v=some v2→au ν v r→au aj v2 r):∀ {xs l rs:List Value},nJ σ m xs=some l→bn ν xs rs→bn aj l rs
 | [],l,rs,h1,J=>by
  have:l=[]:=by simp [nJ] at h1; exact h1
  rw [this,J.jb]; exact .nil _
 | x::xs,l,rs,h1,J=>by
  obtain ⟨y,ys,rfl,e1,e2⟩:=Fj h1;obtain ⟨r,ck,rfl,k1,k2⟩:=J.jw;exact .cons (h _ _ _ e1 k1) (yD h e2 k2)
theorem G1 {σ:List Nat} {id j:Nat} {ν:Nu} (h:xK σ id 0=some j):(ν.comp σ) j=ν id:=by
 have:=(Ma h).2;rw [Nat.sub_zero] at this;simp [Nu.comp,this]
theorem MV {σ:List Nat} {ν:Nu}:∀ (m:Nat) (v v2 r:Value),ic σ m v=some v2→au ν v r→au (ν.comp σ) v2 r:=by
 intro m
 induction m with
 | zero=>intro v v2 r h; simp [ic] at h
 | succ m ih =>
  intro v v2 r h hr;cases hr with
  | bool b=>cases h; exact .bool b
  | int q n=>cases h; exact .int q n
  | str s=>cases h; exact .str s
  | mI=>cases h; exact .mI
  | ptr id row sp l hl =>
   unfold ic at h
   dsimp only at h
   split at h
   ·rename_i j hj;cases h;exact .ptr j row sp l (by rw [G1 hj]; exact hl)
   ·cases h; exact .dead _ rfl
  | iR=>cases h; exact .iR
  | slice id row n c c' l hl hc hn hr =>
   unfold ic at h
   dsimp only at h
   split at h
   ·rename_i j hj;cases h;exact .slice j row n c c' l (by rw [G1 hj]; exact hl) hc hn hr
   ·cases h; exact .dead _ rfl
  | void id row c a hc =>
   unfold ic at h
   dsimp only at h
   split at h
   ·cases h; exact .void _ row c a hc
   ·cases h; exact .dead _ rfl
  | mi id row m' n c' l hl hm hn hr =>
   unfold ic at h
   dsimp only at h
   split at h
   ·rename_i j hj;cases h;exact .mi j row m' n c' l (by rw [G1 hj]; exact hl) hm hn hr
   ·cases h; exact .dead _ rfl
  | kZ id row a =>
   unfold ic at h
   dsimp only at h
   split at h
   ·cases h; exact .kZ _ row a
   ·cases h; exact .dead _ rfl
  | mJ=>cases h; exact .mJ
  | func fn xs ys nP dy h1 J h3 h4 =>
   unfold ic at h
   dsimp only at h
   split at h
   ·rename_i l1 l2 e1 e2;cases h;have t1:=yD ih e1 ⟨h1,J⟩;have t2:=yD ih e2 ⟨h3,h4⟩;exact .func _ _ _ _ _ t1.1 t1.2 t2.1 t2.2
   ·cases h
  | agg xs ys h1 J =>
   unfold ic at h
   dsimp only at h
   split at h
   ·rename_i l1 e1;cases h;have t1:=yD ih e1 ⟨h1,J⟩;exact .agg _ _ t1.1 t1.2
   ·cases h
  | tuple xs ys h1 J =>
   unfold ic at h
   dsimp only at h
   split at h
   ·rename_i l1 e1;cases h;have t1:=yD ih e1 ⟨h1,J⟩;exact .tuple _ _ t1.1 t1.2
   ·cases h
  | dead w hw=>cases h; exact .dead _ (by assumption)
theorem Vy {σ:List Nat} {m:Nat} {v v2:Value} (h:ic σ m v=some v2) (h1:v.oneCell'=true):v2.oneCell'=true:=by
 cases m with
 | zero=>simp [ic] at h
 | succ m =>
  unfold ic at h
  split at h
  all_goals first
   | (exfalso; simp [Value.oneCell'] at h1; done)
   | (cases h; rfl)
   | (split at h <;> first | (cases h; rfl) | cases h)
   | cases h
theorem FP {σ:List Nat} {m:Nat} {p:Value→Prop} (hp:∀ v v2,ic σ m v=some v2→p v→p v2):∀ {xs l:List Value},nJ σ m xs=some l→(∀ v∈xs,p v)→(l.length=xs.length∧∀ v∈l,p v)
 | [],l,h,_=>by
  have:l=[]:=by simp [nJ] at h; exact h
  subst this;exact ⟨rfl,fun v hv=>by simp at hv⟩
 | x::xs,l,h,hx=>by
  obtain ⟨y,ys,rfl,e1,e2⟩:=Fj h;obtain ⟨h1,J⟩:=FP hp e2 (fun v hv=>hx v (by simp [hv]))
  refine ⟨by simp [h1],fun v hv=>?_⟩
  rcases List.mem_cons.1 hv with e | e
  ·rw [e]; exact hp x y e1 (hx x (by simp))
  ·exact J v e
def zQ (a:Nat→Value) (σ aa:List Nat):Nat→List Value→(List Value→Prop)→Prop
 | _,[],k=>k []
 | i,v::l,k=>match I5 i aa with
  | true=>zN (ic σ 3 v) fun v'=>zQ a σ aa (i+1) l fun l'=>k (v'::l')
  | false=>zQ a σ aa (i+1) l fun l'=>k (a i::l')
theorem Fk {a:Nat→Value} {σ aa:List Nat}:∀ {t:List Value} {i:Nat} {k:List Value→Prop},zQ a σ aa i t k→∀ (ν:Nu) r,bn ν t r→(∀ (j:Nat) (y:Value),r[j]?=some y→∀ aj:Nu,au aj (a (i+j)) y)→∃ t',k t'∧bn (ν.comp σ) t' r
 | [],i,k,h,ν,r,hr,ha=>⟨[],h,by rw [hr.jb]; exact .nil _⟩
 | v::l,i,k,h,ν,r,hr,ha=>by
  obtain ⟨y,ys,rfl,h1,J⟩:=hr.jw;obtain ⟨hx,ha⟩:=MU ha;unfold zQ at h
  split at h
  ·obtain ⟨v',e,h⟩:=Fh h;obtain ⟨l',h3,h4⟩:=Fk h ν ys J ha;exact ⟨_,h3,.cons (MV 3 _ _ _ e h1) h4⟩
  ·obtain ⟨l',h3,h4⟩:=Fk h ν ys J ha;exact ⟨_,h3,.cons (hx _) h4⟩
def Gr (σ:List Nat):List (List Value)→(List (List Value)→Prop)→Prop
 | [],k=>k []
 | r::l,k=>zN (nJ σ 3 r) fun r'=>Gr σ l fun l'=>k (r'::l')
theorem Kv {σ:List Nat}:∀ {l:List (List Value)} {k:List (List Value)→Prop},Gr σ l k→∃ l',k l'∧l'.length=l.length∧∀ (i:Nat) r',l'[i]?=some r'→∃ r,l[i]?=some r∧nJ σ 3 r=some r'
 | [],k,h=>⟨[],h,rfl,fun i r hr=>by simp at hr⟩
 | r::l,k,h=>by
  obtain ⟨r',e,h⟩:=Fh h;obtain ⟨l',h,h1,J⟩:=Kv h;refine ⟨_,h,by simp [h1],fun i q hq=>?_⟩
  cases i with
  | zero=>simp at hq; subst hq; exact ⟨r,rfl,e⟩
  | succ i=>simpa using J i q (by simpa using hq)
def PJ (σ:List Nat) (b:ai) (k:ai→Prop):Prop :=
 match b with
 | .flat o n e g=>k (.flat o n e g)
 | .aR o e rows=>Gr σ rows fun jg=>k (.aR o e jg)
 | .cB r=>k (.cB r)
theorem Uq {σ:List Nat} {b:ai} {k:ai→Prop} (h:PJ σ b k):∃ b',k b'∧b'.own=b.own∧∀ (ν:Nu) (l:Loc) (w:World),bS ν l b w→bS (ν.comp σ) l b' w:=by
 cases b with
 | flat o n e g =>
  exact ⟨_,h,rfl,fun ν l w hB=>hB.FO (hB.plain rfl)⟩
 | cB r=>exact ⟨_,h,rfl,fun ν l w hB=>hB.FO (fun r hr=>absurd hr (Nat.not_lt_zero r))⟩
 | aR o e rows =>
  obtain ⟨jg,h,h1,J⟩:=Kv h;refine ⟨_,h,rfl,fun ν l w hB=>?_⟩
  have bd:∀ r,r < jg.length→∃ q,(ai.aR o e rows).row r=q∧nJ σ 3 q=some ((ai.aR o e jg).row r)∧r < rows.length:=by
   intro r hr;obtain ⟨q,h3,h4⟩:=J r _ (List.getElem?_eq_getElem hr);refine ⟨q,by simp [ai.row,List.getD,h3],?_,by omega⟩
   simpa [ai.row,List.getD,List.getElem?_eq_getElem hr] using h4
  -- cell by cell, against the real cells of the row
  have real:∀ (xs:List Value) (P:Nat→Value→Prop),(∀ (j:Nat) v,xs[j]?=some v→∃ v',P j v'∧au ν v v')→∀ l,nJ σ 3 xs=some l→∀ (j:Nat) v,l[j]?=some v→∃ v',P j v'∧au (ν.comp σ) v v':=by
   intro xs
   induction xs with
   | nil =>
    intro P _ l hl j v hv;have:l=[]:=by simp [nJ] at hl; exact hl
    rw [this] at hv; simp at hv
   | cons x xs ih =>
    intro P hP l hl j v hv;obtain ⟨y,ys,rfl,e1,e2⟩:=Fj hl;cases j with
    | zero =>
     simp at hv; subst hv;obtain ⟨v',h3,h4⟩:=hP 0 x rfl;exact ⟨v',h3,MV 3 _ _ _ e1 h4⟩
    | succ j =>
     exact ih (fun j=>P (j+1)) (fun j v hv=>hP (j+1) v (by simpa using hv)) ys e2 j v (by simpa using hv)
  refine ⟨hB.ah,fun r hr=>?_,fun r hr j v hv=>?_,fun h=>by simp [ai.jd] at h,fun r hr v hv=>?_,fun ho _=>?_,(fun r h=>nomatch h),hB.live⟩
  ·obtain ⟨q,h3,h4,h5⟩:=bd r hr;have:=(FP (p:=fun _=>True) (fun _ _ _ _=>trivial) h4 (fun _ _=>trivial)).1
   rw [this,← h3]; exact hB.len r h5
  ·obtain ⟨q,h3,h4,h5⟩:=bd r hr;exact real q (fun j v'=>w.cell? (l.at r j)=some v') (fun j v hv=>hB.cell r h5 j v (by rw [h3]; exact hv)) _ h4 j v hv
  ·obtain ⟨q,h3,h4,h5⟩:=bd r hr;exact (FP (p:=fun v=>v.oneCell'=true) (fun _ _ h h'=>Vy h h') h4 (fun v hv=>hB.one r h5 v (by rw [h3]; exact hv))).2 v hv
  ·obtain ⟨cur,t,q1,q2,q3⟩:=hB.own ho rfl;exact ⟨cur,t,q1,q2,by simp only [ai.n] at q3 ⊢; omega⟩
def uO (H:aA):Nat→(Option ai→Prop)→Prop:=fun id k=>match H,id with
 | [],_=>k none
 | b::_,0=>k b
 | _::H,n+1=>uO H n k
theorem Li:∀ {H:aA} {id:Nat} {k:Option ai→Prop},uO H id k→∃ b,k b∧∀ c,b=some c→H[id]?=some (some c)
 | [],_,k,h=>by
  have h:k none:=by unfold uO at h; exact h
  exact ⟨none,h,fun c hc=>by cases hc⟩
 | b::_,0,k,h=>by
  have h:k b:=by unfold uO at h; exact h
  exact ⟨b,h,fun c hc=>by rw [hc]; rfl⟩
 | _::H,n+1,k,h=>by
  have h:uO H n k:=by unfold uO at h; exact h
  obtain ⟨b,h1,J⟩:=Li h;exact ⟨b,h1,fun c hc=>by simpa using J c hc⟩
def Dg (σ:List Nat) (H:aA):List Nat→(aA→Prop)→Prop
 | [],k=>k []
 | s::l,k=>uO H s fun b=>match b with
  | none=>Dg σ H l fun H'=>k (none::H')
  | some b=>PJ σ b fun b'=>Dg σ H l fun H'=>k (some b'::H')
theorem Fl {σ:List Nat} {H:aA}:∀ {l:List Nat} {k:aA→Prop},Dg σ H l k→∃ H',k H'∧H'.length=l.length∧∀ (j:Nat) b',H'[j]?=some (some b')→∃ s b,l[j]?=some s∧H[s]?=some (some b)∧b'.own=b.own ∧
  ∀ (ν:Nu) (lc:Loc) (w:World),bS ν lc b w→bS (ν.comp σ) lc b' w
 | [],k,h=>⟨[],h,rfl,fun j b hj=>by simp at hj⟩
 | s::l,k,h=>by
  obtain ⟨b,h,hb⟩:=Li h;cases b with
  | none =>
   obtain ⟨H',h1,J,h3⟩:=Fl (l:=l) h;refine ⟨_,h1,by simp [J],fun j b' hj=>?_⟩
   cases j with
   | zero=>simp at hj
   | succ j=>simpa using h3 j b' (by simpa using hj)
  | some b =>
   obtain ⟨b1,h,ho,hr⟩:=Uq h;obtain ⟨H',h1,J,h3⟩:=Fl (l:=l) h;refine ⟨_,h1,by simp [J],fun j b' hj=>?_⟩
   cases j with
   | zero=>simp at hj; subst hj; exact ⟨s,b,rfl,hb b rfl,ho,hr⟩
   | succ j=>simpa using h3 j b' (by simpa using hj)
def CU (a:Nat):List Nat→Bool
 | []=>true
 | b::l=>match Nat.beq a b with
  | true=>false
  | false=>CU a l
theorem Lj {a:Nat}:∀ {l:List Nat},CU a l=true→a ∉ l
 | [],_=>by simp
 | b::l,h=>by
  unfold CU at h
  split at h
  ·cases h
  ·rename_i e;rw [List.mem_cons,not_or];exact ⟨Nat.ne_of_beq_eq_false e,Lj h⟩
def Dh:List Nat→Bool
 | []=>true
 | a::l=>match CU a l with
  | true=>Dh l
  | false=>false
theorem Mb:∀ {l:List Nat},Dh l=true→l.Nodup
 | [],_=>by simp
 | a::l,h=>by
  unfold Dh at h
  split at h
  ·rename_i e; exact List.nodup_cons.2 ⟨Lj e,Mb h⟩
  ·cases h
def preB (base:Nat):Nat→List Nat→Bool
 | k,[]=>Nat.ble base k
 | k,a::l=>match Nat.ble base k with
  | true=>true
  | false=>match Nat.beq a k with
   | true=>preB base (k+1) l
   | false=>false
theorem Mc {base:Nat}:∀ {l:List Nat} {k:Nat},preB base k l=true→∀ j,k+j < base→l[j]?=some (k+j)
 | [],k,h,j,hj=>by
  have:=Nat.le_of_ble_eq_true h;omega
 | a::l,k,h,j,hj=>by
  unfold preB at h
  split at h
  ·rename_i e; have:=Nat.le_of_ble_eq_true e; omega
  ·split at h
   ·rename_i e;have e:=Nat.eq_of_beq_eq_true e;cases j with
    | zero=>simp [e]
    | succ j =>
     have:=Mc h j (by omega)
     rw [List.getElem?_cons_succ,this]; congr 1; omega
   ·cases h
def G3 (base:Nat) (σ:List Nat):Bool:=match preB base 0 σ with
 | true=>Dh σ
 | false=>false
theorem Sw {base:Nat} {σ:List Nat} (h:G3 base σ=true):(∀ j,j < base→σ[j]?=some j)∧σ.Nodup:=by
 unfold G3 at h
 split at h
 ·rename_i e;exact ⟨fun j hj=>by have:=Mc e j (by omega); simpa using this,Mb h⟩
 ·cases h
def Ig (E:Env) (σ aa:List Nat) (t:List Value) (H:aA) (k:SK):Prop :=
 match G3 E.base σ with
 | true=>∀ a:Nat→Value,zQ a σ aa 0 t fun t'=>Dg σ H σ fun H'=>k t' H'
 | false=>False
theorem Ur {E:Env} {F:Fr} (bQ:lC F E) {σ aa:List Nat} {ν:Nu} {t:List Value} {H:aA} {a:Act} {w:World} {k:SK} (hi:bD F ν t H a w) (h:Ig E σ aa t H k) :
  ∃ t' H',k t' H'∧bD F (ν.comp σ) t' H' a w:=by
 unfold Ig at h
 split at h
 ·rename_i hb;obtain ⟨Ai,dW⟩:=Sw hb;obtain ⟨af,I9⟩:=NG hi.tm;obtain ⟨t',h,ht⟩:=Fk (h af) ν _ hi.tm (fun j y hy aj=>by rw [Nat.zero_add]; exact I9 j y hy aj)
  obtain ⟨H',h,kF,hH⟩:=Fl h;have nD:∀ (j s:Nat),σ[j]?=some s→(ν.comp σ) j=ν s:=fun j s hj=>by simp [Nu.comp,hj]
  refine ⟨t',H',h,⟨ht,hi.df,⟨fun j b' hj=>?_,fun i j bi bj li lj aS gy aN ho e1 e2=>?_⟩,fun j hj=>?_,hi.kp,fun j b' l hj ho hl=>?_,fun id l bu=>?_⟩⟩
  ·obtain ⟨s,b,h1,J,h3,h4⟩:=hH j b' hj;obtain ⟨l,h5,h6⟩:=hi.hp.aJ s b J;exact ⟨l,by rw [nD j s h1]; exact h5,h4 ν l w h6⟩
  ·obtain ⟨s,b,h1,J,h3,h4⟩:=hH i bi aS;obtain ⟨s',b',fx,j9,tv,rk⟩:=hH j bj gy;rw [nD i s h1] at e1;rw [nD j s' fx] at e2;refine hi.hp.sep s s' b b' li lj J j9 (fun e=>aN ?_) (by rw [← h3]; exact ho) e1 e2
   subst e;exact (List.getElem?_inj (List.getElem?_eq_some_iff.1 h1).1 dW).1 (h1.trans fx.symm)
  ·rw [kF] at hj;simp [Nu.comp,List.getElem?_eq_none hj]
  ·obtain ⟨s,b,h1,J,h3,h4⟩:=hH j b' hj;rw [nD j s h1] at hl;exact hi.own s b l J (by rw [← h3]; exact ho) hl
  ·have ak:id < F.n0:=by
    rcases Nat.lt_or_ge id F.n0 with h | h
    ·exact h
    ·rw [F.fresh id h] at bu; cases bu
   rw [nD id id (Ai id (by have:=bQ.n0; omega))]
   exact hi.mono id l bu
 ·exact h.elim
def Ih (E:Env) (t:List Value) (H:aA) (k:SK):Prop:=k t H∨∃ σ aa,Ig E σ aa t H k
theorem Md {E:Env} {F:Fr} (bQ:lC F E) {ν:Nu} {t:List Value} {H:aA} {a:Act} {w:World} {k:SK} (hi:bD F ν t H a w) (h:Ih E t H k) :
  ∃ aj t' H',k t' H'∧bD F aj t' H' a w:=by
 rcases h with h | ⟨σ,aa,h⟩
 ·exact ⟨ν,t,H,h,hi⟩
 ·obtain ⟨t',H',h1,J⟩:=Ur bQ hi h;exact ⟨_,t',H',h1,J⟩
inductive bC:List (Option Value)→List Value→Prop
 | nil:bC [] []
 | aa {v:Value} {ps:List (Option Value)} {vs:List Value} (h:bC ps vs):bC (some v::ps) (v::vs)
 | skip {v:Value} {ps:List (Option Value)} {vs:List Value} (h:bC ps vs):bC (none::ps) (v::vs)
def qE (a:Nat→Value):Nat→List (Option Value)→List Value
 | _,[]=>[]
 | i,some v::ps=>v::qE a (i+1) ps
 | i,none::ps=>a i::qE a (i+1) ps
def aD (n:Nat) (ps:List (Option Value)):List (Option Value):=match n with
 | 0=>ps
 | n+1=>none::aD n ps
def zs (a:Nat→Value) (i n:Nat) (l:List Value):List Value:=match n with
 | 0=>l
 | n+1=>a i::zs a (i+1) n l
theorem bC.sk:∀ (n:Nat) {ps:List (Option Value)} {vs:List Value},bC ps (vs.drop n)→Nat.ble n vs.length=true→bC (aD n ps) vs
 | 0,_,_,h,_=>h
 | n+1,_,[],_,h=>by simp at h
 | n+1,_,v::vs,h,hn=>.skip (bC.sk n (vs:=vs) h (by simpa using hn))
theorem bL {ps:List (Option Value)} {vs:List Value} (h:bC ps vs):∃ a:Nat→Value,vs=qE a 0 ps:=by
 have key:∀ (ps:List (Option Value)) (vs:List Value),bC ps vs→∀ i,∃ a:Nat→Value,vs=qE a i ps:=by
  intro ps vs h
  induction h with
  | nil=>exact fun i=>⟨fun _=>undef,rfl⟩
  | aa h ih=>
   intro i;obtain ⟨a,ha⟩:=ih (i+1);exact ⟨a,by rw [ha]; rfl⟩
  | @skip v ps vs h ih =>
   intro i;obtain ⟨a,ha⟩:=ih (i+1);refine ⟨fun j=>if j=i then v else a j,?_⟩
   have e:∀ (ps:List (Option Value)) (k:Nat),i < k→qE (fun j=>if j=i then v else a j) k ps=qE a k ps:=by
    intro ps
    induction ps with
    | nil=>intros; rfl
    | cons p ps ih =>
     intro k hk;cases p with
     | none=>simp only [qE,ih (k+1) (by omega),if_neg (show k≠i by omega)]
     | some p=>simp only [qE,ih (k+1) (by omega)]
   simp only [qE,e ps (i+1) (by omega),ha,if_true]
 exact key ps vs h 0
open Go Go.RowKit
def O1 (E:Env) (o:Oper) (tmps:List Value) (H:aA) (k:SK) (q:Prop):Prop :=
 match o.op with
 | .store t x y=>Cv E tmps H t x y fun t' H'=>dD t' o.dst undef fun vz=>k vz H'
 | .call c=>match c.callee with
  | .builtin .append=>match c.args.toList,c.argTypes.toList with
   | [x,y],[t,t']=>match Nat.beq t t' with
    | true=>NH E tmps H t x y fun v t1 H1=>dD t1 o.dst v fun t2=>k t2 H1
    | false=>q
   | _,_=>False
  | .builtin .clear=>match c.args.toList,c.argTypes.toList with
   | [x],[t]=>Ow E tmps H t x fun H1=>dD tmps o.dst (.tuple #[]) fun t2=>k t2 H1
   | _,_=>False
  | .builtin .copy=>match c.args.toList,c.argTypes.toList with
   | [x,y],[t,_]=>b9 tmps x fun xv=>b9 tmps y fun yv=>Gp E H t xv yv fun v H1=>dD tmps o.dst v fun t2=>k t2 H1
   | _,_=>False
  | .value f=>b9 tmps f fun fv=>match fv with
   | .func (.func g) a b=>match E.Ψ g with
    | some G=>qf tmps c.args.toList fun vs=>qP a.toList vs fun l=>qP l b.toList fun args=>G args H fun v H'=>dD tmps o.dst v fun t'=>k t' H'
    | none=>q
   | .func (.yield l) a b=>match a.toList,b.toList,E.ys with
    | [],[],(l',G)::_=>l'=l∧qf tmps c.args.toList fun vs=>G vs H fun v H'=>dD tmps o.dst v fun t'=>k t' H'
    | _,_,_=>False
   | _=>False
  | _=>q
 | _=>q
def zz (E:Env) (o:Oper) (tmps:List Value) (H:aA) (k:SK):Prop :=
 O1 E o tmps H k (jE H fun aK=>lB E o.op tmps H aK fun v nb=>dD tmps o.dst v fun t'=>ve H nb fun H'=>k t' H')
def xp (E:Env) (ops:List Oper) (o:Oper) (tmps:List Value) (H:aA) (k:SK):Prop :=
 match o.guard with
 | none=>zz E o tmps H k
 | some (j,want)=>match (ops[j]?).bind (·.dst) with
  | some d=>qO tmps d fun v=>match v with
   | .bool b=>match want with
    | true=>br b (zz E o tmps H k) (dD tmps o.dst undef fun t'=>k t' H)
    | false=>br b (dD tmps o.dst undef fun t'=>k t' H) (zz E o tmps H k)
   | .tuple _=>dD tmps o.dst undef fun t'=>k t' H
   | _=>False
  | none=>False
def nK (E:Env) (ops:List Oper):List Oper→List Value→aA→SK→Prop
 | [],t,H,k=>k t H
 | [o],t,H,k=>xp E ops o t H k
 | o::p::l,t,H,k=>xp E ops o t H fun t' H'=>nK E ops (p::l) t' H' k
theorem Me {E:Env} {ops l:List Oper} {o:Oper} {t:List Value} {H:aA} {k:SK} (h:nK E ops (o::l) t H k):xp E ops o t H fun t' H'=>nK E ops l t' H' k:=by
 cases l with
 | nil=>exact h
 | cons p l=>exact h
section
variable {P:Program} {E:Env} {r:Option Nat} {n:Nat} {F:Fr}
def uB (ν:Nu) (H:aA) (x:Nat):Prop:=∃ id c l,H[id]?=some (some c)∧c.own=true∧ν id=some l∧x=l.aJ
theorem bD.called {ν aj:Nu} {tmps:List Value} {H H':aA} {a:Act} {w w':World} (hi:bD F ν tmps H a w) (hle:ν.le aj) (Aj:bU aj H' w') (zR:∀ id,H'.length≤id→aj id=none)
  (tw:Kept (uB ν H) w w') (kA:∀ id b l,H'[id]?=some (some b)→b.own=true→aj id=some l→uB ν H l.aJ∨w.heap.size≤l.aJ):bD F aj tmps H' a w':=by
 have hO:∀ x,uB ν H x→F.O x∨F.W.heap.size≤x:=by
  rintro x ⟨id,c,l,h1,J,h3,rfl⟩
  exact hi.own id c l h1 J h3
 refine ⟨hi.tm.mono hle,Bu hi.df fun D hD=>?_,Aj,zR,hi.kp.then tw hO,fun id b l h5 h6 h7=>(kA id b l h5 h6 h7).elim (hO _) (fun h=>.inr (Nat.le_trans hi.kp.size h)),Nu.le_trans hi.mono hle⟩
 refine (tw.aJ D (Array.getElem?_eq_some_iff.1 hD).1 ?_).trans hD
 rintro ⟨id,c,l,h1,J,h3,rfl⟩
 obtain ⟨l',h4,hB⟩:=hi.hp.aJ id c h1;rw [h3] at h4; cases h4;cases hr:c.rc with
 | none =>
  obtain ⟨cur,t,h5,_⟩:=hB.own J hr;rw [h5] at hD; cases hD
 | some r =>
  have:=hB.lr r hr;rw [this] at hD; cases hD
theorem Lk (hE:j4 P E) (bQ:lC F E) {o:Oper} {ν:Nu} {tmps:List Value} {H:aA} {a:Act} {w:World} (hi:bD F ν tmps H a w) {k:SK}
  (h:zz E o tmps H k) {next:Act→World→Prop} {Q:Exit→Act→World→Prop}
  (hk:∀ ν t' H' a' w',bD F ν t' H' a' w'→k t' H'→next a' w'):o.wpIn (WF r) n P a w next Q:=by
 have quiet:(jE H fun aK=>lB E o.op tmps H aK fun v nb=>dD tmps o.dst v fun t'=>ve H nb fun H'=>k t' H')→o.wpIn (WF r) n P a w next Q:=by
  intro h;have h:=mz h;obtain ⟨v,nb,pL,hq⟩:=Bt (P:=P) hE.toEnvOk h;refine hq o ν a w r n rfl (fun x _=>hi.mE x) hi.hp (hi.fr _ (Nat.le_refl _)) next Q (fun v' w' aj hp=>?_)
  have sJ:∀ (k':aA→Prop),ve H nb k'→∃ H',k' H'∧bD F aj tmps H' a w':=fun k' I3=>hi.quiet hp I3
  -- first the new block, then the slot
  cases hd:o.dst with
  | none =>
   rw [hd] at pL;obtain ⟨H',h1,J⟩:=sJ _ pL;exact hk _ _ _ _ _ J h1
  | some d =>
   rw [hd] at pL;obtain ⟨h1,J⟩:=oT pL;obtain ⟨H',h3,h4⟩:=sJ _ J;refine hk aj (tmps.set d v) H' _ w' ⟨?_,h4.df,h4.hp,h4.fr,h4.kp,h4.own,h4.mono⟩ h3;rw [rS];exact h4.tm.set hp.val d
 unfold zz O1 at h
 split at h
 ·rename_i t x y ho;exact St hE.toEnvOk ho hi h hk
 ·rename_i c ho
  split at h
  ·rename_i hc
   split at h
   ·rename_i x y t t' hx ht
    split at h
    ·rename_i hb;have hb:t=t':=Nat.eq_of_beq_eq_true hb;subst hb;obtain ⟨v,v',aj,t1,H1,w1,h,hv,aS,bK⟩:=R4 hE.toEnvOk bQ hi h o.type;obtain ⟨t2,h,iy⟩:=aS.dst hv h;have hx:c.args=#[x,y]:=Array.ext' hx;have ht:c.argTypes=#[t,t]:=Array.ext' ht;exact jP (by simp [ho]) (by simp [execOp,ho,resolve,hc,hx,ht,invoke,builtin,bK]) next Q (hk _ _ _ _ _ iy h)
    ·exact quiet h
   ·exact h.elim
  ·rename_i hc
   split at h
   ·rename_i x t hx ht;obtain ⟨H1,w1,h,aS,bK⟩:=Sv hE.toEnvOk hi h o.type;obtain ⟨t2,h,iy⟩:=aS.dst (.tuple [] [] rfl (fun i x y hx _=>by simp at hx)) h
    have hx:c.args=#[x]:=Array.ext' hx;have ht:c.argTypes=#[t]:=Array.ext' ht;exact jP (by simp [ho]) (by simp [execOp,ho,resolve,hc,hx,ht,invoke,builtin,bK]) next Q (hk _ _ _ _ _ iy h)
   ·exact h.elim
  ·rename_i hc
   split at h
   ·rename_i x y t t2 hx ht;obtain ⟨xv,J,vw⟩:=kQ h (hi.mE x);clear h;obtain ⟨yv,h,vx⟩:=kQ J (hi.mE y);obtain ⟨v,H1,w1,h,hv,aS,bK⟩:=Lh hE.toEnvOk hi vw vx h t2 o.type;obtain ⟨t2,h,iy⟩:=aS.dst hv h;have hx:c.args=#[x,y]:=Array.ext' hx;have ht:c.argTypes=#[t,_]:=Array.ext' ht;exact jP (by simp [ho]) (by simp [execOp,ho,resolve,hc,hx,ht,invoke,builtin,bK]) next Q (hk _ _ _ _ _ iy h)
   ·exact h.elim
  ·rename_i f hc;have h0:=h;obtain ⟨fv,J,hf⟩:=kQ h (hi.mE f);clear h
   split at J
   ·rename_i g xa ya
    split at J
    ·rename_i G hG;obtain ⟨vs,h,fJ⟩:=EG J (fun z _=>hi.mE z)
     clear J;have J:=wg (wg h);clear h;have a9:=hE.ft g G hG;obtain ⟨ys,dy,j7,h3,h4⟩:=hf.rZ;have od:=(h3.append fJ).append h4;refine ⟨fun _ _=>trivial,?_⟩
     have bK:(execOp a.eval o).run P w=.ok (.enter g ⟨(ys++c.args.toList.map a.eval)++dy⟩) w:=by
      simp only [execOp,ho,resolve,hc,j7,Deferred.ofValue,Sem.run_bind,Sem.run_pure,Result.andThen_ok,invoke,a9.enters]
      congr 2
      apply Array.ext';simp
     rw [Oper.semAt_eq _ _ _ (by simp [ho]),bK]
     refine ⟨fun h=>by simp [WF,Fence.wide] at h,?_⟩
     have zo:=a9.calls _ H _ J ν _ w (n - 1) (uB ν H) od hi.hp hi.fr (fun id b l h5 h6 h7=>⟨id,b,l,h5,h6,h7,rfl⟩)
     have yZ:CallsIn (WF r) (n - 1) P g ⟨(ys++c.args.toList.map a.eval)++dy⟩ w _:=zo;refine yZ.mono ?_
     rintro e w' ⟨v,v',aj,H',rfl,h,hv,hle,Aj,zR,tw,kA⟩
     have aS:bD F aj tmps H' a w':=hi.called hle Aj zR tw kA;obtain ⟨t',h,iy⟩:=aS.dst hv h;exact hk _ _ _ _ _ iy h
    ·exact quiet J
   ·rename_i l xa ya
    split at J
    ·rename_i l' G rest vC Ak DK;obtain ⟨rfl,J⟩:=J;obtain ⟨vs,J,fJ⟩:=EG J (fun z _=>hi.mE z)
     obtain ⟨ys,dy,j7,h3,h4⟩:=hf.rZ;rw [vC] at h3; rw [Ak] at h4;have e1:=h3.jb;have e2:=h4.jb;subst e1; subst e2;obtain ⟨fn,tm,Qx,body,hy,ZT⟩:=hE.ys l' G rest DK _ H _ J ν _ w (n - 1) (uB ν H) (Nu.le_trans bQ.nu hi.mono) fJ hi.hp hi.fr (fun id b l h5 h6 h7=>⟨id,b,l,h5,h6,h7,rfl⟩)
     refine ⟨fun _ _=>trivial,?_⟩
     have bK:(execOp a.eval o).run P w=.ok (.round l' fn tm Qx body) w:=by
      simp only [execOp,ho,resolve,hc,j7,Deferred.ofValue,Sem.run_bind,Sem.run_pure,Result.andThen_ok,invoke];have e:(⟨List.map a.eval c.args.toList⟩:Array Value)=Array.map a.eval c.args:=Array.ext' (by simp)
      rw [e] at hy
      simpa using hy
     rw [Oper.semAt_eq _ _ _ (by simp [ho]),bK]
     refine ⟨fun h=>by simp [WF,Fence.wide] at h,?_⟩
     have Xa:RoundIn (WF r) (n - 1) P l' fn tm Qx body w _:=ZT;refine Xa.mono ?_
     rintro e w' ⟨v,v',aj,H',rfl,h,hv,hle,Aj,zR,tw,kA⟩
     have aS:bD F aj tmps H' a w':=hi.called hle Aj zR tw kA;obtain ⟨t',h,iy⟩:=aS.dst hv h;exact hk _ _ _ _ _ iy h
    ·exact J.elim
   ·exact J.elim
  ·exact quiet h
 ·exact quiet h
theorem yr {ops:Array Oper} {tmps:Array Value} {j:Nat} {d:Tmp} (hd:(ops[j]?).bind (·.dst)=some d):yielded ops tmps j=match tmps[d]? with | some (.bool b)=>some b | _=>none:=by
 unfold yielded;rw [hd]
 rfl
theorem EX (hE:j4 P E) (bQ:lC F E) {ops:Array Oper} {o:Oper} {ν:Nu} {tmps:List Value} {H:aA} {a:Act} {w:World} (hi:bD F ν tmps H a w) {k:SK}
  (h:xp E ops.toList o tmps H k) {next:Act→World→Prop} {Q:Exit→Act→World→Prop}
  (hk:∀ ν t' H' a' w',bD F ν t' H' a' w'→k t' H'→next a' w') :
  if Region.wanted o (yielded ops a.tmps) then o.wpIn (WF r) n P a w next Q else (∀ f,o.about P w a.eval=some f→(WF r).fn f)∧next (a.put o.dst undef) w:=by
 unfold xp at h;have skip:(dD tmps o.dst undef fun t'=>k t' H)→(∀ f,o.about P w a.eval=some f→(WF r).fn f)∧next (a.put o.dst undef) w:=fun h=>by
  obtain ⟨t',h1,J⟩:=hi.dst (.undef ν) h;exact ⟨fun _ _=>trivial,hk _ _ _ _ _ J h1⟩
 split at h
 ·rename_i hg;have:Region.wanted o (yielded ops a.tmps)=true:=by simp [Region.wanted,hg]
  rw [if_pos this];exact Lk hE bQ hi h hk
 ·rename_i j want hg
  split at h
  ·rename_i d hd;have dh:(ops[j]?).bind (·.dst)=some d:=by simpa using hd
   obtain ⟨v,hv,h⟩:=oS h;obtain ⟨v',vy,hr⟩:=hi.tm.get hv;have adS:a.tmps[d]?=some v':=by simpa using vy
   have hy:=yr (tmps:=a.tmps) dh;rw [adS] at hy
   split at h
   ·rename_i b;have:=hr.km;subst this;have hw:Region.wanted o (yielded ops a.tmps)=(b == want):=by
     simp only [Region.wanted,hg,hy];cases b <;> cases want <;> rfl
    rw [hw];cases want <;> cases b <;> first | exact Lk hE bQ hi h hk | exact skip h
   ·rename_i vs;obtain ⟨ys,rfl,_⟩:=au.n6 (xs:=vs.toList) hr;have hw:Region.wanted o (yielded ops a.tmps)=false:=by
     simp only [Region.wanted,hg,hy]
     rfl
    rw [hw];simp only [Bool.false_eq_true,if_false];exact skip h
   ·exact h.elim
  ·exact h.elim
theorem Mf (hE:j4 P E) (bQ:lC F E) {ops:Array Oper} {Q:Exit→Act→World→Prop}:∀ {l:List Oper} {idx:List Nat} {ν:Nu} {tmps:List Value} {H:aA} {a:Act} {w:World} {k:SK},
  idx.map (ops[·]?)=l.map some→bD F ν tmps H a w→nK E ops.toList l tmps H k→(∀ ν t' H' a' w',bD F ν t' H' a' w'→k t' H'→Q .normal a' w')→wpOpsIn (WF r) n P ops Q idx a w
 | [],idx,ν,tmps,H,a,w,k,he,hi,h,hk=>by
  have:idx=[]:=by cases idx with
   | nil=>rfl
   | cons=>simp at he
  subst this;exact hk _ _ _ _ _ hi h
 | o::l,idx,ν,tmps,H,a,w,k,he,hi,h,hk=>by
  cases idx with
  | nil=>simp at he
  | cons i idx =>
   simp only [List.map_cons,List.cons.injEq] at he;simp only [wpOpsIn,he.1];exact EX hE bQ hi (Me h) (fun ν t' H' a' w' aS h'=>Mf hE bQ he.2 aS h' hk)
theorem R5 (hE:j4 P E) (bQ:lC F E) {ops:Array Oper} {Q:Exit→Act→World→Prop} {id:Nat} {ν:Nu} {tmps:List Value} {H:aA} {a:Act} {w:World} {k:SK}
  (hi:bD F ν tmps H a w) (h:nK E ops.toList ops.toList tmps H k) (hk:∀ ν t' H' a' w',bD F ν t' H' a' w'→k t' H'→Q .normal a' w'):(Code.region id ops false).wpIn (WF r) n P Q a w:=by
 refine wpIn_region (Mf hE bQ ?_ hi h hk);apply List.ext_getElem?;intro i;simp only [List.getElem?_map,List.getElem?_range,Array.getElem?_toList];by_cases ak:i < ops.size
 ·simp [ak]
 ·simp [ak]
end
open Go Go.RowKit
abbrev XK:=Nat→List Value→aA→Prop
def B9 (body:List Value→aA→SK→Prop):Nat→List Value→aA→Prop
 | 0,_,_=>False
 | m+1,t,H=>body t H (B9 body m)
def HA:List Value→List Nat→List Value→(List Value→Prop)→Prop
 | t,[],[],k=>k t
 | t,p::ps,x::xs,k=>xF t p x fun t'=>HA t' ps xs k
 | _,_,_,_=>False
theorem Ll:∀ {t:List Value} {ps:List Nat} {xs:List Value} {k:List Value→Prop},HA t ps xs k→ps.length=xs.length∧∃ t1,k t1∧∀ (ν:Nu) (a:Array Value) (as:List Value),bn ν t a.toList→bn ν xs as→bn ν t1 ((ps.zip as).foldl (fun t (p,v)=>t.setIfInBounds p v) a).toList
 | t,[],[],k,h=>⟨rfl,t,h,fun ν a as ha hx=>ha⟩
 | t,p::ps,x::xs,k,h=>by
  obtain ⟨ak,h⟩:=oT h;obtain ⟨h1,t1,J,h3⟩:=Ll h;refine ⟨by simp [h1],t1,J,fun ν a as ha hx=>?_⟩
  obtain ⟨y,ys,rfl,k1,k2⟩:=hx.jw;refine h3 ν (a.setIfInBounds p y) ys ?_ k2;rw [Array.toList_setIfInBounds];exact ha.set k1 p
 | _,[],_::_,_,h=>h.elim
 | _,_::_,[],_,h=>h.elim
def CV (H:aA) (id:Nat) (k:Loop→Prop):Prop :=
 gX H id fun b=>match b with
  | .cB r=>k r
  | _=>False
def CW (R:LoopState→Option Code→Loop) (γ:Nat) (jump:Option Code) (K:Value→aA→Prop) (H:aA):Prop :=
 CV H γ fun r=>r=R .busy none∧jD H γ (some (.cB (R (match jump with | none=>.ready | some _=>.done) jump))) fun H'=>K (.bool (match jump with | none=>true | some _=>false)) H'
def ZU (R:LoopState→Option Code→Loop) (γ:Nat) (t:List Value) (kn:SK) (kx:XK) (kr:SK) (H:aA):Prop :=
 CV H γ fun r=>jD H γ none fun H'=>match r.state,r.pending with
  | .busy,_=>False
  | _,none=>kn t H'
  | _,some (.exit i)=>kx i t H'
  | _,some .ret=>kr t H'
  | _,_=>False
def vc:Env→(Env→List Oper→List Value→aA→SK→Prop)→Code→List Value→aA→SK→XK→SK→Prop
 | _,_,.skip,t,H,kn,_,_=>kn t H
 | E,_,.region _ ops false,t,H,kn,_,_=>nK E ops.toList ops.toList t H kn
 | E,D,.region _ ops true,t,H,kn,_,_=>D E ops.toList t H kn
 | E,D,.seq a b,t,H,kn,kx,kr=>vc E D a t H (fun t H=>vc E D b t H kn kx kr) kx kr
 | E,D,.cond c x y,t,H,kn,kx,kr=>b9 t c fun v=>match v with
  | .bool b=>br b (vc E D x t H kn kx kr) (vc E D y t H kn kx kr)
  | _=>False
 | E,D,.block id c,t,H,kn,kx,kr=>vc E D c t H kn (fun i t H=>match Nat.beq i id with | true=>kn t H | false=>kx i t H) kr
 | _,_,.exit id,t,H,_,kx,_=>kx id t H
 | _,_,.ret,t,H,_,_,kr=>kr t H
 | E,D,.loop c,t,H,_,kx,kr =>
  (∃ I:Nat→List Value→aA→Prop,(Ih E t H fun t H=>∃ n,I n t H)∧∀ n t H,I n t H→vc E D c t H (fun t H=>Ih E t H fun t H=>∃ m,m < n∧I m t H) kx kr) ∨
  (∃ m,B9 (fun t H k=>vc E D c t H k kx kr) m t H)
 | E,D,.rangeFunc g ps assign body,t,H,kn,kx,kr=>match E.rd with
  | true=>False
  | false=>b9 t g fun gv=>match gv with
   | .func (.func f) a b=>match a.toList,E.It f with
    | [],some I=>∀ (l:Nat) (nu:Nu) (fn:FuncId) (tm:Array Value) (df:Nat),jE H fun γ=>pf H (some (.cB ⟨.ready,none,fn,tm,ps,assign,body,df⟩)) fun H1 =>
     I l (fun args H K=>CV H γ fun r=>r=⟨.ready,none,fn,tm,ps,assign,body,df⟩∧HA t ps.toList args fun t1=>jE H fun n0 =>
       vc { E with base:=n0,rd:=true } D assign t1 H (fun t2 H2=>CV H2 γ fun r2=>r2=⟨.ready,none,fn,tm,ps,assign,body,df⟩∧jD H2 γ (some (.cB ⟨.busy,none,fn,tm,ps,assign,body,df⟩)) fun H3 =>
         vc { E with base:=n0,rd:=true } D body t2 H3 (fun _ H4=>CW (fun s p=>⟨s,p,fn,tm,ps,assign,body,df⟩) γ none K H4) (fun i _ H4=>CW (fun s p=>⟨s,p,fn,tm,ps,assign,body,df⟩) γ (some (.exit i)) K H4)
          (fun _ H4=>CW (fun s p=>⟨s,p,fn,tm,ps,assign,body,df⟩) γ (some .ret) K H4))
        (fun _ _ _=>False) (fun _ _=>False))
      nu (.func (.yield l) #[] #[]::b.toList) H1 fun _ H2=>ZU (fun s p=>⟨s,p,fn,tm,ps,assign,body,df⟩) γ t kn kx kr H2
    | _,_=>False
   | _=>False
 | _,_,_,_,_,_,_,_=>False
def wB (E:Env) (H:aA) (tmps:List Value):List ResultVar→(List Value→Prop)→Prop
 | [],k=>k []
 | .tmp t::l,k=>qO tmps t fun v=>wB E H tmps l fun vs=>k (v::vs)
 | .cell a t::l,k=>qO tmps a fun av=>match av with
  | .pointer (some ⟨id,row,sp⟩)=>cY E.tt t fun ti=>gX H id fun b=>HW b row fun cs=>uI cs (sp.getD 0) ti.size fun us=>wB E H tmps l fun vs=>k (valOf ti.agg us::vs)
  | _=>False
def Di (vs:List Value) (k:Value→Prop):Prop :=
 match vs with
 | [v]=>k v
 | vs=>k (.tuple ⟨vs⟩)
def wZ:Value→Bool
 | .bool _ | .int _ _ | .string _ | .pointer none | .nilFunc=>true
 | .agg cs=>jQ cs.toList
 | .func _ a b=>a.toList.isEmpty && b.toList.isEmpty
 | _=>false
def tU:List Value→Bool
 | []=>true
 | v::l=>wZ v && tU l
def Cw:Value→Bool
 | .tuple vs=>tU vs.toList
 | .func _ a b=>tU a.toList && tU b.toList
 | v=>wZ v
theorem bn.Mg {ν:Nu}:∀ {l:List Value},jQ l=true→bn ν l l
 | [],_=>.nil ν
 | v::l,h=>by
  simp only [jQ,Bool.and_eq_true] at h;exact .cons (au.kj h.1) (bn.Mg h.2)
theorem KS {v:Value} (h:wZ v=true):(∀ ν,au ν v v)∧∀ ν w,au ν v w→w=v:=by
 cases v with
 | bool b=>exact ⟨fun ν=>.bool b,fun ν w hw=>hw.km⟩
 | int k n=>exact ⟨fun ν=>.int k n,fun ν w hw=>hw.gh⟩
 | string s=>exact ⟨fun ν=>.str s,fun ν w hw=>hw.sA⟩
 | pointer a =>
  cases a with
  | none=>exact ⟨fun ν=>.mI,fun ν w hw=>by cases hw; rfl⟩
  | some a=>simp [wZ] at h
 | nilFunc=>exact ⟨fun ν=>.mJ,fun ν w hw=>by cases hw; rfl⟩
 | agg cs =>
  have h':jQ cs.toList=true:=h;refine ⟨fun ν=>?_,fun ν w hw=>?_⟩
  ·have:=bn.Mg (ν:=ν) h';exact .agg _ _ this.1 this.2
  ·obtain ⟨ys,rfl,hy⟩:=au.uy (xs:=cs.toList) hw;rw [bn.kl (ye h') hy]
 | func fn a b =>
  simp only [wZ,Bool.and_eq_true,List.isEmpty_iff] at h;refine ⟨fun ν=>?_,fun ν w hw=>?_⟩
  ·have e1:a=⟨[]⟩:=Array.ext' h.1;have e2:b=⟨[]⟩:=Array.ext' h.2;subst e1; subst e2;exact .func fn [] [] [] [] rfl (fun i x y hx _=>by simp at hx) rfl (fun i x y hx _=>by simp at hx)
  ·obtain ⟨ys,dy,rfl,h1,J⟩:=hw.rZ;rw [h.1] at h1; rw [h.2] at J;rw [h1.jb,J.jb];rw [Array.ext' (xs:=a) (ys:=⟨[]⟩) h.1,Array.ext' (xs:=b) (ys:=⟨[]⟩) h.2]
 | _=>simp [wZ] at h
theorem AZ:∀ {l:List Value},tU l=true→(∀ ν,bn ν l l)∧∀ ν m,bn ν l m→m=l
 | [],_=>⟨fun ν=>.nil ν,fun ν m hm=>hm.jb⟩
 | v::l,h=>by
  simp only [tU,Bool.and_eq_true] at h;obtain ⟨h1,J⟩:=KS h.1;obtain ⟨h3,h4⟩:=AZ h.2;refine ⟨fun ν=>.cons (h1 ν) (h3 ν),fun ν m hm=>?_⟩
  obtain ⟨y,ys,rfl,k1,k2⟩:=hm.jw;rw [J ν y k1,h4 ν ys k2]
theorem yg {v:Value} (h:Cw v=true):(∀ ν,au ν v v)∧∀ ν w,au ν v w→w=v:=by
 cases v with
 | tuple vs =>
  have h':tU vs.toList=true:=h;obtain ⟨h1,J⟩:=AZ h';refine ⟨fun ν=>.tuple _ _ (h1 ν).1 (h1 ν).2,fun ν w hw=>?_⟩
  obtain ⟨ys,rfl,hy⟩:=au.n6 (xs:=vs.toList) hw;rw [J ν ys hy]
 | func fn a b =>
  simp only [Cw,Bool.and_eq_true] at h;obtain ⟨h1,J⟩:=AZ h.1;obtain ⟨h3,h4⟩:=AZ h.2;refine ⟨fun ν=>.func fn _ _ _ _ (h1 ν).1 (h1 ν).2 (h3 ν).1 (h3 ν).2,fun ν w hw=>?_⟩
  obtain ⟨ys,dy,rfl,k1,k2⟩:=hw.rZ;rw [J ν ys k1,h4 ν dy k2]
 | _=>exact KS h
def Bv:List Value→Bool
 | []=>true
 | v::l=>Cw v && Bv l
theorem Et:∀ {l:List Value},Bv l=true→(∀ ν,bn ν l l)∧∀ ν m,bn ν l m→m=l
 | [],_=>⟨fun ν=>.nil ν,fun ν m hm=>hm.jb⟩
 | v::l,h=>by
  simp only [Bv,Bool.and_eq_true] at h;obtain ⟨h1,J⟩:=yg h.1;obtain ⟨h3,h4⟩:=Et h.2;refine ⟨fun ν=>.cons (h1 ν) (h3 ν),fun ν m hm=>?_⟩
  obtain ⟨y,ys,rfl,k1,k2⟩:=hm.jw;rw [J ν y k1,h4 ν ys k2]
def nR (P:Program) (D:Env→List Oper→List Value→aA→SK→Prop):Prop :=
 ∀ (E:Env),j4 P E→∀ (r:Option Nat) (n:Nat) (F:Fr),lC F E→∀ (ops:Array Oper) (Q:Exit→Act→World→Prop) (id:Nat) (ν:Nu) (tmps:List Value) (H:aA) (a:Act) (w:World) (k:SK),
  bD F ν tmps H a w→D E ops.toList tmps H k→(∀ ν t' H' a' w',bD F ν t' H' a' w'→k t' H'→Q .normal a' w')→(Code.region id ops true).wpIn (WF r) n P Q a w
section
variable {P:Program} {E:Env} {r:Option Nat} {n:Nat} {F:Fr} {D:Env→List Oper→List Value→aA→SK→Prop}
theorem bD.NI {F:Fr} {ν:Nu} {t:List Value} {H:aA} {a:Act} {w:World} (hi:bD F ν t H a w) {γ:Nat} {r:Loop} {l:Loc} (r':Loop) (hb:H[γ]?=some (some (.cB r))) (hl:ν γ=some l) :
  bD F ν t (H.set γ (some (.cB r'))) a (w.putObj l.aJ (.loop r')):=by
 have ak:γ < H.length:=(List.getElem?_eq_some_iff.1 hb).1;obtain ⟨l',cP,hB⟩:=hi.hp.aJ γ _ hb;rw [hl] at cP; cases cP;have Dj:=hB.lr r rfl;have hw:l.aJ < w.heap.size:=(Array.getElem?_eq_some_iff.1 Dj).1;have dv:∀ (id:Nat) (b:ai),(H.set γ (some (.cB r')))[id]?=some (some b)→(id=γ∧b=.cB r')∨(id≠γ∧H[id]?=some (some b)):=fun id b h=>by
  by_cases e:id=γ
  ·subst e; rw [List.getElem?_set_self ak] at h; cases h; exact .inl ⟨rfl,rfl⟩
  ·rw [List.getElem?_set_ne (Ne.symm e)] at h; exact .inr ⟨e,h⟩
 refine ⟨hi.tm,Bu hi.df fun D hD=>(World.putObj_heap_other (fun e=>by rw [e,Dj] at hD; cases hD)).trans hD,⟨fun id b h=>?_,fun i j bi bj li lj h1 J aN ho e1 e2=>?_⟩,fun id bu=>hi.fr id (by simpa using bu),
  hi.kp.then (O':=fun x=>x=l.aJ) ⟨rfl,rfl,rfl,by simp,fun b h1 J=>World.putObj_heap_other J⟩ (fun b bE=>by subst bE; exact hi.own γ _ _ hb rfl hl),fun id b l' h ho cP=>?_,hi.mono⟩
 ·rcases dv id b h with ⟨rfl,rfl⟩ | ⟨aN,h⟩
  ·exact ⟨l,hl,hB.ah,fun r hr=>absurd hr (Nat.not_lt_zero r),fun r hr=>absurd hr (Nat.not_lt_zero r),(fun h=>nomatch h),fun r hr=>absurd hr (Nat.not_lt_zero r),(fun _ h=>nomatch h),fun r hr=>by cases hr; exact World.putObj_heap_same hw,by simpa using hw⟩
  ·obtain ⟨l',cP,hB'⟩:=hi.hp.aJ id b h;exact ⟨l',cP,hB'.same (World.putObj_heap_other (Ne.symm (hi.hp.sep γ id _ b l l' hb h (Ne.symm aN) rfl hl cP))) (by simp)⟩
 ·rcases dv i bi h1 with ⟨rfl,rfl⟩ | ⟨hni,g1⟩ <;> rcases dv j bj J with ⟨rfl,rfl⟩ | ⟨hnj,g2⟩
  ·exact absurd rfl aN
  ·exact hi.hp.sep _ j _ bj li lj hb g2 aN rfl e1 e2
  ·exact hi.hp.sep i _ bi _ li lj g1 hb aN ho e1 e2
  ·exact hi.hp.sep i j bi bj li lj g1 g2 aN ho e1 e2
 ·rcases dv id b h with ⟨rfl,rfl⟩ | ⟨aN,h⟩
  ·exact hi.own _ _ _ hb rfl cP
  ·exact hi.own id b l' h ho cP
theorem Vz (hD:nR P D):∀ (c:Code) {E:Env} {r:Option Nat} {n:Nat} {F:Fr},j4 P E→lC F E→(E.rd=false→r=none)→∀ {ν:Nu} {t:List Value} {H:aA} {a:Act} {w:World} {kn:SK} {kx:XK} {kr:SK} {Q:Exit→Act→World→Prop},
  bD F ν t H a w→vc E D c t H kn kx kr→(∀ ν t H a w,bD F ν t H a w→kn t H→Q .normal a w)→(∀ i ν t H a w,bD F ν t H a w→kx i t H→Q (.exit i) a w) →
  (∀ ν t H a w,bD F ν t H a w→kr t H→Q .ret a w)→c.wpIn (WF r) n P Q a w:=by
 intro c
 induction c with
 | skip=>exact fun hE bQ fK=>fun hi h hn _ _=>wpIn_skip (hn _ _ _ _ _ hi h)
 | region id ops d =>
  intro E r n F hE bQ fK ν t H a w kn kx kr Q hi h hn _ _;cases d with
  | false=>exact R5 hE bQ hi h hn
  | true=>exact hD E hE r n F bQ ops Q id ν t H a w kn hi h hn
 | seq x y Jc Jd =>
  intro E r n F hE bQ fK ν t H a w kn kx kr Q hi h hn hx hr;exact wpIn_seq (Jc hE bQ fK hi h (fun ν t H a w aS h'=>Jd hE bQ fK aS h' hn hx hr) hx hr)
 | cond c x y Jc Jd =>
  intro E r n F hE bQ fK ν t H a w kn kx kr Q hi h hn hx hr;obtain ⟨v,h,hv⟩:=kQ h (hi.mE c)
  split at h
  ·rename_i b;have hb:=hv.km;exact wpIn_cond_split hb (fun e=>Jc hE bQ fK hi (B6 h e) hn hx hr) (fun e=>Jd hE bQ fK hi (BJ h e) hn hx hr)
  ·exact h.elim
 | block id c ih =>
  intro E r n F hE bQ fK ν t H a w kn kx kr Q hi h hn hx hr;refine wpIn_block (ih hE bQ fK hi h hn (fun i ν t H a w aS h'=>?_) hr)
  simp only [Exit.inBlock]
  split at h'
  ·rename_i e;rw [if_pos (Nat.eq_of_beq_eq_true e)]; exact hn _ _ _ _ _ aS h'
  ·rename_i e;rw [if_neg (Nat.ne_of_beq_eq_false e)]; exact hx _ _ _ _ _ _ aS h'
 | loop c ih =>
  intro E r n F hE bQ fK ν t H a w kn kx kr Q hi h hn hx hr;rcases h with ⟨I,h00,uP⟩ | ⟨m,hm⟩
  ·-- by an invariant
   obtain ⟨ν,t,H,⟨m0,h0⟩,hi⟩:=Md bQ hi h00;have key:∀ (m:Nat) ν t H a w,bD F ν t H a w→I m t H→∀ (b:Frame) (k:List Item) (cs:List Frame),b.roundOf=(WF r).round→(WF r).fn b.fn→(WF r).room (cs.length+1+n) →
     ∃ e a' w',Q e a' w'∧ArrivesIn (Machine.fenced P (WF r)) P (lone (b.atR a (.code c::.inLoop c::k)) cs w) b k cs e a' w':=by
    intro m
    induction m using Nat.strongRecOn with
    | _ m Je =>
     intro ν t H a w hi hI b k cs nS hb c7;have:=ih hE bQ fK (Q:=fun e a w=>match e with | .normal=>∃ m' ν t H,m' < m∧bD F ν t H a w∧I m' t H | e=>Q e a w) hi (uP m t H hI)
      (fun ν t H a w aS h'=>let ⟨rl,t2,H2,⟨m',ak,Al⟩,iy⟩:=Md bQ aS h'; ⟨m',rl,t2,H2,ak,iy,Al⟩) hx hr b (.inLoop c::k) cs nS hb c7
     obtain ⟨e,mN,mO,hq,j6⟩:=this;cases e with
     | normal =>
      obtain ⟨m',aj,t',H',ak,aS,Al⟩:=hq;obtain ⟨Ii,Ij,Ik,HB,Gs⟩:=Je m' ak aj t' H' mN mO aS Al b k cs nS hb c7;exact ⟨Ii,Ij,Ik,HB,.of_steps (StepsIn.trans j6 (.one (fenced_calm hb c7 rfl) stepR_inLoop)) Gs⟩
     | exit id=>exact ⟨_,mN,mO,hq,.pass (x:=.inLoop c) rfl (fun _ _=>.inl (by simp)) j6⟩
     | goto l=>exact ⟨_,mN,mO,hq,.pass (x:=.inLoop c) rfl (fun _ _=>.inl (by simp)) j6⟩
     | ret=>exact ⟨_,mN,mO,hq,.pass (x:=.inLoop c) rfl (fun _ _=>.inl (by simp)) j6⟩
     | panic ch=>exact ⟨_,mN,mO,hq,.pass (x:=.inLoop c) rfl (fun _ _=>.inl (by simp)) j6⟩
     | outgrown=>exact ⟨_,mN,mO,hq,.pass (x:=.inLoop c) rfl (fun _ _=>.inl (by simp)) j6⟩
   intro b k cs nS hb c7;obtain ⟨e,a',w',hq,j6⟩:=key m0 ν t H a w hi h0 b k cs nS hb c7;exact ⟨e,a',w',hq,.of_steps (.one (fenced_calm hb c7 rfl) stepR_loop) j6⟩
  ·-- round by round
   have key:∀ (m:Nat) ν t H a w,bD F ν t H a w→B9 (fun t H k=>vc E D c t H k kx kr) m t H→∀ (b:Frame) (k:List Item) (cs:List Frame),b.roundOf=(WF r).round→(WF r).fn b.fn→(WF r).room (cs.length+1+n) →
     ∃ e a' w',Q e a' w'∧ArrivesIn (Machine.fenced P (WF r)) P (lone (b.atR a (.code c::.inLoop c::k)) cs w) b k cs e a' w':=by
    intro m
    induction m with
    | zero=>exact fun ν t H a w _ h=>h.elim
    | succ m Je =>
     intro ν t H a w hi hI b k cs nS hb c7;have:=ih hE bQ fK (Q:=fun e a w=>match e with | .normal=>∃ ν t H,bD F ν t H a w∧B9 (fun t H k=>vc E D c t H k kx kr) m t H | e=>Q e a w) hi hI
      (fun ν t H a w aS h'=>⟨ν,t,H,aS,h'⟩) hx hr b (.inLoop c::k) cs nS hb c7
     obtain ⟨e,mN,mO,hq,j6⟩:=this;cases e with
     | normal =>
      obtain ⟨aj,t',H',aS,Al⟩:=hq;obtain ⟨Ii,Ij,Ik,HB,Gs⟩:=Je aj t' H' mN mO aS Al b k cs nS hb c7;exact ⟨Ii,Ij,Ik,HB,.of_steps (StepsIn.trans j6 (.one (fenced_calm hb c7 rfl) stepR_inLoop)) Gs⟩
     | exit id=>exact ⟨_,mN,mO,hq,.pass (x:=.inLoop c) rfl (fun _ _=>.inl (by simp)) j6⟩
     | goto l=>exact ⟨_,mN,mO,hq,.pass (x:=.inLoop c) rfl (fun _ _=>.inl (by simp)) j6⟩
     | ret=>exact ⟨_,mN,mO,hq,.pass (x:=.inLoop c) rfl (fun _ _=>.inl (by simp)) j6⟩
     | panic ch=>exact ⟨_,mN,mO,hq,.pass (x:=.inLoop c) rfl (fun _ _=>.inl (by simp)) j6⟩
     | outgrown=>exact ⟨_,mN,mO,hq,.pass (x:=.inLoop c) rfl (fun _ _=>.inl (by simp)) j6⟩
   intro b k cs nS hb c7;obtain ⟨e,a',w',hq,j6⟩:=key m ν t H a w hi hm b k cs nS hb c7;exact ⟨e,a',w',hq,.of_steps (.one (fenced_calm hb c7 rfl) stepR_loop) j6⟩
 | exit id=>exact fun hE bQ fK=>fun hi h _ hx _=>wpIn_exit (hx _ _ _ _ _ _ hi h)
 | ret=>exact fun hE bQ fK=>fun hi h _ _ hr=>wpIn_ret (hr _ _ _ _ _ hi h)
 | rangeFunc g ps assign body iha ihb =>
  intro E r n F hE bQ fK ν t H a w kn kx kr Q hi h hn hx hr;unfold vc at h
  split at h
  ·exact h.elim
  rename_i adT;obtain rfl:=fK adT;obtain ⟨gv,h,hg⟩:=kQ h (hi.mE g)
  split at h
  ·rename_i f xa ya
   split at h
   ·rename_i I vC hI;obtain ⟨zs,Jf,eY,hz,oz⟩:=hg.rZ;rw [vC] at hz;have im:=hz.jb;subst im;have Qy:=hE.IZ f I hI;refine wpIn_rangeFunc ?_;intro fn hfn;obtain ⟨W1,Am⟩:∃ W1,W1=(w.alloc (.deferred (some []))).alloc (.loop { state:=.ready,pending:=none,fn,tmps:=a.tmps,params:=ps,assign,body,defers:=w.heap.size }):=⟨_,rfl⟩;refine ⟨w.heap.size+1,[{ target:=.collected w.heap.size,args:=#[] }],W1,{ target:=.fn (.func f) ⟨Jf⟩,args:=#[.func (.yield (w.heap.size+1)) #[] #[]] },W1,f,
     #[.func (.yield (w.heap.size+1)) #[] #[]]++⟨Jf⟩,W1,by rw [Am]; exact run_enterLoop_outer _ _ _ _ _,?_,fun _ _=>trivial,?_,fun h=>by simp [WF,Fence.wide] at h,?_⟩
    ·simp only [resolve,eY];simp [go_sem]
    ·simp [invoke,go_sem,Qy.enters]
    -- the record's block
    have nC:ν H.length=none:=hi.fr _ (Nat.le_refl _);obtain ⟨eF,vf⟩:∃ eF,eF=ν.add H.length ⟨w.heap.size+1,0,0,0⟩:=⟨_,rfl⟩;have sW:ν.le eF:=by rw [vf]; exact Nu.ko nC
    have h:=yo (mz (h (w.heap.size+1) eF fn a.tmps w.heap.size));have Il:Below w.heap.size w W1:=by
     rw [Am]; exact ((Below.refl _ w).alloc (Nat.le_refl _) _).alloc (by simp) _
    have aY:W1.heap.size=w.heap.size+2:=by rw [Am]; simp
    have Dj:W1.heap[w.heap.size+1]?=some (.loop { state:=.ready,pending:=none,fn,tmps:=a.tmps,params:=ps,assign,body,defers:=w.heap.size }):=by
     rw [Am]; have:=World.alloc_heap_new (w.alloc (.deferred (some []))) (.loop { state:=.ready,pending:=none,fn,tmps:=a.tmps,params:=ps,assign,body,defers:=w.heap.size }); rwa [World.size_alloc] at this
    have ack:W1.heap[w.heap.size]?=some (.deferred (some [])):=by
     rw [Am]; exact (Below.heap_alloc _ _ _ (by simp)).trans (World.alloc_heap_new w _)
    have kF:bU eF (H++[some (.cB { state:=.ready,pending:=none,fn,tmps:=a.tmps,params:=ps,assign,body,defers:=w.heap.size })]) W1:=by
     rw [vf];refine hi.hp.push (b:=.cB { state:=.ready,pending:=none,fn,tmps:=a.tmps,params:=ps,assign,body,defers:=w.heap.size }) Il nC _ (fun j c hj=>?_) (by simp) ⟨rfl,fun r hr=>absurd hr (Nat.not_lt_zero r),fun r hr=>absurd hr (Nat.not_lt_zero r),(fun h=>nomatch h),fun r hr=>absurd hr (Nat.not_lt_zero r),(fun _ h=>nomatch h),fun r hr=>by cases hr; exact Dj,by rw [aY]; simp⟩
     rw [List.getElem?_append] at hj
     split at hj
     ·rename_i ak;exact .inr ⟨by omega,hj⟩
     ·rename_i eY;have:j - H.length=0:=by
       rcases Nat.eq_zero_or_pos (j - H.length) with e | e
       ·exact e
       ·rw [List.getElem?_eq_none (by simp; omega)] at hj; cases hj
      rw [this] at hj;simp at hj;exact .inl ⟨by omega,hj.symm⟩
    have adU:∀ id,(H++[some (ai.cB { state:=.ready,pending:=none,fn,tmps:=a.tmps,params:=ps,assign,body,defers:=w.heap.size })]).length≤id→eF id=none:=fun id bu=>by
     rw [List.length_append] at bu;rw [vf,Nu.jc (by simp at bu; omega)]
     exact hi.fr id (by simp at bu; omega)
    have od:bn eF (.func (.yield (w.heap.size+1)) #[] #[]::ya.toList) (#[Value.func (.yield (w.heap.size+1)) #[] #[]]++(⟨Jf⟩:Array Value)).toList:=by
     simp only [Array.toList_append];exact .cons (.func _ [] [] [] [] rfl (fun i x y hx _=>by simp at hx) rfl (fun i x y hx _=>by simp at hx)) (oz.mono sW)
    have DL:eF H.length=some ⟨w.heap.size+1,0,0,0⟩:=by rw [vf]; exact Nu.add_same
    refine (Qy.calls _ _ eF ?_ _ _ _ h eF _ W1 (n - 1) (uB eF (H++[some (.cB { state:=.ready,pending:=none,fn,tmps:=a.tmps,params:=ps,assign,body,defers:=w.heap.size })])) (fun _ _ h=>h) od kF adU (fun id b l h1 J h3=>⟨id,b,l,h1,J,h3,rfl⟩)).mono ?_
    ·intro xs Hy K hG vD as wy m O Im nT Qz Dk acm;obtain ⟨by0,adV,hG⟩:=gK hG
     split at hG
     ·rename_i ry;obtain ⟨rfl,hG⟩:=hG;obtain ⟨ly,Jg,hBy⟩:=Qz.aJ _ _ adV;have PK:=Im _ _ DL;rw [Jg] at PK; cases PK;have acn:=hBy.lr _ rfl;obtain ⟨hlen,t1,hG,ht1⟩:=Ll hG;have hG:=mz hG;have Dl:(⟨as⟩:Array Value).size=ps.size:=by
       have:=nT.1;simp at this ⊢
       simpa [this] using hlen.symm
      refine ⟨fn,_,assign,body,run_yield acn Dl,roundIn_of_wpIn trivial ?_⟩;have QA:j4 P { E with base:=Hy.length,rd:=true }:=⟨⟨hE.ty,hE.eq,hE.fn,hE.ft⟩,hE.IZ,hE.ys⟩
      have QC:lC ⟨wy,O,vD,Hy.length,Dk⟩ { E with base:=Hy.length,rd:=true }:=⟨Nat.le_refl _,Nu.le_trans bQ.nu (Nu.le_trans hi.mono (Nu.le_trans sW Im))⟩
      have iy:bD ⟨wy,O,vD,Hy.length,Dk⟩ vD t1 Hy { tmps:=(ps.zip ⟨as⟩).foldl (fun tmps (t,a)=>tmps.setIfInBounds t a) a.tmps,defers:=[] } wy:=by
       refine ⟨?_,Marks.nil _ _,Qz,Dk,Kept.refl wy,fun id b l h1 J h3=>.inl (acm id b l h1 J h3),vD.le_refl⟩
       have:=ht1 vD a.tmps as (hi.tm.mono (Nu.le_trans sW Im)) nT;rw [← Array.foldl_toList]
       simpa using this
      refine iha (r:=some (w.heap.size+1)) QA QC (fun h=>by cases h) iy hG ?_ (fun _ _ _ _ _ _ _ h=>h.elim) (fun _ _ _ _ _ _ h=>h.elim)
      intro ν5 t5 H5 a5 w5 Jh h5;obtain ⟨b5,QD,h5⟩:=gK h5
      split at h5
      ·rename_i r5;obtain ⟨rfl,h5⟩:=h5;obtain ⟨aeU,h5⟩:=my h5;obtain ⟨l5,QE,hB5⟩:=Jh.hp.aJ _ _ QD;have PM:=Jh.mono _ _ Jg;rw [QE] at PM; cases PM;have aco:=hB5.lr _ rfl;refine ⟨_,run_beginRound aco rfl,?_⟩;have hi6:=Jh.NI { state:=.busy,pending:=none,fn,tmps:=a.tmps,params:=ps,assign,body,defers:=w.heap.size } QD QE;have fin:∀ (jump:Option Code) Ji t7 H7 a7 w7,bD ⟨wy,O,vD,Hy.length,Dk⟩ Ji t7 H7 a7 w7→CW (fun s p=>⟨s,p,fn,a.tmps,ps,assign,body,w.heap.size⟩) H.length jump K H7 →
         ∃ v w',(Instr.endRound (w.heap.size+1) jump).run P w7=.ok v w'∧GZ K vD O wy (.returned v) w':=by
        intro jump Ji t7 H7 a7 w7 Jj h7;obtain ⟨b7,QF,h7⟩:=gK h7
        split at h7
        ·rename_i r7;obtain ⟨rfl,h7⟩:=h7;obtain ⟨aeV,h7⟩:=my h7;obtain ⟨l7,QG,hB7⟩:=Jj.hp.aJ _ _ QF;have PN:=Jj.mono _ _ Jg;rw [QG] at PN; cases PN;have acp:=hB7.lr _ rfl;have he:=run_endRound (P:=P) jump acp;refine ⟨_,_,he,?_⟩;have An:=Jj.NI { state:=if jump.isNone then .ready else .done,pending:=jump,fn,tmps:=a.tmps,params:=ps,assign,body,defers:=w.heap.size } QF QG
         refine ⟨.bool jump.isNone,_,Ji,_,rfl,?_,.bool _,An.mono,An.hp,An.fr,An.kp,An.own⟩;cases jump <;> exact h7
        ·exact h7.elim
       refine ihb (r:=some (w.heap.size+1)) QA QC (fun h=>by cases h) hi6 h5 (fun ν t H a w hi h=>fin none _ _ _ _ _ hi h) (fun i ν t H a w hi h=>fin (some (.exit i)) _ _ _ _ _ hi h) (fun ν t H a w hi h=>fin (some .ret) _ _ _ _ _ hi h)
      ·exact h5.elim
     ·exact hG.elim
    ·rintro e w3 ⟨v,v',ν3,H3,rfl,h3,Jk,Io,DM,adW,PO,acq⟩
     obtain ⟨b3,tx,h3⟩:=gK h3
     split at h3
     ·rename_i r3;obtain ⟨adX,h3⟩:=my h3;obtain ⟨l3,QH,hB3⟩:=DM.aJ _ _ tx;have PQ:=Io _ _ DL;rw [QH] at PQ; cases PQ;have HC:w3.heap[w.heap.size+1]?=some (.loop r3):=hB3.lr r3 rfl;have ak:w.heap.size+1 < w3.heap.size:=(Array.getElem?_eq_some_iff.1 HC).1;have DN:bD F ν3 t (H3.set H.length none) { a with defers:=[{ target:=.collected w.heap.size,args:=#[] }]++a.defers } (w3.putObj (w.heap.size+1) (.loop { r3 with state:=.exhausted })):=by
       have HD:∀ x,uB eF (H++[some (.cB { state:=.ready,pending:=none,fn,tmps:=a.tmps,params:=ps,assign,body,defers:=w.heap.size })]) x→(F.O x∨F.W.heap.size≤x)∧W1.heap[x]?≠some (.deferred (some [])):=by
        rintro x ⟨id,c,l,h1,J,h3,rfl⟩
        obtain ⟨l',h4,hB⟩:=kF.aJ id c h1;rw [h3] at h4; cases h4;refine ⟨?_,fun hd=>?_⟩
        ·by_cases bu:id < H.length
         ·rw [List.getElem?_append_left bu] at h1;rw [vf,Nu.jc (by omega)] at h3
          exact hi.own id c l h1 J h3
         ·have:id=H.length:=by
           have:=(List.getElem?_eq_some_iff.1 h1).1;simp at this; omega
          subst this;rw [DL] at h3; cases h3;exact .inr (by have:=hi.kp.size; show _≤w.heap.size+1; omega)
        ·cases hr:c.rc with
         | none=>obtain ⟨cur,tt,h5,_⟩:=hB.own J hr; rw [h5] at hd; cases hd
         | some r=>rw [hB.lr r hr] at hd; cases hd
       have O2:∀ D:Nat,W1.heap[D]?=some (Obj.deferred (some []))→(w3.putObj (w.heap.size+1) (.loop { r3 with state:=.exhausted })).heap[D]?=some (Obj.deferred (some [])):=fun D hD=>by
        have Jl:=(PO.aJ D (Array.getElem?_eq_some_iff.1 hD).1 (fun h=>(HD D h).2 hD)).trans hD
        exact (World.putObj_heap_other (fun e=>by rw [e,HC] at Jl; cases Jl)).trans Jl
       have dv:∀ (id:Nat) (b:ai),(H3.set H.length none)[id]?=some (some b)→id≠H.length∧H3[id]?=some (some b):=fun id b hb=>by
        by_cases e:id=H.length
        ·subst e; rw [List.getElem?_set_self adX] at hb; cases hb
        ·rw [List.getElem?_set_ne (Ne.symm e)] at hb; exact ⟨e,hb⟩
       refine ⟨hi.tm.mono (Nu.le_trans sW Io),?_,⟨fun id b hb=>?_,fun i j bi bj li lj h1 J=>?_⟩,fun id bu=>adW id (by simpa using bu),?_,fun id b l hb ho hl=>?_,Nu.le_trans hi.mono (Nu.le_trans sW Io)⟩
       ·refine ⟨List.nodup_cons.2 ⟨fun hm=>?_,hi.df.1⟩,fun d hd=>?_⟩
        ·obtain ⟨D,e,_,hD⟩:=hi.df.2 _ hm;have:=(Array.getElem?_eq_some_iff.1 hD).1;cases e;omega
        ·rcases List.mem_cons.1 hd with rfl | hd
         ·exact ⟨_,rfl,hi.kp.size,O2 _ ack⟩
         ·obtain ⟨D,e,h0,hD⟩:=hi.df.2 d hd;exact ⟨D,e,h0,O2 D ((Il.block D (Array.getElem?_eq_some_iff.1 hD).1).trans hD)⟩
       ·obtain ⟨aN,hb⟩:=dv id b hb;obtain ⟨l,hl,hB⟩:=DM.aJ id b hb;have H9:=DM.sep _ id _ b _ l tx hb (Ne.symm aN) rfl QH hl;exact ⟨l,hl,hB.same (World.putObj_heap_other (Ne.symm H9)) (by simp)⟩
       ·exact DM.sep i j bi bj li lj (dv i bi h1).2 (dv j bj J).2
       ·refine (hi.kp.below Il).then (PO.then (O':=fun x=>x=w.heap.size+1) ⟨rfl,rfl,rfl,by simp,fun b h1 J=>World.putObj_heap_other J⟩ (fun b hb=>.inl (by subst hb; exact ⟨H.length,.cB { state:=.ready,pending:=none,fn,tmps:=a.tmps,params:=ps,assign,body,defers:=w.heap.size },_,by simp,rfl,DL,rfl⟩))) (fun b hb=>(HD b hb).1)
       ·rcases acq id b l (dv id b hb).2 ho hl with h | h
        ·exact (HD _ h).1
        ·exact .inr (by have:=hi.kp.size; omega)
      by_cases O3:r3.state=.busy
      ·rw [O3] at h3; exact h3.elim
      ·have he:=run_endLoop (P:=P) HC O3;generalize w3.putObj (w.heap.size+1) (.loop { r3 with state:=.exhausted })=w4 at DN he
       refine ⟨r3.pending,w4,he,?_⟩;clear he;have pick:∀ {X:Prop},(match r3.state,r3.pending with
        | .busy,_=>False
        | _,none=>kn t (H3.set H.length none)
        | _,some (.exit i)=>kx i t (H3.set H.length none)
        | _,some .ret=>kr t (H3.set H.length none)
        | _,_=>False)→(∀ s,(match (generalizing:=false) s,r3.pending with
        | LoopState.busy,_=>False
        | _,none=>kn t (H3.set H.length none)
        | _,some (.exit i)=>kx i t (H3.set H.length none)
        | _,some .ret=>kr t (H3.set H.length none)
        | _,_=>False)→X)→X:=fun h k=>k _ h
       refine pick h3 fun s h3=>?_
       cases hp:r3.pending with
       | none =>
        rw [hp] at h3;cases s <;> first | exact h3.elim | exact hn _ _ _ _ _ DN h3
       | some c =>
        rw [hp] at h3;cases c <;> cases s <;> first | exact h3.elim | exact wpIn_exit (hx _ _ _ _ _ _ DN h3) | exact wpIn_ret (hr _ _ _ _ _ DN h3)
     ·exact h3.elim
   ·exact h.elim
  ·exact h.elim
 | _=>exact fun _ _ _=>fun _ h _ _ _=>h.elim
def zA (tmps:Array Value):ResultVar→Sem Value
 | .tmp t=>pure (tmps.getD t undef)
 | .cell x t=>do loadVar t (← asAddr (tmps.getD x undef))
theorem S7 (fn:Func) (tmps:Array Value):results fn tmps=(do let vs ← fn.results.mapM (zA tmps); pure (if h:vs.size=1 then vs[0] else .tuple vs)):=rfl
theorem S8 (a:Addr):asAddr (.pointer (some a))=pure a:=rfl
theorem Eu (hE:j4 P E) {ν:Nu} {tmps:List Value} {H:aA} {a:Act} {w:World} (hi:bD F ν tmps H a w):∀ {l:List ResultVar} {k:List Value→Prop},wB E H tmps l k →
  ∃ vs gl,k vs∧bn ν vs gl∧(l.mapM (zA a.tmps)).run P w=.ok gl w
 | [],k,h=>⟨[],[],h,.nil ν,rfl⟩
 | .tmp t::l,k,h=>by
  obtain ⟨v,hv,h⟩:=oS h;obtain ⟨v',vy,hr⟩:=hi.tm.get hv;obtain ⟨vs,gl,h1,J,h3⟩:=Eu hE hi h;have e:a.tmps.getD t undef=v':=by
   have:a.tmps[t]?=some v':=by simpa using vy
   simp [this]
  exact ⟨v::vs,v'::gl,h1,.cons hr J,by simp only [List.mapM_cons,zA,Sem.run_bind,Sem.run_pure,Result.andThen_ok,h3,e]⟩
 | .cell x t::l,k,h=>by
  obtain ⟨v,hv,h⟩:=oS h;obtain ⟨v',vy,hr⟩:=hi.tm.get hv
  split at h
  ·rename_i id row sp;obtain ⟨ti,ht,h⟩:=c5 h;obtain ⟨b,hb,h⟩:=gK h;obtain ⟨bd,h⟩:=L4 h;obtain ⟨us,h,hl,tc⟩:=yn h;obtain ⟨lc,dX,hB⟩:=hi.hp.aJ id b hb;obtain ⟨lc',PR,he⟩:=hr.o4;rw [dX] at PR; cases PR;obtain ⟨us',h1,J,h3⟩:=La hB bd hl tc;obtain ⟨vs,gl,k1,k2,k3⟩:=Eu hE hi h;have e:a.tmps.getD x undef=v':=by
    have:a.tmps[x]?=some v':=by simpa using vy
    simp [this]
   refine ⟨_,_::gl,k1,.cons (Fc h1) k2,?_⟩;simp only [List.mapM_cons,zA,Sem.run_bind,Result.andThen_ok,e,he,S8,Sem.run_pure,Kr (hE.ty _ _ ht) J h3,k3]
  ·exact h.elim
structure om (n0:Nat) (w w':World):Prop where
 os:w'.os=w.os
 tape:w'.tape=w.tape
 output:w'.output=w.output
 size:w'.heap.size=w.heap.size
 low:∀ q:Nat,q < n0→w'.heap[q]?=w.heap[q]?
 same:∀ (q:Nat) (o:Obj),(∀ c,o≠.deferred c)→w.heap[q]?=some o→w'.heap[q]?=some o
theorem om.refl (n0:Nat) (w:World):om n0 w w:=⟨rfl,rfl,rfl,rfl,fun _ _=>rfl,fun _ _ _ h=>h⟩
theorem om.trans {n0:Nat} {w w' QI:World} (h:om n0 w w') (k:om n0 w' QI):om n0 w QI :=
 ⟨k.os.trans h.os,k.tape.trans h.tape,k.output.trans h.output,k.size.trans h.size,fun q hq=>(k.low q hq).trans (h.low q hq),fun q o ho hq=>k.same q o ho (h.same q o ho hq)⟩
theorem VA {n0 D:Nat} {w:World} (hD:w.heap[D]?=some (Obj.deferred (some []))) (h0:n0≤D):om n0 w (w.putObj D (.deferred none)) :=
 ⟨rfl,rfl,rfl,by simp,fun q hq=>World.putObj_heap_other (by omega),fun q o ho hq=>(World.putObj_heap_other (fun e=>by subst e; rw [hD] at hq; cases hq; exact ho _ rfl)).trans hq⟩
theorem Kw {fn:Func} {tmps:Array Value} {R:Ending→World→Prop} {n0:Nat}:∀ (ds:List Deferred) (w:World),Marks n0 ds w→(∀ w',om n0 w w'→∃ v,(results fn tmps).run P w'=.ok v w'∧R (.returned v) w')→LeavesInM Fence.wide n P fn tmps R ds .returning w
 | [],w,_,h=>h w (om.refl n0 w)
 | d::ds,w,hm,h=>by
  obtain ⟨D,rfl,h0,hD⟩:=hm.2 d (List.mem_cons_self ..);have kc:=List.nodup_cons.1 hm.1;refine ⟨by simp,.inl ⟨D,w.putObj D (.deferred none),rfl,run_takeDeferred hD,?_⟩⟩
  refine Kw ds _ ⟨kc.2,fun e he=>?_⟩ fun w' hw'=>h w' ((VA hD h0).trans hw')
  obtain ⟨D',rfl,h1,Ao⟩:=hm.2 e (List.mem_cons_of_mem _ he);exact ⟨D',rfl,h1,(World.putObj_heap_other (fun e2=>kc.1 (by rw [← e2]; exact he))).trans Ao⟩
theorem bS.shut {ν:Nu} {l:Loc} {b:ai} {n0:Nat} {w w':World} (h:bS ν l b w) (hs:om n0 w w'):bS ν l b w':=by
 refine ⟨h.ah,h.len,fun r hr j v hv=>?_,h.plain,h.one,fun ho hc=>?_,fun r hr=>hs.same _ _ (fun c=>by simp) (h.lr r hr),by rw [hs.size]; exact h.live⟩
 ·obtain ⟨v',h1,J⟩:=h.cell r hr j v hv;refine ⟨v',?_,J⟩;have h3:=h1;unfold World.cell? at h3;cases ho:w.heap[(l.at r j).block]? with
  | none=>simp [ho] at h3
  | some o =>
   have:∀ c,o≠Obj.deferred c:=fun c e=>by subst e; simp [ho] at h3
   rw [World.cell?_of_block (a:=l.at r j) ((hs.same _ _ this ho).trans ho.symm)];exact h1
 ·obtain ⟨cur,t,h1,J⟩:=h.own ho hc;exact ⟨cur,t,hs.same _ _ (fun c=>by simp) h1,J⟩
theorem bU.shut {ν:Nu} {H:aA} {n0:Nat} {w w':World} (h:bU ν H w) (hs:om n0 w w'):bU ν H w' :=
 ⟨fun id b hi=>let ⟨l,h1,J⟩:=h.aJ id b hi; ⟨l,h1,J.shut hs⟩,h.sep⟩
def cC (E:Env) (D:Env→List Oper→List Value→aA→SK→Prop) (fn:Func) (args:List Value) (H:aA) (K:Value→aA→Prop):Prop :=
 match fn.body with
 | some c=>jE H fun n0=>qP args (List.replicate (fn.ntmps - args.length) undef) fun t0 =>
  vc { E with base:=n0 } D c t0 H (fun t H=>wB { E with base:=n0 } H t fn.results.toList fun vs=>Di vs fun v=>K v H) (fun _ _ _=>False) (fun t H=>wB { E with base:=n0 } H t fn.results.toList fun vs=>Di vs fun v=>K v H)
 | none=>False
theorem j4.at {E:Env} (hE:j4 P E) (n0:Nat):j4 P { E with base:=n0 }:=⟨⟨hE.ty,hE.eq,hE.fn,hE.ft⟩,hE.IZ,hE.ys⟩
theorem yE (hE:j4 P E) (hD:nR P D) {f:FuncId} {fn:Func} (hf:P.funcs[f]?=some fn) {args as:List Value} {H:aA} {ν:Nu} {w:World} {O:Nat→Prop} {K:Value→aA→Prop} {n:Nat}
  (h:cC E D fn args H K) (ha:bn ν args as) (hH:bU ν H w) (gz:∀ id,H.length≤id→ν id=none)
  (kA:∀ id b l,H[id]?=some (some b)→b.own=true→ν id=some l→O l.aJ) (hnu:E.nu.le ν) {R:Ending→World→Prop}
  (hR:∀ aj v v' t H' a w',bD ⟨w,O,ν,H.length,gz⟩ aj t H' a w'→K v H'→au aj v v'→R (.returned v') w'):CallsIn Fence.wide n P f ⟨as⟩ w R:=by
 unfold cC at h
 split at h
 ·rename_i c hc;have h:=wg (mz h);refine callsIn_of_wp_marks hf hc trivial ?_;have hi:bD ⟨w,O,ν,H.length,gz⟩ ν (args++List.replicate (fn.ntmps - args.length) undef) H { tmps:=(⟨as⟩:Array Value)++Array.replicate (fn.ntmps - (⟨as⟩:Array Value).size) undef,defers:=[] } w:=by
   refine ⟨?_,Marks.nil _ _,hH,gz,Kept.refl w,fun id b l h1 J h3=>.inl (kA id b l h1 J h3),ν.le_refl⟩
   have e:((⟨as⟩:Array Value)++Array.replicate (fn.ntmps - (⟨as⟩:Array Value).size) undef).toList=as++List.replicate (fn.ntmps - args.length) undef:=by
    simp [ha.1]
   rw [e];refine ha.append ⟨rfl,fun i x y hx hy=>?_⟩
   rw [hx] at hy; cases hy;have:=List.mem_of_getElem? hx;simp at this;rw [this.2]; exact .undef ν
  have QJ:=hE.at H.length;have fin:∀ aj t H' a w',bD ⟨w,O,ν,H.length,gz⟩ aj t H' a w'→(wB { E with base:=H.length } H' t fn.results.toList fun vs=>Di vs fun v=>K v H')→LeavesInM Fence.wide n P fn a.tmps R a.defers .returning w':=by
   intro aj t H' a w' gH h';refine Kw a.defers w' gH.df fun w2 hs=>?_
   have aS:bD ⟨w,O,ν,H.length,gz⟩ aj t H' { tmps:=a.tmps,defers:=[] } w2 :=
    ⟨gH.tm,Marks.nil _ _,gH.hp.shut hs,gH.fr,⟨hs.os.trans gH.kp.os,hs.tape.trans gH.kp.tape,hs.output.trans gH.kp.output,by rw [hs.size]; exact gH.kp.size,fun b h1 J=>(hs.low b h1).trans (gH.kp.aJ b h1 J)⟩,gH.own,gH.mono⟩
   obtain ⟨vs,gl,h1,J,h3⟩:=Eu QJ aS h';have adY:(fn.results.mapM (zA a.tmps)).run P w2=.ok ⟨gl⟩ w2:=by
    rw [Array.mapM_eq_mapM_toList];simp only [Sem.run_map,h3,Result.andThen_ok]
   rw [S7];simp only [Sem.run_bind,adY,Result.andThen_ok,Sem.run_pure];refine ⟨_,rfl,?_⟩;unfold Di at h1
   split at h1
   ·rename_i v;obtain ⟨y,ys,rfl,k1,k2⟩:=J.jw;rw [k2.jb];exact hR _ _ _ _ _ _ _ aS h1 k1
   ·rename_i aN;have hlen:¬ ((⟨gl⟩:Array Value).size=1):=by
     intro e;have:vs.length=1:=by rw [J.1]; exact e
     obtain ⟨v,rfl⟩:=List.length_eq_one_iff.1 this;exact aN v rfl
    rw [dif_neg hlen];exact hR _ _ _ _ _ _ _ aS h1 (.tuple _ _ J.1 J.2)
  exact Vz hD c (r:=none) (F:=⟨w,O,ν,H.length,gz⟩) QJ ⟨Nat.le_refl _,hnu⟩ (fun _=>rfl) hi h (fun ν t H a w' aS h'=>fin ν t H a w' aS h') (fun _ _ _ _ _ _ _ h'=>h'.elim) (fun ν t H a w' aS h'=>fin ν t H a w' aS h')
 ·exact h.elim
theorem Ca {E:Env} {ν:Nu} (h:E.nu=fun _=>none):E.nu.le ν:=by rw [h]; exact fun _ _ h=>nomatch h
theorem bh {S:bG} (hE:EnvOk P E) (hD:nR P D) {f:FuncId} {fn:Func} (hf:P.funcs[f]?=some fn) (ov:∀ args w,(callFunc f args).run P w=.ok (.enter f args) w)
  (ha:∀ i,Bv (S.args i)=true) (hv:∀ i,Cw (S.val i)=true) (h:∀ i,S.pre i→cC E D fn (S.args i) [] fun v _=>v=S.val i)
  (hI:iD P E:=by exact iD.none rfl) (hy:E.ys=[]:=by rfl) (hu:E.nu=(fun _=>none):=by rfl):bc P f S:=by
 refine ⟨ov,fun i hp ν as w n has=>?_⟩
 have e:=(Et (ha i)).2 ν as has;subst e;refine yE (O:=fun _=>False) (ν:=fun _=>none) (hE.x hI hy) hD hf (h i hp) ((Et (ha i)).1 _) ⟨fun id b hb=>by simp at hb,fun i j bi bj li lj hi=>by simp at hi⟩ (fun _ _=>rfl) (fun id b l hb=>by simp at hb) (Ca hu) ?_
 rintro aj v v' t H a w' hi rfl hr
 exact ⟨v',rfl,by rw [(yg (hv i)).2 _ _ hr]; exact (yg (hv i)).1 ν,⟨hi.kp.os,hi.kp.tape,hi.kp.output,hi.kp.size,fun k hk=>hi.kp.aJ k hk (fun h=>h)⟩⟩
theorem jh (hE:EnvOk P E) (hD:nR P D) {f:FuncId} {fn:Func} (hf:P.funcs[f]?=some fn) (ov:∀ args w,(callFunc f args).run P w=.ok (.enter f args) w)
  (hI:iD P E:=by exact iD.none rfl) (hy:E.ys=[]:=by rfl) (hu:E.nu=(fun _=>none):=by rfl):gj P f (cC E D fn):=by
 refine ⟨ov,fun args H K h ν as w n O ha hH gz kA=>yE (hE.x hI hy) hD hf h ha hH gz kA (Ca hu) ?_⟩
 intro aj v v' t H' a w' hi hk hv;exact ⟨v,v',aj,H',rfl,hk,hv,hi.mono,hi.hp,hi.fr,hi.kp,hi.own⟩
theorem O4 (hE:EnvOk P E) (hD:nR P D) {f:FuncId} {fn:Func} (hf:P.funcs[f]?=some fn) (ov:∀ args w,(callFunc f args).run P w=.ok (.enter f args) w)
  (hI:iD P E:=by exact iD.none rfl):zM P f (fun l G nu=>cC { E with ys:=[(l,G)],nu:=nu } D fn):=by
 refine ⟨ov,fun l G bz hY args H K h ν as w n O hle ha hH gz kA=>?_⟩
 refine yE (E:={ E with ys:=[(l,G)],nu:=bz }) ⟨⟨hE.ty,hE.eq,hE.fn,hE.ft⟩,hI,fun l' G' r e=>by cases e; exact hY⟩ hD hf h ha hH gz kA hle ?_
 intro aj v v' t H' a w' hi hk hv;exact ⟨v,v',aj,H',rfl,hk,hv,hi.mono,hi.hp,hi.fr,hi.kp,hi.own⟩
end
open Go Go.RowKit
def Fm:Value→Bool
 | .bool _ | .int _ _ | .string _ | .pointer none | .nilFunc=>true
 | .slice none 0 0=>true
 | _=>false
theorem RP {v:Value} (h:Fm v=true):(∀ ν,au ν v v)∧v.oneCell'=true:=by
 unfold Fm at h
 split at h
 ·exact ⟨fun ν=>.bool _,rfl⟩
 ·exact ⟨fun ν=>.int _ _,rfl⟩
 ·exact ⟨fun ν=>.str _,rfl⟩
 ·exact ⟨fun ν=>.mI,rfl⟩
 ·exact ⟨fun ν=>.mJ,rfl⟩
 ·exact ⟨fun ν=>.iR,rfl⟩
 ·cases h
def Bn:List Value→Bool
 | []=>true
 | v::l=>Fm v && Bn l
theorem Ki:∀ {l:List Value},Bn l=true→(∀ ν,bn ν l l)∧∀ v∈l,v.oneCell'=true
 | [],_=>⟨fun ν=>.nil ν,fun v hv=>by simp at hv⟩
 | v::l,h=>by
  simp only [Bn,Bool.and_eq_true] at h;obtain ⟨h1,J⟩:=RP h.1;obtain ⟨h3,h4⟩:=Ki h.2;exact ⟨fun ν=>.cons (h1 ν) (h3 ν),fun u hu=>by
   rcases List.mem_cons.1 hu with e | e
   ·rw [e]; exact J
   ·exact h4 u e⟩
def wM (P:Program):List Field→List (Nat × Nat × Bool)→Bool
 | [],[]=>true
 | f::l,x::m=>Nat.beq f.offset x.1 && Nat.ble 1 x.2.1 && (match P.info? f.type with | some i=>Nat.beq i.size x.2.1 | none=>false) &&
  (match P.underlying f.type with | some d=>(uz d == x.2.2) | none=>false) && wM P l m
 | _,_=>false
theorem Kx {P:Program}:∀ {l:List Field} {m:List (Nat × Nat × Bool)},wM P l m=true→l.length=m.length∧∀ (i:Nat) f x,l[i]?=some f→m[i]?=some x→yR P f x
 | [],[],_=>⟨rfl,fun i f x h=>by simp at h⟩
 | f::l,x::m,h=>by
  simp only [wM,Bool.and_eq_true] at h;obtain ⟨⟨⟨⟨h1,J⟩,h3⟩,h4⟩,h5⟩:=h;obtain ⟨k1,k2⟩:=Kx h5;refine ⟨by simp [k1],fun i g y hg hy=>?_⟩
  cases i with
  | zero =>
   simp at hg hy;subst hg; subst hy;refine ⟨Nat.eq_of_beq_eq_true h1,Nat.le_of_ble_eq_true J,?_,?_⟩
   ·split at h3
    ·exact ⟨_,by assumption,Nat.eq_of_beq_eq_true h3⟩
    ·cases h3
   ·split at h4
    ·exact ⟨_,by assumption,by simpa using h4⟩
    ·cases h4
  | succ i=>exact k2 i g y (by simpa using hg) (by simpa using hy)
 | [],_::_,h=>by simp [wM] at h
 | _::_,[],h=>by simp [wM] at h
def HE (P:Program) (t:TypeId) (k:TK):Bool :=
 match k,P.underlying t with
 | .int q,some (.int q')=>decide (q=q')
 | .bool,some .bool=>true
 | .str,some .string=>true
 | .struct fs,some (.struct fields)=>wM P fields.toList fs
 | .slice e,some (.slice e')=>Nat.beq e e'
 | .array n e,some (.array n' e')=>Nat.beq n n' && Nat.beq e e'
 | .other,some d=>!uz d
 | _,_=>false
theorem S9 {P:Program} {t:TypeId} {k:TK} (h:HE P t k=true):∃ d,P.underlying t=some d∧Dx P k d:=by
 unfold HE at h
 split at h
 ·exact ⟨_,by assumption,by rw [of_decide_eq_true h]; rfl⟩
 ·exact ⟨_,by assumption,rfl⟩
 ·exact ⟨_,by assumption,rfl⟩
 ·obtain ⟨h1,J⟩:=Kx h;exact ⟨_,by assumption,_,rfl,by simpa using h1,fun i f x hf hx=>J i f x (by simpa using hf) hx⟩
 ·exact ⟨_,by assumption,by rw [Nat.eq_of_beq_eq_true h]; rfl⟩
 ·simp only [Bool.and_eq_true] at h;exact ⟨_,by assumption,by rw [Nat.eq_of_beq_eq_true h.1,Nat.eq_of_beq_eq_true h.2]; rfl⟩
 ·exact ⟨_,by assumption,by simpa [Dx] using h⟩
 ·cases h
def Ox (ti:TI):Bool:=Bn ti.zero && Nat.beq ti.zero.length ti.size && Nat.ble 1 ti.size && Nat.ble 1 ti.bytes
theorem aM {P:Program} {t:TypeId} {ti:TI} (h1:(P.info? t).map (fun i=>(i.size,i.bytes,i.zero.map fun z=>z.cells.toList))=some (ti.size,ti.bytes,some ti.zero)) (J:HE P t ti.kind=true) (h3:Ox ti=true):aC P t ti:=by
 obtain ⟨i,hi,he⟩:=Option.map_eq_some_iff.1 h1;simp only [Prod.mk.injEq] at he;obtain ⟨e1,e2,e3⟩:=he;obtain ⟨z,hz,oz⟩:=Option.map_eq_some_iff.1 e3;simp only [Ox,Bool.and_eq_true] at h3;obtain ⟨⟨⟨k1,k2⟩,k3⟩,k4⟩:=h3;obtain ⟨k5,k6⟩:=Ki k1;exact ⟨⟨i,hi,e1,e2,z,hz,Array.ext' oz⟩,S9 J,k5,Nat.eq_of_beq_eq_true k2,k6,Nat.le_of_ble_eq_true k3,Nat.le_of_ble_eq_true k4⟩
inductive ET where
 | bool | int (k:IntKind) | str
 | struct (fs:List (Nat × ET))      -- each field's size and shape
open Go Go.RowKit
def iP:List Operand→List Tmp
 | []=>[]
 | .tmp t::l=>t::iP l
 | _::l=>iP l
theorem pW {t:Tmp}:∀ {l:List Operand},Operand.tmp t∈l→t∈iP l
 | .tmp u::l,h=>by
  rcases List.mem_cons.1 h with e | e
  ·cases e; simp [iP]
  ·simp [iP,pW e]
 | .const v::l,h=>by
  rcases List.mem_cons.1 h with e | e
  ·cases e
  ·simpa [iP] using pW e
 | .global v::l,h=>by
  rcases List.mem_cons.1 h with e | e
  ·cases e
  ·simpa [iP] using pW e
 | .func v::l,h=>by
  rcases List.mem_cons.1 h with e | e
  ·cases e
  ·simpa [iP] using pW e
def jt (ops:List Oper) (o:Oper):List Tmp :=
 iP o.op.operands.toList++(match o.guard with | some (j,_)=>(match (ops[j]?).bind (·.dst) with | some d=>[d] | none=>[]) | none=>[])
def Cb (ops:List Oper) (aV:List (List Nat)):Bool :=
 (List.range ops.length).all fun j=>match ops[j]? with
  | some o=>(aV.getD j []).all fun i=>i < j && o.after.toList.any fun e=>Region.binds .any e && (e.on == i || ((aV.getD e.on []).contains i && decide (e.on < j)))
  | none=>true
def Cx (ops:List Oper) (m:Nat) (aV:List (List Nat)):Bool :=
 decide (m≤ops.length) && Cb ops aV &&
 (List.range ops.length).all (fun j=>match ops[j]? with
  | some o=>o.after.toList.all fun e=>!Region.binds .any e || decide (e.on < j)
  | none=>true) &&
 (List.range m).all (fun j=>match ops[j]? with
  | some o=>(List.range m).all fun i=>i == j || match ops[i]? with
   | some p=>match p.dst with
    | some d=>(o.dst != some d) && (!(jt ops o).contains d || (aV.getD j []).contains i || (aV.getD i []).contains j)
    | none=>true
   | none=>true
  | none=>true) &&
 (List.range ops.length).all (fun j=>decide (j < m) || (List.range j).all fun i=>(aV.getD j []).contains i)
def lR:List (Option ai)→Nat→List Nat→(List (Option ai)→Prop)→Prop
 | [],_,_,k=>k []
 | b::S,i,mask,k=>match mask with
  | m::ms=>match Nat.beq m i with
   | true=>lR S (i+1) ms fun S'=>k (b::S')
   | false=>lR S (i+1) (m::ms) fun S'=>k (none::S')
  | []=>lR S (i+1) [] fun S'=>k (none::S')
def nU:aA→List (Option ai)→(aA→Prop)→Prop
 | [],S,k=>k S
 | b::H,S,k=>nU H S fun G=>k (b::G)
theorem ua:∀ {H:aA} {S:List (Option ai)} {k:aA→Prop},nU H S k→k (H++S)
 | [],_,_,h=>h
 | _::H,S,k,h=>ua (H:=H) h
def jy:List (Option ai)→Option ai→(List (Option ai)→Prop)→Prop
 | [],b,k=>k [b]
 | c::S,b,k=>jy S b fun S'=>k (c::S')
theorem tR:∀ {S:List (Option ai)} {b:Option ai} {k:List (Option ai)→Prop},jy S b k→k (S++[b])
 | [],_,_,h=>h
 | _::S,b,k,h=>tR (S:=S) h
def lS (E:Env) (ops:List Oper) (H:aA) (n0:Nat):List Oper→List (List Nat)→Nat→List Value→List (Option ai)→(List Value→List (Option ai)→Prop)→Prop
 | [],_,_,t,S,k=>k t S
 | o::l,mask::aV,j,t,S,k =>
  match o.guard with
  | none=>lR S 0 mask fun Sm=>nU H Sm fun G=>lB E o.op t G (n0+j) fun v nb=>dD t o.dst v fun t'=>jy S nb fun S'=>lS E ops H n0 l aV (j+1) t' S' k
  | some (g,want)=>match (ops[g]?).bind (·.dst) with
   | some d=>qO t d fun v=>match v with
    | .bool b=>br (b == want)
      (lR S 0 mask fun Sm=>nU H Sm fun G=>lB E o.op t G (n0+j) fun v nb=>dD t o.dst v fun t'=>jy S nb fun S'=>lS E ops H n0 l aV (j+1) t' S' k)
      (dD t o.dst undef fun t'=>jy S none fun S'=>lS E ops H n0 l aV (j+1) t' S' k)
    | .tuple _=>dD t o.dst undef fun t'=>jy S none fun S'=>lS E ops H n0 l aV (j+1) t' S' k
    | _=>False
   | none=>False
 | _::_,[],_,_,_,_=>False
def uQ:List Oper→Nat→(List Oper→List Oper→Prop)→Prop
 | l,0,k=>k [] l
 | [],_+1,_=>False
 | o::l,m+1,k=>uQ l m fun a b=>k (o::a) b
theorem yt:∀ {l:List Oper} {m:Nat} {k:List Oper→List Oper→Prop},uQ l m k→m≤l.length∧k (l.take m) (l.drop m)
 | l,0,_,h=>⟨by simp,by simpa [uQ] using h⟩
 | [],_+1,_,h=>h.elim
 | o::l,m+1,k,h=>by
  obtain ⟨h1,J⟩:=yt (l:=l) h;exact ⟨by simp; omega,by simpa using J⟩
def O5 (E:Env) (ops:List Oper) (t:List Value) (H:aA) (k:SK):Prop :=
 ∃ (m:Nat) (aV:List (List Nat)),Cx ops m aV=true∧jE H fun n0=>uQ ops m fun hd tl=>lS E ops H n0 hd aV 0 t [] fun t' S=>nU H S fun G=>nK E ops tl t' G k
structure dr where
 v:Value
 nb:Option ai
 run:Bool
def bV (ops:List Oper) (i:Nat):Option Tmp:=(ops[i]?).bind (·.dst)
def bm (ops:List Oper) (rs:List dr) (D:Nat→Bool) (t0:List Value):Nat→List Value
 | 0=>t0
 | i+1=>match D i,bV ops i,rs[i]? with
  | true,some d,some r=>(bm ops rs D t0 i).set d r.v
  | _,_,_=>bm ops rs D t0 i
def kV (rs:List dr) (D:Nat→Bool) (m:Nat):List (Option ai):=(List.range m).map fun i=>if D i then (rs[i]?).bind (·.nb) else none
section
variable {ops:List Oper} {rs:List dr} {t0:List Value}
theorem rM (D:Nat→Bool):∀ m,(bm ops rs D t0 m).length=t0.length
 | 0=>rfl
 | m+1=>by
  unfold bm
  split
  ·rw [List.length_set]; exact rM D m
  ·exact rM D m
def xq (ops:List Oper) (m:Nat):Prop:=∀ i j d,i < m→j < m→bV ops i=some d→bV ops j=some d→i=j
theorem wi (D:Nat→Bool) {d:Tmp}:∀ m,(∀ i,i < m→D i=true→bV ops i=some d→rs[i]?=none)→(bm ops rs D t0 m)[d]?=t0[d]?
 | 0,_=>rfl
 | m+1,h=>by
  unfold bm
  split
  ·rename_i d' r hD hd hr;have aN:d'≠d:=fun e=>by subst e; rw [h m (by omega) hD hd] at hr; cases hr
   rw [List.getElem?_set_ne aN];exact wi D m (fun i hi=>h i (by omega))
  ·exact wi D m (fun i hi=>h i (by omega))
theorem ub (D:Nat→Bool) {d:Tmp} {i:Nat} {r:dr} (hd:bV ops i=some d) (hr:rs[i]?=some r) (hD:D i=true) (ak:d < t0.length) :
  ∀ m,i < m→xq ops m→(bm ops rs D t0 m)[d]?=some r.v
 | 0,h,_=>by omega
 | m+1,h,ha=>by
  by_cases e:i=m
  ·subst e;unfold bm;rw [hD,hd,hr]
   dsimp only
   rw [List.getElem?_set_self];rw [rM]; exact ak
  ·have ih:=ub D hd hr hD ak m (by omega) (fun a b c h1 J=>ha a b c (by omega) (by omega))
   unfold bm
   split
   ·rename_i d' r' Ao dh iV;have aN:d'≠d:=fun e'=>by subst e'; exact e (ha i m d' (by omega) (by omega) hd dh)
    rw [List.getElem?_set_ne aN]; exact ih
   ·exact ih
theorem yu {D D':Nat→Bool} {d:Tmp} {m:Nat} (ha:xq ops m) (ak:∀ i d,i < m→bV ops i=some d→d < t0.length) (h:∀ i,i < m→bV ops i=some d→D i=D' i) :
  (bm ops rs D t0 m)[d]?=(bm ops rs D' t0 m)[d]?:=by
 by_cases hex:∃ i r,i < m∧bV ops i=some d∧D i=true∧rs[i]?=some r
 ·obtain ⟨i,r,hi,hd,hD,hr⟩:=hex;rw [ub D hd hr hD (ak i d hi hd) m hi ha,ub D' hd hr (by rw [← h i hi hd]; exact hD) (ak i d hi hd) m hi ha]
 ·rw [wi D m,wi D' m]
  ·intro i hi hD hd;cases hr:rs[i]? with
   | none=>rfl
   | some r=>exact absurd ⟨i,r,hi,hd,by rw [h i hi hd]; exact hD,hr⟩ hex
  ·intro i hi hD hd;cases hr:rs[i]? with
   | none=>rfl
   | some r=>exact absurd ⟨i,r,hi,hd,hD,hr⟩ hex
theorem Lm {D D':Nat→Bool} {m j:Nat} (ha:xq ops m) (ak:∀ i d,i < m→bV ops i=some d→d < t0.length) (hj:j < m) (hDj:D j=false) (Ao:∀ i,D' i=(D i || i == j)) {r:dr} (hr:rs[j]?=some r) :
  bm ops rs D' t0 m=match bV ops j with | some d=>(bm ops rs D t0 m).set d r.v | none=>bm ops rs D t0 m:=by
 apply List.ext_getElem?;intro x;have QM:∀ i,i≠j→D' i=D i:=fun i hi=>by rw [Ao i]; simp [hi]
 cases hd:bV ops j with
 | none =>
  dsimp only
  refine yu ha ak (fun i hi gm=>QM i (fun e=>?_))
  subst e; rw [hd] at gm; cases gm
 | some d =>
  dsimp only
  by_cases e:d=x
  ·subst e;have hl:=ak j d hj hd;rw [List.getElem?_set_self (by rw [rM]; exact hl)]
   exact ub D' hd hr (by rw [Ao j]; simp) hl m hj ha
  ·rw [List.getElem?_set_ne e];refine yu ha ak (fun i hi gm=>QM i (fun e'=>?_))
   subst e'; rw [hd] at gm; cases gm; exact e rfl
theorem rP {D:Nat→Bool} {m i:Nat} {b:ai}:(kV rs D m)[i]?=some (some b)↔i < m∧D i=true∧(rs[i]?).bind (·.nb)=some b:=by
 unfold kV;rw [List.getElem?_map];by_cases h:i < m
 ·simp only [List.getElem?_range h,Option.map_some,Option.some.injEq];cases D i <;> simp [h]
 ·rw [List.getElem?_eq_none (by simp; omega)]
  simp [h]
theorem Ky (D:Nat→Bool) (m:Nat):(kV rs D m).length=m:=by simp [kV]
end
def mB:Op→Bool
 | .move _=>true
 | .extract _ _=>true
 | .binOp _ _ _ _ _=>true
 | .slice _ _ _ _ _=>true
 | _=>false
def mC:Op→Bool
 | .load _ _=>true
 | .indexAddr _ _ _=>true
 | .call c=>match c.callee with
  | .builtin .len=>true
  | _=>false
 | _=>false
structure o6 (P:Program) (ops:List Oper) (t0:List Value) (H:aA) (aV:List (List Nat)) (rs:List dr) (j:Nat):Prop where
 ok:∃ o r,ops[j]?=some o∧rs[j]?=some r∧(∀ d,o.dst=some d→d < t0.length) ∧
  ((∃ G:aA,(∀ id b,G[id]?=some (some b)→(id < H.length∧H[id]?=some (some b))∨(∃ i,id=H.length+i∧i < j∧i∈aV.getD j []∧(rs[i]?).bind (·.nb)=some b)) ∧
    (∀ (ν:Nu) (a:Act) (w:World) (q:Option Nat) (n:Nat),(∀ x∈o.op.operands,fC ν (bm ops rs (fun i=>decide (i < j)) t0 j) a x)→bU ν G w→ν (H.length+j)=none →
     ∀ next Q,(∀ v' w' aj,nz ν aj (H.length+j) w w' r.v v' r.nb→next (a.put o.dst v') w')→o.wpIn (WF q) n P a w next Q) ∧
    (o.guard=none∨∃ g want d b,o.guard=some (g,want)∧bV ops g=some d∧(bm ops rs (fun i=>decide (i < j)) t0 j)[d]?=some (.bool b)∧(b == want)=true)) ∨
    (r.v=undef∧r.nb=none∧∃ g want d v,o.guard=some (g,want)∧bV ops g=some d∧(bm ops rs (fun i=>decide (i < j)) t0 j)[d]?=some v∧((∃ b,v=.bool b∧(b == want)=false)∨∃ vs,v=.tuple vs)))
 mv:∀ o,ops[j]?=some o→(mB o.op || mC o.op)=true→o.guard=none→∃ r,rs[j]?=some r∧r.nb=none∧∃ G:aA,(∀ id b,G[id]?=some (some b)→(id < H.length∧H[id]?=some (some b))∨(∃ i,id=H.length+i∧i < j∧i∈aV.getD j []∧(rs[i]?).bind (·.nb)=some b)) ∧
  (mB o.op=true→∀ (bz:Nu) (w0:World),bU bz G w0→qB P bz o.op (bm ops rs (fun i=>decide (i < j)) t0 j) r.v)∧(mC o.op=true→∀ bz,oc P bz G o.op (bm ops rs (fun i=>decide (i < j)) t0 j) r.v)
theorem Ta {P:Program} {E:Env} (hE:EnvOk P E) {op:Op} {tmps:List Value} {H:aA} {aK:Nat} {k:QK} (h:lB E op tmps H aK k) :
  ∃ v nb,k v nb∧(∀ (o:Oper) (ν:Nu) (a:Act) (w:World) (r:Option Nat) (n:Nat),o.op=op→(∀ x∈op.operands,fC ν tmps a x)→bU ν H w→ν aK=none →
   ∀ next Q,(∀ v' w' aj,nz ν aj aK w w' v v' nb→next (a.put o.dst v') w')→o.wpIn (WF r) n P a w next Q) ∧
   (mB op=true→nb=none∧∀ (bz:Nu) (w0:World),bU bz H w0→qB P bz op tmps v)∧(mC op=true→nb=none∧∀ bz,oc P bz H op tmps v):=by
 have mk:mC op=false→∀ v,k v none→(∀ (bz:Nu) (w0:World),bU bz H w0→qB P bz op tmps v)→∃ v nb,k v nb∧(∀ (o:Oper) (ν:Nu) (a:Act) (w:World) (r:Option Nat) (n:Nat),o.op=op→(∀ x∈op.operands,fC ν tmps a x)→bU ν H w→ν aK=none →
   ∀ next Q,(∀ v' w' aj,nz ν aj aK w w' v v' nb→next (a.put o.dst v') w')→o.wpIn (WF r) n P a w next Q) ∧
   (mB op=true→nb=none∧∀ (bz:Nu) (w0:World),bU bz H w0→qB P bz op tmps v)∧(mC op=true→nb=none∧∀ bz,oc P bz H op tmps v):=by
  intro rm v hk hp;refine ⟨v,none,hk,fun o ν a w r n ho ha hH hn next Q hN=>?_,fun _=>⟨rfl,hp⟩,fun h=>by rw [rm] at h; cases h⟩
  obtain ⟨u,k1,k2⟩:=(hp ν w hH).2 o ν a w ν.le_refl ho ha;exact jP (v':=u) (w':=w) (by rw [ho]; exact (hp ν w hH).1) k2 next Q (hN _ _ ν ⟨ν.le_refl,fun _ _=>rfl,k1,Below.refl _ _,fun _=>rfl,(fun b hb=>by cases hb)⟩)
 by_cases hp:mB op=true
 ·cases op with
  | move x =>
   have h':CO tmps x k:=h;obtain ⟨v,hk,hv⟩:=c9 h';exact mk rfl v hk fun bz w0 _=>⟨by simp,fun o ν a w hle ho ha=>⟨a.eval x,hv ν a (ha x (by simp [Op.operands])),by simp [execOp,ho]⟩⟩
  | extract x i =>
   have h':FJ tmps x i k:=h;obtain ⟨v0,h',hv⟩:=c9 h'
   split at h'
   ·rename_i vs;obtain ⟨u,h1,J⟩:=oS h';refine mk rfl u J fun bz w0 _=>⟨by simp,fun o ν a w hle ho ha=>?_⟩
    obtain ⟨ys,he,hy⟩:=au.n6 (xs:=vs.toList) (hv ν a (ha x (by simp [Op.operands])))
    obtain ⟨u',h3,h4⟩:=hy.get h1;exact ⟨u',h4,by simp [execOp,ho,he,Instr.extract,h3]⟩
   ·exact h'.elim
  | binOp op t x y ty =>
   have h':Dd E.tt E.eqs tmps op t x y k:=h;obtain ⟨v,hk,hv⟩:=Lb hE.ty hE.eq (ty:=ty) h';exact mk rfl v hk fun bz _ _=>hv bz
  | slice t x lo hi mx =>
   obtain ⟨v,hk,hv⟩:=Ks hE.ty h;exact mk rfl v hk hv
  | _=>cases hp
 ·have hv:sS P op tmps H k→∃ v nb,k v nb∧(∀ (o:Oper) (ν:Nu) (a:Act) (w:World) (r:Option Nat) (n:Nat),o.op=op→(∀ x∈op.operands,fC ν tmps a x)→bU ν H w→ν aK=none →
   ∀ next Q,(∀ v' w' aj,nz ν aj aK w w' v v' nb→next (a.put o.dst v') w')→o.wpIn (WF r) n P a w next Q) ∧
   (mB op=true→nb=none∧∀ (bz:Nu) (w0:World),bU bz H w0→qB P bz op tmps v)∧(mC op=true→nb=none∧∀ bz,oc P bz H op tmps v):=fun ⟨v,hk,hv⟩ =>
   ⟨v,none,hk,fun o ν a w r n ho ha hH hn next Q hN=>by
    obtain ⟨u,k1,k2⟩:=(hv ν).2 o ν a w ν.le_refl ho ha hH;exact jP (v':=u) (w':=w) (by rw [ho]; exact (hv ν).1) k2 next Q (hN _ _ ν ⟨ν.le_refl,fun _ _=>rfl,k1,Below.refl _ _,fun _=>rfl,(fun b hb=>by cases hb)⟩),fun h=>absurd h hp,fun _=>⟨rfl,hv⟩⟩
  by_cases hh:mC op=true
  ·cases op with
   | load t x=>exact hv (NC hE.ty h)
   | indexAddr t x i=>exact hv (Kt hE.ty h)
   | call c =>
    cases hc:c.callee with
    | builtin b =>
     cases b with
     | len =>
      unfold lB at h;simp only [hc] at h
      split at h
      ·rename_i x t hx ht;exact hv (Ou hE.ty hc (Array.ext' hx) (Array.ext' ht) h)
      ·exact h.elim
     | _=>simp [mC,hc] at hh
    | _=>simp [mC,hc] at hh
   | _=>cases hh
  ·obtain ⟨v,nb,hk,hq⟩:=Bt (P:=P) hE h;exact ⟨v,nb,hk,hq,fun h=>absurd h hp,fun h=>absurd h hh⟩
theorem v8:∀ {S:List (Option ai)} {i:Nat} {mask:List Nat} {k:List (Option ai)→Prop},lR S i mask k→∃ S',k S'∧S'.length=S.length∧∀ j b,S'[j]?=some (some b)→S[j]?=some (some b)∧(i+j)∈mask
 | [],i,mask,k,h=>⟨[],by simpa [lR] using h,rfl,fun j b hb=>by simp at hb⟩
 | c::S,i,[],k,h=>by
  obtain ⟨S',h1,J,h3⟩:=v8 (S:=S) (i:=i+1) (mask:=[]) (by simpa [lR] using h)
  refine ⟨none::S',h1,by simp [J],fun j b hb=>?_⟩
  cases j with
  | zero=>simp at hb
  | succ j=>have:=h3 j b (by simpa using hb); simp at this
 | c::S,i,m::ms,k,h=>by
  unfold lR at h
  dsimp only at h
  split at h
  ·rename_i e;have e:=Nat.eq_of_beq_eq_true e;obtain ⟨S',h1,J,h3⟩:=v8 (S:=S) h;refine ⟨c::S',h1,by simp [J],fun j b hb=>?_⟩
   cases j with
   | zero=>simp at hb; subst hb; exact ⟨by simp,by simp [e]⟩
   | succ j =>
    obtain ⟨k1,k2⟩:=h3 j b (by simpa using hb)
    exact ⟨by simpa using k1,by rw [show i+(j+1)=i+1+j by omega]; simp [k2]⟩
  ·obtain ⟨S',h1,J,h3⟩:=v8 (S:=S) h;refine ⟨none::S',h1,by simp [J],fun j b hb=>?_⟩
   cases j with
   | zero=>simp at hb
   | succ j =>
    obtain ⟨k1,k2⟩:=h3 j b (by simpa using hb)
    exact ⟨by simpa using k1,by rw [show i+(j+1)=i+1+j by omega]; exact k2⟩
theorem EY {ops:List Oper} {rs:List dr} {D:Nat→Bool} {t0:List Value} {m:Nat}:bm ops rs D t0 (m+1)=(match D m,bV ops m,rs[m]? with
  | true,some d,some r=>(bm ops rs D t0 m).set d r.v
  | _,_,_=>bm ops rs D t0 m):=rfl
theorem tN {ops:List Oper} {rs ck:List dr} {D:Nat→Bool} {t0:List Value}:∀ {m:Nat},(∀ i,i < m→rs[i]?=ck[i]?)→bm ops rs D t0 m=bm ops ck D t0 m
 | 0,_=>rfl
 | m+1,h=>by
  unfold bm;rw [h m (by omega),tN (m:=m) (fun i hi=>h i (by omega))]
theorem yf {ops:List Oper} {rs:List dr} {D D':Nat→Bool} {t0:List Value}:∀ {m:Nat},(∀ i,i < m→D i=D' i)→bm ops rs D t0 m=bm ops rs D' t0 m
 | 0,_=>rfl
 | m+1,h=>by
  unfold bm;rw [h m (by omega),yf (m:=m) (fun i hi=>h i (by omega))]
theorem wj {ops:List Oper} {rs:List dr} {D:Nat→Bool} {t0:List Value} {j:Nat}:∀ {m:Nat},j≤m→(∀ i,j≤i→i < m→D i=false)→bm ops rs D t0 m=bm ops rs D t0 j
 | 0,h,_=>by rw [Nat.le_zero.1 h]
 | m+1,h,hD=>by
  by_cases e:j=m+1
  ·rw [e]
  ·rw [EY,hD m (by omega) (by omega)]
   exact wj (m:=m) (by omega) (fun i h1 J=>hD i h1 (by omega))
theorem o6.more {P:Program} {ops:List Oper} {t0:List Value} {H:aA} {aV:List (List Nat)} {rs:List dr} {j:Nat} (h:o6 P ops t0 H aV rs j) (hj:j < rs.length) (r:dr):o6 P ops t0 H aV (rs++[r]) j:=by
 have he:∀ i,i≤j→(rs++[r])[i]?=rs[i]?:=fun i hi=>by rw [List.getElem?_append_left (by omega)]
 have hv:∀ D,bm ops (rs++[r]) D t0 j=bm ops rs D t0 j:=fun D=>tN (fun i hi=>he i (by omega))
 obtain ⟨o,q,h1,J,h3,h4⟩:=h.ok;refine ⟨⟨o,q,h1,by rw [he j (Nat.le_refl _)]; exact J,h3,?_⟩,fun o ho hx hg=>?_⟩
 rotate_left
 ·obtain ⟨r',k1,k2,k3⟩:=h.mv o ho hx hg;obtain ⟨G,g1,g2⟩:=k3;exact ⟨r',by rw [he j (Nat.le_refl _)]; exact k1,k2,G,fun id b hb=>(g1 id b hb).imp (fun x=>x) (fun ⟨i,q1,q2,q3,q4⟩=>⟨i,q1,q2,q3,by rw [he i (by omega)]; exact q4⟩),by rw [hv]; exact g2⟩
 rw [hv];rcases h4 with ⟨G,g1,g2,g3⟩ | h4
 ·exact .inl ⟨G,fun id b hb=>(g1 id b hb).imp (fun x=>x) (fun ⟨i,k1,k2,k3,k4⟩=>⟨i,k1,k2,k3,by rw [he i (by omega)]; exact k4⟩),g2,g3⟩
 ·exact .inr h4
theorem Fo {P:Program} {E:Env} (hE:EnvOk P E) {ops:List Oper} {t0:List Value} {H:aA} {aV:List (List Nat)} {k:List Value→List (Option ai)→Prop} :
  ∀ {l:List Oper} {ms:List (List Nat)} {j:Nat} {rs:List dr},rs.length=j→(∀ (i:Nat) o,l[i]?=some o→ops[j+i]?=some o)→(∀ i,i < l.length→ms.getD i []=aV.getD (j+i) []) →
  (∀ i,i < j→o6 P ops t0 H aV rs i)→lS E ops H H.length l ms j (bm ops rs (fun i=>decide (i < j)) t0 j) (rs.map (·.nb)) k →
  ∃ ck:List dr,ck.length=j+l.length∧(∀ i,i < j+l.length→o6 P ops t0 H aV ck i)∧k (bm ops ck (fun i=>decide (i < j+l.length)) t0 (j+l.length)) (ck.map (·.nb))
 | [],ms,j,rs,hl,_,_,a9,h=>⟨rs,hl,a9,h⟩
 | o::l,[],j,rs,hl,_,_,a9,h=>h.elim
 | o::l,mask::ms,j,rs,hl,ho,hm,a9,h=>by
  have oA:ops[j]?=some o:=by have:=ho 0 o rfl; simpa using this
  have CX:mask=aV.getD j []:=by have:=hm 0 (by simp); simpa using this
  -- the next step, whatever this one's result
  have next:∀ (r:dr) t',(t'=match o.dst with | some d=>(bm ops rs (fun i=>decide (i < j)) t0 j).set d r.v | none=>bm ops rs (fun i=>decide (i < j)) t0 j) →
    (o6 P ops t0 H aV (rs++[r]) j)→lS E ops H H.length l ms (j+1) t' (rs.map (·.nb)++[r.nb]) k →
    ∃ ck:List dr,ck.length=j+(o::l).length∧(∀ i,i < j+(o::l).length→o6 P ops t0 H aV ck i)∧k (bm ops ck (fun i=>decide (i < j+(o::l).length)) t0 (j+(o::l).length)) (ck.map (·.nb)):=by
   intro r t' jK hj h';have hv:bm ops (rs++[r]) (fun i=>decide (i < j+1)) t0 (j+1)=t':=by
    have hr:(rs++[r])[j]?=some r:=by rw [← hl]; simp
    have hd:bV ops j=o.dst:=by simp [bV,oA]
    have zB:bm ops (rs++[r]) (fun i=>decide (i < j+1)) t0 j=bm ops rs (fun i=>decide (i < j)) t0 j:=by
     rw [tN (ck:=rs) (fun i hi=>by rw [List.getElem?_append_left (by omega)])]
     exact yf (fun i hi=>by simp; omega)
    have Ip:decide (j < j+1)=true:=by simp
    rw [jK,EY,hr,hd,zB,Ip];cases o.dst <;> rfl
   rw [← hv] at h';have h'':lS E ops H H.length l ms (j+1) (bm ops (rs++[r]) (fun i=>decide (i < j+1)) t0 (j+1)) ((rs++[r]).map (·.nb)) k:=by simpa using h'
   obtain ⟨ck,k1,k2,k3⟩:=Fo hE (l:=l) (ms:=ms) (j:=j+1) (rs:=rs++[r]) (by simp [hl]) (fun i p hp=>by have:=ho (i+1) p (by simpa using hp); rwa [show j+1+i=j+(i+1) by omega])
    (fun i hi=>by have:=hm (i+1) (by simp; omega); rw [show j+1+i=j+(i+1) by omega]; simpa using this)
    (fun i hi=>by
     by_cases e:i=j
     ·subst e; exact hj
     ·exact (a9 i (by omega)).more (by omega) r) h''
   have e:j+1+l.length=j+(o::l).length:=by simp; omega
   rw [e] at k1 k2 k3;exact ⟨ck,k1,k2,k3⟩
  have oB:∀ r:dr,bm ops (rs++[r]) (fun i=>decide (i < j)) t0 j=bm ops rs (fun i=>decide (i < j)) t0 j:=fun r=>tN (fun i hi=>by rw [List.getElem?_append_left (by omega)])
  have tA:∀ r:dr,(rs++[r])[j]?=some r:=fun r=>by rw [← hl]; simp
  have run:(o.guard=none∨∃ g want d b,o.guard=some (g,want)∧bV ops g=some d∧(bm ops rs (fun i=>decide (i < j)) t0 j)[d]?=some (.bool b)∧(b == want)=true) →
    (lR (rs.map (·.nb)) 0 mask fun Sm=>nU H Sm fun G=>lB E o.op (bm ops rs (fun i=>decide (i < j)) t0 j) G (H.length+j) fun v nb=>dD (bm ops rs (fun i=>decide (i < j)) t0 j) o.dst v fun t'=>jy (rs.map (·.nb)) nb fun S'=>lS E ops H H.length l ms (j+1) t' S' k) →
    ∃ ck:List dr,ck.length=j+(o::l).length∧(∀ i,i < j+(o::l).length→o6 P ops t0 H aV ck i)∧k (bm ops ck (fun i=>decide (i < j+(o::l).length)) t0 (j+(o::l).length)) (ck.map (·.nb)):=by
   intro hg h;obtain ⟨Sm,h1,J,h3⟩:=v8 h;have h1:=ua h1;obtain ⟨v,nb,hk,hq,xU⟩:=Ta (P:=P) hE h1;have l6:∃ t',(t'=match o.dst with | some d=>(bm ops rs (fun i=>decide (i < j)) t0 j).set d v | none=>bm ops rs (fun i=>decide (i < j)) t0 j)∧(∀ d,o.dst=some d→d < t0.length)∧(jy (rs.map (·.nb)) nb fun S'=>lS E ops H H.length l ms (j+1) t' S' k):=by
    cases hd:o.dst with
    | none=>rw [hd] at hk; exact ⟨_,rfl,(fun d hd=>by cases hd),hk⟩
    | some d =>
     rw [hd] at hk;obtain ⟨k1,k2⟩:=oT hk;rw [rM] at k1;exact ⟨_,rfl,(fun d' dh=>by cases dh; exact k1),k2⟩
   obtain ⟨t',e1,e2,e3⟩:=l6;refine next ⟨v,nb,true⟩ t' e1 ⟨⟨o,⟨v,nb,true⟩,oA,tA _,e2,.inl ⟨H++Sm,fun id b hb=>?_,?_,?_⟩⟩,fun p hp hx QN=>?_⟩ (tR e3)
   rotate_right
   ·rw [oA] at hp; cases hp;have k1:nb=none:=by
     rcases Bool.or_eq_true_iff.1 hx with hx | hx
     ·exact (xU.1 hx).1
     ·exact (xU.2 hx).1
    refine ⟨_,tA _,k1,H++Sm,fun id b hb=>?_,fun hx=>by rw [oB]; exact (xU.1 hx).2,fun hx=>by rw [oB]; exact (xU.2 hx).2⟩
    rw [List.getElem?_append] at hb
    split at hb
    ·exact .inl ⟨by assumption,hb⟩
    ·rename_i eY;obtain ⟨q1,q2⟩:=h3 _ b hb;have ak:id - H.length < rs.length:=by
      have:=(List.getElem?_eq_some_iff.1 q1).1
      simpa using this
     refine .inr ⟨id - H.length,by omega,by omega,by rw [← CX]; simpa using q2,?_⟩
     rw [List.getElem?_append_left ak];rw [List.getElem?_map] at q1;cases hr:rs[id - H.length]? with
     | none=>rw [hr] at q1; cases q1
     | some r=>rw [hr] at q1; simpa using q1
   ·rw [List.getElem?_append] at hb
    split at hb
    ·exact .inl ⟨by assumption,hb⟩
    ·rename_i eY;obtain ⟨q1,q2⟩:=h3 _ b hb;have ak:id - H.length < rs.length:=by
      have:=(List.getElem?_eq_some_iff.1 q1).1
      simpa using this
     refine .inr ⟨id - H.length,by omega,by omega,by rw [← CX]; simpa using q2,?_⟩
     rw [List.getElem?_append_left ak];rw [List.getElem?_map] at q1;cases hr:rs[id - H.length]? with
     | none=>rw [hr] at q1; cases q1
     | some r=>rw [hr] at q1; simpa using q1
   ·rw [oB];exact fun ν a w q n ha hH hn next Q hN=>hq o ν a w q n rfl ha hH hn next Q hN
   ·rw [oB]; exact hg
  have skip:(∃ g want d v,o.guard=some (g,want)∧bV ops g=some d∧(bm ops rs (fun i=>decide (i < j)) t0 j)[d]?=some v∧((∃ b,v=.bool b∧(b == want)=false)∨∃ vs,v=.tuple vs)) →
    (dD (bm ops rs (fun i=>decide (i < j)) t0 j) o.dst undef fun t'=>jy (rs.map (·.nb)) none fun S'=>lS E ops H H.length l ms (j+1) t' S' k) →
    ∃ ck:List dr,ck.length=j+(o::l).length∧(∀ i,i < j+(o::l).length→o6 P ops t0 H aV ck i)∧k (bm ops ck (fun i=>decide (i < j+(o::l).length)) t0 (j+(o::l).length)) (ck.map (·.nb)):=by
   intro hg hk;have l6:∃ t',(t'=match o.dst with | some d=>(bm ops rs (fun i=>decide (i < j)) t0 j).set d undef | none=>bm ops rs (fun i=>decide (i < j)) t0 j)∧(∀ d,o.dst=some d→d < t0.length)∧(jy (rs.map (·.nb)) none fun S'=>lS E ops H H.length l ms (j+1) t' S' k):=by
    cases hd:o.dst with
    | none=>rw [hd] at hk; exact ⟨_,rfl,(fun d hd=>by cases hd),hk⟩
    | some d =>
     rw [hd] at hk;obtain ⟨k1,k2⟩:=oT hk;rw [rM] at k1;exact ⟨_,rfl,(fun d' dh=>by cases dh; exact k1),k2⟩
   obtain ⟨t',e1,e2,e3⟩:=l6;refine next ⟨undef,none,false⟩ t' e1 ⟨⟨o,⟨undef,none,false⟩,oA,tA _,e2,.inr ⟨rfl,rfl,by rw [oB]; exact hg⟩⟩,fun p hp hx QN=>?_⟩ (tR e3)
   rw [oA] at hp; cases hp;obtain ⟨g,want,d,v,k1,_⟩:=hg;rw [QN] at k1; cases k1
  unfold lS at h
  split at h
  ·exact run (.inl (by assumption)) h
  ·rename_i g want hg
   split at h
   ·rename_i d hd;obtain ⟨v,hv,h⟩:=oS h
    split at h
    ·rename_i b;cases hb:(b == want) with
     | true=>exact run (.inr ⟨g,want,d,b,hg,hd,hv,hb⟩) (B6 h hb)
     | false=>exact skip ⟨g,want,d,_,hg,hd,hv,.inl ⟨b,rfl,hb⟩⟩ (BJ h hb)
    ·exact skip ⟨g,want,d,_,hg,hd,hv,.inr ⟨_,rfl⟩⟩ h
    ·exact h.elim
   ·exact h.elim
open Go Go.RowKit
structure Order (ops:List Oper) (aV:List (List Nat)):Prop where
 mask:∀ j o,ops[j]?=some o→∀ i∈aV.getD j [],i < j∧∃ e∈o.after,Region.binds .any e=true∧(e.on=i∨(i∈aV.getD e.on []∧e.on < j))
 back:∀ j o,ops[j]?=some o→∀ e∈o.after,Region.binds .any e=true→e.on < j
structure ZV (ops:List Oper) (m:Nat) (aV:List (List Nat)):Prop extends Order ops aV where
 le:m≤ops.length
 apart:∀ j o i p d,j < m→i < m→i≠j→ops[j]?=some o→ops[i]?=some p→p.dst=some d→o.dst≠some d∧(d ∉ jt ops o∨i∈aV.getD j []∨j∈aV.getD i [])
 tail:∀ j,j < ops.length→m≤j→∀ i,i < j→i∈aV.getD j []
theorem KT {ops:List Oper} {m:Nat} {aV:List (List Nat)} (h:Cx ops m aV=true):ZV ops m aV:=by
 unfold Cx at h;simp only [Bool.and_eq_true,decide_eq_true_eq] at h;obtain ⟨⟨⟨⟨h1,J⟩,h3⟩,h4⟩,h5⟩:=h;have lt:∀ {j:Nat} {o:Oper},ops[j]?=some o→j∈List.range ops.length:=fun hj=>List.mem_range.2 (List.getElem?_eq_some_iff.1 hj).1
 refine ⟨⟨fun j o hj i hi=>?_,fun j o hj e he hb=>?_⟩,h1,fun j o i p d hj hi aN ho hp hd=>?_,fun j hj hm i hi=>?_⟩
 ·unfold Cb at J;have:=List.all_eq_true.1 J j (lt hj);rw [hj] at this;have:=List.all_eq_true.1 this i hi;simp only [Bool.and_eq_true,decide_eq_true_eq,List.any_eq_true,Bool.or_eq_true,beq_iff_eq,List.contains_iff_mem] at this;obtain ⟨k1,e,k2,k3,k4⟩:=this;exact ⟨k1,e,by simpa using k2,k3,k4⟩
 ·have:=List.all_eq_true.1 h3 j (lt hj);rw [hj] at this;have:=List.all_eq_true.1 this e (by simpa using he)
  simp only [hb,Bool.not_true,Bool.false_or,decide_eq_true_eq] at this;exact this
 ·have:=List.all_eq_true.1 h4 j (List.mem_range.2 hj);rw [ho] at this;have:=List.all_eq_true.1 this i (List.mem_range.2 hi);rw [hp] at this;have hb:(i == j)=false:=by simp [aN]
  rw [hb,Bool.false_or] at this
  dsimp only at this
  rw [hd] at this;simp only [Bool.and_eq_true,bne_iff_ne,Bool.or_eq_true,Bool.not_eq_true',List.contains_iff_mem,or_assoc] at this;refine ⟨this.1,this.2.imp (fun k=>?_) (fun k=>k)⟩
  intro gY;rw [List.contains_iff_mem.2 gY] at k;cases k
 ·have:=List.all_eq_true.1 h5 j (List.mem_range.2 hj);simp only [Bool.or_eq_true,decide_eq_true_eq,List.all_eq_true,List.mem_range,List.contains_iff_mem] at this;rcases this with h | h
  ·omega
  ·exact h i hi
def DB (aE:Array Bool):Nat→Bool:=fun i=>aE.getD i false
theorem Cy {aE:Array Bool} {j:Nat} (hj:j < aE.size) (i:Nat):DB (aE.setIfInBounds j true) i=(DB aE i || i == j):=by
 unfold DB;by_cases e:j=i
 ·subst e; simp [hj]
 ·rw [getD_set_ne false e];have:(i == j)=false:=by simp; exact fun h=>e h.symm
  rw [this,Bool.or_false]
theorem ug {aE:Array Bool} {i:Nat} (hi:i < aE.size) (d:Bool):aE.getD i d=DB aE i:=by
 unfold DB; simp [hi]
def o7 (ops:List Oper) (D:Nat→Bool):Prop:=∀ j o,D j=true→ops[j]?=some o→∀ e∈o.after,Region.binds .any e=true→D e.on=true
theorem tO {ops:List Oper} {aV:List (List Nat)} (hc:Order ops aV) {D:Nat→Bool} (hD:o7 ops D):∀ (j:Nat) o,ops[j]?=some o→(∀ e∈o.after,Region.binds .any e=true→D e.on=true)→∀ i∈aV.getD j [],D i=true:=by
 intro j
 induction j using Nat.strongRecOn with
 | _ j ih =>
  intro o ho he i hi;obtain ⟨_,e,h1,J,h3⟩:=hc.mask j o ho i hi;rcases h3 with rfl | ⟨h3,h4⟩
  ·exact he e h1 J
  ·have kE:=he e h1 J;cases oC:ops[e.on]? with
   | none=>rw [List.getElem?_eq_none_iff] at oC; have:=(List.getElem?_eq_some_iff.1 ho).1; omega
   | some p=>exact ih e.on h4 p oC (hD e.on p kE oC) i h3
def gE (D:Nat→Bool) (n:Nat):Nat:=((List.range n).filter fun i=>!D i).length
theorem Bc (D:Nat→Bool) (n:Nat):gE D (n+1)=gE D n+if D n then 0 else 1:=by
 unfold gE;rw [List.range_succ,List.filter_append,List.length_append];cases hd:D n <;> simp [hd]
theorem Bo {D D':Nat→Bool} {j:Nat} (h:∀ i,D' i=(D i || i == j)) (hj:D j=false):∀ n,gE D' n+(if j < n then 1 else 0)=gE D n
 | 0=>by simp [gE]
 | n+1=>by
  have ih:=Bo h hj n;rw [Bc,Bc,h n];by_cases e:n=j
  ·subst e;simp only [Nat.lt_irrefl,if_false,Nat.add_zero] at ih;rw [hj]; simp; omega
  ·have:(n == j)=false:=by simp [e]
   rw [this,Bool.or_false];by_cases ak:j < n
   ·have e1:(if j < n+1 then 1 else 0)=1:=if_pos (by omega)
    rw [if_pos ak] at ih; rw [e1]; generalize (if D n=true then 0 else 1)=z; omega
   ·have e1:(if j < n+1 then 1 else 0)=0:=if_neg (by omega)
    rw [if_neg ak] at ih; rw [e1]; generalize (if D n=true then 0 else 1)=z; omega
theorem EZ {D:Nat→Bool} {n i:Nat} (hi:i < n) (hD:D i=false):0 < gE D n:=by
 unfold gE;exact List.length_pos_of_mem (List.mem_filter.2 ⟨List.mem_range.2 hi,by simp [hD]⟩)
theorem A2 {ops:List Oper} {o:Oper} {g:Nat} {want:Bool} {d:Tmp} (hg:o.guard=some (g,want)) (hd:bV ops g=some d):d∈jt ops o:=by
 have dh:(ops[g]?).bind (fun x=>x.dst)=some d:=hd
 unfold jt;refine List.mem_append_right _ ?_;rw [hg]
 dsimp only
 rw [dh];simp
section
variable {P:Program} {E:Env} {r:Option Nat} {n:Nat} {F:Fr} {ops:Array Oper} {Q:Exit→Act→World→Prop} {m:Nat} {aV:List (List Nat)} {k:SK}
theorem Bd (hc:Order ops.toList aV) {aE:Array Bool} (hs:aE.size=ops.size) {j:Nat} (hj:j < ops.size) (h0:DB aE j=false) (h1:∀ i,i < j→DB aE i=true):j∈Region.ready .any ops aE:=by
 rw [mem_ready];refine ⟨by rw [ug (by omega)]; exact h0,ops[j],Array.getElem?_eq_getElem hj,fun e he hb=>?_⟩
 exact h1 _ (hc.back j ops[j] (by simp [hj]) e he hb)
theorem Fp (hE:j4 P E) (bQ:lC F E) (hc:Order ops.toList aV) (acr:∀ j,j < ops.toList.length→m≤j→∀ i,i < j→i∈aV.getD j []) (hk:∀ ν t' H' a' w',bD F ν t' H' a' w'→k t' H'→Q .normal a' w') :
  ∀ (fuel:Nat) (aE:Array Bool) (j0:Nat) (ν:Nu) (t:List Value) (H:aA) (a:Act) (w:World),aE.size=ops.size→(∀ i,DB aE i=decide (i < j0))→m≤j0→j0≤ops.size →
  bD F ν t H a w→nK E ops.toList (ops.toList.drop j0) t H k→ops.size≤j0+fuel→wpAnyIn (WF r) n P .any ops Q fuel aE a w:=by
 intro fuel
 induction fuel with
 | zero =>
  intro aE j0 ν t H a w hs hD hm hle hi h hf;have e:j0=ops.size:=by omega
  subst e;rw [List.drop_eq_nil_of_le (by simp)] at h
  refine ⟨?_,hk _ _ _ _ _ hi h⟩;rw [List.eq_nil_iff_forall_not_mem];intro j hj;rw [mem_ready] at hj;obtain ⟨h1,o,ho,_⟩:=hj;have ak:j < ops.size:=(Array.getElem?_eq_some_iff.1 ho).1;rw [ug (by omega),hD j] at h1
  simp at h1; omega
 | succ fuel ih =>
  intro aE j0 ν t H a w hs hD hm hle hi h hf;by_cases e:j0=ops.size
  ·subst e;rw [List.drop_eq_nil_of_le (by simp)] at h
   refine ⟨fun _=>hk _ _ _ _ _ hi h,fun j hj=>?_⟩
   rw [mem_ready] at hj;obtain ⟨h1,o,ho,_⟩:=hj;have ak:j < ops.size:=(Array.getElem?_eq_some_iff.1 ho).1;rw [ug (by omega),hD j] at h1
   simp at h1; omega
  ·have ak:j0 < ops.size:=by omega
   have hr:=Bd hc hs ak (by rw [hD]; simp) (fun i hi=>by rw [hD]; simpa using hi)
   refine ⟨fun hn=>?_,fun j hj=>?_⟩
   ·rw [hn] at hr; cases hr
   ·rw [mem_ready] at hj;obtain ⟨h1,o,ho,he⟩:=hj;have nV:j < ops.size:=(Array.getElem?_eq_some_iff.1 ho).1;rw [ug (by omega),hD j] at h1
    have eY:j0≤j:=by simpa using h1
    have gn:ops.toList[j]?=some o:=by simpa using ho
    have kJ:j=j0:=by
     rcases Nat.lt_or_ge j0 j with qS | aeW
     ·have gY:=acr j (by simpa using nV) (by omega) j0 qS
      have fk:o7 ops.toList (DB aE):=fun i p aS hp e' gp bE=>by
       rw [hD] at aS ⊢;have:=hc.back i p hp e' gp bE;simp at aS ⊢; omega
      have:=tO hc fk j o gn (fun e' gp bE=>he e' gp bE) j0 gY
      rw [hD] at this; simp at this
     ·omega
    subst kJ;have HF:ops.toList.drop j=o::ops.toList.drop (j+1):=by
     rw [List.drop_eq_getElem_cons (by simpa using nV)]
     congr 1
     have:=List.getElem?_eq_getElem (l:=ops.toList) (i:=j) (by simpa using nV)
     rw [gn] at this; exact (Option.some.inj this).symm
    rw [HF] at h;unfold wpOpIn;rw [ho];refine EX hE bQ hi (Me h) (fun ν t' H' a' w' aS h'=>?_)
    refine ih _ (j+1) ν t' H' a' w' (by simp [hs]) (fun i=>?_) (by omega) (by omega) aS h' (by omega)
    rw [Cy (by omega),hD i]
    by_cases e':i=j
    ·subst e'; simp
    ·have:(i == j)=false:=by simp [e']
     rw [this,Bool.or_false];simp; omega
theorem Ex {D:Nat→Bool} {m:Nat} (hD:∀ i,D i=decide (i < m)):∀ q,m≤q→gE D q=q - m:=by
 intro q
 induction q with
 | zero=>intro h; simp [gE]
 | succ q ihq =>
  intro h;rw [Bc,hD q];by_cases e:m=q+1
  ·subst e;have:∀ q',q'≤q+1→gE D q'=0:=by
    intro q'
    induction q' with
    | zero=>intro _; simp [gE]
    | succ q' ih'=>intro h'; rw [Bc,ih' (by omega),hD q']; simp; omega
   rw [this q (by omega)]; simp
  ·rw [ihq (by omega)]
   have:¬ (q < m):=by omega
   simp [this]; omega
theorem Ey {D:Nat→Bool} {i:Nat} (h:D i=false):∃ j,j≤i∧D j=false∧∀ q,q < j→D q=true:=by
 induction i using Nat.strongRecOn with
 | _ i ihi =>
  by_cases dp:∀ j,j < i→D j=true
  ·exact ⟨i,Nat.le_refl _,h,dp⟩
  ·have:∃ j,j < i∧D j=false:=by
    refine Classical.byContradiction fun aN=>dp fun j hj=>?_
    cases hd:D j with
    | true=>rfl
    | false=>exact absurd ⟨j,hj,hd⟩ aN
   obtain ⟨j,h3,h4⟩:=this;obtain ⟨q,k1,k2,k3⟩:=ihi j h3 h4;exact ⟨q,by omega,k2,k3⟩
theorem Mh (hc:Order ops.toList aV) (uK:m≤ops.size)
  (y6:∀ j o i p d,j < m→i < m→i≠j→ops.toList[j]?=some o→ops.toList[i]?=some p→p.dst=some d→o.dst≠some d∧(d ∉ jt ops.toList o∨i∈aV.getD j []∨j∈aV.getD i []))
  {fl:List Nat} (CY:∀ j,j < ops.size→m≤j→∀ i,i < m→i ∉ fl→i∈aV.getD j [])
  {t0:List Value} {H:aA} {rs:List dr} (hh:∀ i,i < m→o6 P ops.toList t0 H aV rs i)
  (pC:∀ (fuel:Nat) (aE:Array Bool) (ν:Nu) (a:Act) (w:World),aE.size=ops.size→o7 ops.toList (DB aE)→(∀ i,DB aE i=true→i < m)→(∀ i,i < m→i ∉ fl→DB aE i=true) →
   bD F ν (bm ops.toList rs (DB aE) t0 m) (H++kV rs (DB aE) m) a w→gE (DB aE) ops.size≤fuel→wpAnyIn (WF r) n P .any ops Q fuel aE a w) :
  ∀ (fuel:Nat) (aE:Array Bool) (ν:Nu) (a:Act) (w:World),aE.size=ops.size→o7 ops.toList (DB aE)→(∀ i,DB aE i=true→i < m) →
  bD F ν (bm ops.toList rs (DB aE) t0 m) (H++kV rs (DB aE) m) a w→(∀ i,i < m→DB aE i=false→ν (H.length+i)=none)→gE (DB aE) ops.size≤fuel →
  wpAnyIn (WF r) n P .any ops Q fuel aE a w:=by
 have l6:∀ i d,i < m→bV ops.toList i=some d→d < t0.length:=by
  intro i d hi hd;obtain ⟨o,q,h1,J,h3,_⟩:=(hh i hi).ok;unfold bV at hd;rw [h1] at hd;exact h3 d hd
 have pM:xq ops.toList m:=by
  intro i j d hi hj h1 J;rcases Nat.decEq i j with aN | he
  ·obtain ⟨o,q,k1,_⟩:=(hh i hi).ok;obtain ⟨p,q',k2,_⟩:=(hh j hj).ok;unfold bV at h1 J;rw [k1] at h1; rw [k2] at J;exact absurd h1 (y6 i o j p d hi hj (Ne.symm aN) k1 k2 J).1
  ·exact he
 intro fuel
 induction fuel with
 | zero =>
  intro aE ν a w hs fk ak hi gz hu;have dp:∀ i,i < ops.size→DB aE i=true:=fun i aS=>by
   cases hd:DB aE i with
   | true=>rfl
   | false=>have:=EZ aS hd; omega
  exact pC 0 aE ν a w hs fk ak (fun i aS _=>dp i (by omega)) hi hu
 | succ fuel ih =>
  intro aE ν a w hs fk ak hi gz hu;by_cases pj:∀ i,i < m→i ∉ fl→DB aE i=true
  ·exact pC (fuel+1) aE ν a w hs fk ak pj hi hu
  ·-- something of the head has not gone: the least such one may go
   have hex:∃ i,i < m∧i ∉ fl∧DB aE i=false:=by
    refine Classical.byContradiction fun aN=>pj fun i aS hf=>?_
    cases hd:DB aE i with
    | true=>rfl
    | false=>exact absurd ⟨i,aS,hf,hd⟩ aN
   obtain ⟨i1,DO,hf1,gq⟩:=hex;obtain ⟨i0,PS,fL,iu⟩:=Ey gq;have gH:i0 < m:=by omega
   have hr:=Bd hc hs (by omega:i0 < ops.size) fL iu
   refine ⟨(fun hn=>by rw [hn] at hr; cases hr),fun j hj=>?_⟩
   rw [mem_ready] at hj;obtain ⟨h1,o,ho,he⟩:=hj;have nV:j < ops.size:=(Array.getElem?_eq_some_iff.1 ho).1;rw [ug (by omega)] at h1
   have gn:ops.toList[j]?=some o:=by simpa using ho
   have ml:=tO hc fk j o gn (fun e' gp bE=>he e' gp bE)
   have mX:j < m:=by
    rcases Nat.lt_or_ge j m with h | h
    ·exact h
    ·have:=ml i1 (CY j nV h i1 DO hf1);rw [gq] at this; cases this
   obtain ⟨o',q,g1,g2,g3,g4⟩:=(hh j mX).ok;rw [gn] at g1; cases g1;have Jm:bV ops.toList j=o.dst:=by simp [bV,gn]
   -- what it reads stands as the text's order has it
   have HG:∀ d,d∈jt ops.toList o→(bm ops.toList rs (DB aE) t0 m)[d]?=(bm ops.toList rs (fun i=>decide (i < j)) t0 j)[d]?:=by
    intro d hd;rw [← wj (j:=j) (m:=m) (by omega) (fun i h1 J=>by simp; omega)]
    refine yu pM l6 (fun i aS gm=>?_)
    by_cases e:i=j
    ·subst e; rw [h1]; simp
    ·obtain ⟨p,q',k1,_⟩:=(hh i aS).ok;have Jn:p.dst=some d:=by unfold bV at gm; rw [k1] at gm; exact gm
     rcases (y6 j o i p d mX aS e gn k1 Jn).2 with h | h | h
     ·exact absurd hd h
     ·rw [ml i h];have:=(hc.mask j o gn i h).1;simp [this]
     ·have hji:=(hc.mask i p k1 j h).1;have:DB aE i=false:=by
       cases dh:DB aE i with
       | false=>rfl
       | true =>
        have:=tO hc fk i p k1 (fk i p dh k1) j h;rw [h1] at this; cases this
      rw [this]; simp; omega
   have dv:∀ i,DB (aE.setIfInBounds j true) i=(DB aE i || i == j):=fun i=>Cy (by omega) i
   have xL:o7 ops.toList (DB (aE.setIfInBounds j true)):=by
    intro i p aS hp e' gp bE;rw [dv] at aS ⊢;by_cases e:i=j
    ·subst e;rw [gn] at hp; cases hp;have:DB aE e'.on=true:=he e' gp bE;rw [this]; rfl
    ·have e2:(i == j)=false:=by simp [e]
     rw [e2,Bool.or_false] at aS;rw [fk i p aS hp e' gp bE]; rfl
   have qS:∀ i,DB (aE.setIfInBounds j true) i=true→i < m:=fun i aS=>by
    rw [dv] at aS;by_cases e:i=j
    ·subst e; exact mX
    ·have e2:(i == j)=false:=by simp [e]
     rw [e2,Bool.or_false] at aS;exact ak i aS
   have tg:gE (DB (aE.setIfInBounds j true)) ops.size≤fuel:=by
    have:=Bo dv h1 ops.size;rw [if_pos nV] at this; omega
   have uP:=Lm (D:=DB aE) (D':=DB (aE.setIfInBounds j true)) pM l6 mX h1 dv g2;rw [Jm] at uP;have fJ:∀ (id:Nat) (c:ai),(H++kV rs (DB (aE.setIfInBounds j true)) m)[id]?=some (some c) ↔
     (H++kV rs (DB aE) m)[id]?=some (some c)∨(id=H.length+j∧q.nb=some c):=by
    intro id c;by_cases bu:id < H.length
    ·rw [List.getElem?_append_left bu,List.getElem?_append_left bu];constructor
     ·exact .inl
     ·rintro (h | ⟨h,_⟩)
      ·exact h
      ·omega
    ·rw [List.getElem?_append_right (by omega),List.getElem?_append_right (by omega),rP,rP]
     constructor
     ·rintro ⟨k1,k2,k3⟩
      rw [dv] at k2;by_cases e:id - H.length=j
      ·refine .inr ⟨by omega,?_⟩
       rw [e,g2] at k3; exact k3
      ·have e2:(id - H.length == j)=false:=by simp [e]
       rw [e2,Bool.or_false] at k2;exact .inl ⟨k1,k2,k3⟩
     ·rintro (⟨k1,k2,k3⟩ | ⟨k1,k2⟩)
      ·exact ⟨k1,by rw [dv,k2]; rfl,k3⟩
      ·have e:id - H.length=j:=by omega
       rw [e];exact ⟨mX,by rw [dv]; simp,by rw [g2]; exact k2⟩
   have nC:ν (H.length+j)=none:=gz j mX h1;have HH:(H++kV rs (DB aE) m).length=H.length+m:=by rw [List.length_append,Ky]
   have G4:(H++kV rs (DB (aE.setIfInBounds j true)) m).length=H.length+m:=by rw [List.length_append,Ky]
   -- the state behind it
   have after:∀ v' w' aj,nz ν aj (H.length+j) w w' q.v v' q.nb→wpAnyIn (WF r) n P .any ops Q fuel (aE.setIfInBounds j true) (a.put o.dst v') w':=by
    intro v' w' aj hp;have hb:=hp.below;refine ih _ aj _ w' (by simp [hs]) xL qS ⟨?_,?_,?_,fun id bu=>?_,hi.kp.below hb,fun id c lc cQ mW dX=>?_,Nu.le_trans hi.mono hp.le⟩ (fun i aS dh=>?_) tg
    ·rw [uP];cases hd:o.dst with
     | none=>exact hi.tm.mono hp.le
     | some d=>rw [rS]; exact (hi.tm.mono hp.le).set hp.val d
    ·cases o.dst <;> exact hi.df.below hb
    ·cases bJ:q.nb with
     | none =>
      have:=hp.z6 bJ;subst this;refine (hi.hp.below hb).sG (fun id c cQ=>?_)
      rcases (fJ id c).1 cQ with h | ⟨_,h⟩
      ·exact h
      ·rw [bJ] at h; cases h
     | some b =>
      obtain ⟨l,hl,hB,hle⟩:=hp.il b bJ;have k9:aj=ν.add (H.length+j) l:=by
       funext id
       by_cases e:id=H.length+j
       ·subst e; rw [hl,Nu.add_same]
       ·rw [hp.only id e,Nu.jc e]
      subst k9;refine hi.hp.push hb nC _ (fun id c cQ=>?_) hle hB
      rcases (fJ id c).1 cQ with h | ⟨h3,h4⟩
      ·by_cases e:id=H.length+j
       ·obtain ⟨l',cP,_⟩:=hi.hp.aJ id c h;rw [e,nC] at cP; cases cP
       ·exact .inr ⟨e,h⟩
      ·rw [bJ] at h4; cases h4;exact .inl ⟨h3,rfl⟩
    ·rw [G4] at bu;rw [hp.only id (by omega)]
     exact hi.fr id (by rw [HH]; exact bu)
    ·rcases (fJ id c).1 cQ with h | ⟨h3,h4⟩
     ·have aN:id≠H.length+j:=fun e=>by
       obtain ⟨l',cP,_⟩:=hi.hp.aJ id c h;rw [e,nC] at cP; cases cP
      rw [hp.only id aN] at dX;exact hi.own id c lc h mW dX
     ·obtain ⟨l,hl,_,hle⟩:=hp.il c h4;rw [h3,hl] at dX; cases dX;exact .inr (Nat.le_trans hi.kp.size hle)
    ·have aN:i≠j:=fun e=>by subst e; rw [dv] at dh; simp at dh
     rw [hp.only _ (by omega)]
     refine gz i aS ?_;rw [dv] at dh;simp only [Bool.or_eq_false_iff] at dh;exact dh.1
   unfold wpOpIn;rw [ho]
   dsimp only
   have fK:∀ d,d∈jt ops.toList o→∀ v,(bm ops.toList rs (fun i=>decide (i < j)) t0 j)[d]?=some v→∃ v',a.tmps[d]?=some v'∧au ν v v':=by
    intro d hd v hv;rw [← HG d hd] at hv;obtain ⟨v',k1,k2⟩:=hi.tm.get hv;exact ⟨v',by simpa using k1,k2⟩
   rcases g4 with ⟨G,q1,q2,q3⟩ | ⟨q1,q2,g,want,d,v,q3,q4,q5,q6⟩
   ·have hw:Region.wanted o (yielded ops a.tmps)=true:=by
     rcases q3 with hg | ⟨g,want,d,b,hg,hd,hv,hb⟩
     ·simp [Region.wanted,hg]
     ·obtain ⟨v',k1,k2⟩:=fK d (A2 hg hd) _ hv;rw [k2.km] at k1;have hy:=yr (ops:=ops) (tmps:=a.tmps) (j:=g) (d:=d) (by simpa [bV] using hd)
      rw [k1] at hy;simp only [Region.wanted,hg,hy];rw [← hb];cases b <;> cases want <;> rfl
    rw [if_pos hw];refine q2 ν a w r n (fun x hx t ht v hv=>fK t ?_ v hv) (hi.hp.sG fun id b hb=>?_) nC _ Q after
    ·unfold jt;exact List.mem_append_left _ (pW (by rw [ht] at hx; simpa using hx))
    ·rcases q1 id b hb with ⟨h3,h4⟩ | ⟨i,h3,h4,h5,h6⟩
     ·rw [List.getElem?_append_left h3]; exact h4
     ·subst h3;rw [List.getElem?_append_right (by omega)]
      rw [show H.length+i - H.length=i by omega,rP]
      exact ⟨by omega,ml i h5,h6⟩
   ·have hw:Region.wanted o (yielded ops a.tmps)=false:=by
     obtain ⟨v',k1,k2⟩:=fK d (A2 q3 q4) _ q5;have hy:=yr (ops:=ops) (tmps:=a.tmps) (j:=g) (d:=d) (by simpa [bV] using q4)
     rw [k1] at hy;rcases q6 with ⟨b,rfl,hb⟩ | ⟨vs,rfl⟩
     ·rw [k2.km] at hy;simp only [Region.wanted,q3,hy];rw [← hb];cases b <;> cases want <;> rfl
     ·obtain ⟨ys,rfl,_⟩:=au.n6 (xs:=vs.toList) k2;simp only [Region.wanted,q3,hy]
      rfl
    rw [if_neg (by rw [hw]; simp)]
    refine ⟨fun _ _=>trivial,after undef w ν ⟨ν.le_refl,fun _ _=>rfl,by rw [q1]; exact .undef ν,Below.refl _ _,fun _=>rfl,(fun b hb=>by rw [q2] at hb; cases hb)⟩⟩
theorem VB (hm:P.follows .mixedOrders=true):nR P O5:=by
 intro E hE r n F bQ ops Q id ν tmps H a w k hi h hk;obtain ⟨m,aV,a9,h⟩:=h;have h:=mz h;obtain ⟨PT,h⟩:=yt h;have hc:=KT a9;obtain ⟨rs,iX,ku,fH⟩:=Fo (P:=P) hE.toEnvOk (ops:=ops.toList) (t0:=tmps) (H:=H) (aV:=aV) (l:=ops.toList.take m) (ms:=aV) (j:=0) (rs:=[]) rfl
  (fun i o ho=>by
   rw [List.getElem?_take] at ho
   split at ho
   ·simpa using ho
   ·cases ho)
  (fun i _=>by simp) (fun i hi=>by omega) h
 have fH:=ua fH;have hlen:0+(ops.toList.take m).length=m:=by rw [List.length_take]; omega
 rw [hlen] at iX ku fH;refine wpIn_region_any hm ?_;have hD:DB (Array.replicate ops.size false)=fun _=>false:=by
  funext i
  unfold DB;by_cases h:i < ops.size <;> simp [h]
 refine Mh (F:=F) (fl:=[]) hc.toOrder (by have:=hc.le; simpa using this) hc.apart (fun j hj hm i hi _=>hc.tail j (by simpa using hj) hm i (by omega)) ku ?_ ops.size _ ν a _ (by simp) (fun j o hj=>by rw [hD] at hj; cases hj) (fun i aS=>by rw [hD] at aS; cases aS) ?_ (fun i _ _=>hi.fr _ (by omega)) ?_
 ·intro fuel aE ν a w hs fk ak dp hi hu;have hle:m≤ops.size:=by have:=hc.le; simpa using this
  have hD:∀ i,DB aE i=decide (i < m):=fun i=>by
   by_cases h:i < m
   ·rw [dp i h (by simp)]; simp [h]
   ·cases hd:DB aE i with
    | true=>exact absurd (ak i hd) h
    | false=>simp [h]
  have e1:bm ops.toList rs (DB aE) tmps m=bm ops.toList rs (fun i=>decide (i < m)) tmps m:=yf (fun i _=>hD i)
  have e2:kV rs (DB aE) m=rs.map (·.nb):=by
   unfold kV;apply List.ext_getElem?;intro i;rw [List.getElem?_map,List.getElem?_map];by_cases h:i < m
   ·rw [List.getElem?_range h,List.getElem?_eq_getElem (by omega:i < rs.length)]
    simp only [Option.map_some,hD i,h,decide_true,if_true];rw [List.getElem?_eq_getElem (by omega:i < rs.length)]; rfl
   ·rw [List.getElem?_eq_none (by simp; omega),List.getElem?_eq_none (by omega)]; rfl
  rw [e1,e2] at hi;exact Fp hE bQ hc.toOrder hc.tail hk fuel aE m ν _ _ a w hs hD (Nat.le_refl _) hle hi fH (by
   have:=Ex hD ops.size hle; omega)
 ·rw [hD];have e1:bm ops.toList rs (fun _=>false) tmps m=tmps:=wj (j:=0) (by omega) (fun _ _ _=>rfl)
  rw [e1];have kW:Below w.heap.size w { w with drawn:=w.drawn+1 }:=⟨rfl,rfl,rfl,Nat.le_refl _,fun _ _=>rfl⟩
  refine ⟨hi.tm,hi.df.below kW,(hi.hp.below kW).sG (fun id c cQ=>?_),fun id bu=>hi.fr id (by rw [List.length_append] at bu; omega),hi.kp.below kW,fun id c lc cQ mW dX=>?_,hi.mono⟩
  ·rw [List.getElem?_append] at cQ
   split at cQ
   ·exact cQ
   ·have:=(rP.1 cQ).2.1; cases this
  ·rw [List.getElem?_append] at cQ
   split at cQ
   ·exact hi.own id c lc cQ mW dX
   ·have:=(rP.1 cQ).2.1; cases this
 ·unfold gE;have:=List.length_filter_le (fun i=>!DB (Array.replicate ops.size false) i) (List.range ops.size)
  simpa using this
end
open Go Go.RowKit
def Iq (E:Env) (o:Oper) (t:List Value) (H:aA) (k:SK):Prop :=
 match o.op with
 | .store ty x y=>Cv E t H ty x y fun t' H'=>dD t' o.dst undef fun vz=>k vz H'
 | .call c=>match c.callee with
  | .builtin .append=>match c.args.toList,c.argTypes.toList with
   | [x,y],[ty,ty']=>match Nat.beq ty ty' with
    | true=>b9 t x fun xv=>b9 t y fun yv=>match BM xv with
     | true=>Gn E [] H ty xv yv fun v _ H'=>dD t o.dst v fun t'=>k t' H'
     | false=>False
    | false=>False
   | _,_=>False
  | .builtin .copy=>match c.args.toList,c.argTypes.toList with
   | [x,y],[ty,_]=>b9 t x fun xv=>b9 t y fun yv=>Gp E H ty xv yv fun v H'=>dD t o.dst v fun t'=>k t' H'
   | _,_=>False
  | _=>jE H fun aK=>lB E o.op t H aK fun v nb=>dD t o.dst v fun t'=>ve H nb fun H'=>k t' H'
 | _=>jE H fun aK=>lB E o.op t H aK fun v nb=>dD t o.dst v fun t'=>ve H nb fun H'=>k t' H'
def PU:Option Nat→aA→aA→Prop→Prop
 | none,_,_,k=>k
 | some n,H,H',k=>H'.take n=H.take n∧k
def CZ (E:Env) (fz:Option Nat):List Oper→List Value→aA→SK→Prop
 | [],t,H,k=>k t H
 | o::l,t,H,k=>Iq E o t H fun t' H'=>PU fz H H' (CZ E fz l t' H' k)
theorem Mi {fz:Option Nat} {H H':aA} {k:Prop} (h:PU fz H H' k):k∧∀ n,fz=some n→H'.take n=H.take n:=by
 cases fz with
 | none=>exact ⟨h,fun n e=>by cases e⟩
 | some m=>exact ⟨h.2,fun n e=>by cases e; exact h.1⟩
def Ir (ops:List Oper) (fl:List Nat) (n:Nat):Option Nat:=match fl.all fun f=>match ops[f]? with | some o=>mB o.op | none=>true with
 | true=>none
 | false=>some n
def Gt (ops:List Oper) (m q:Nat) (aV:List (List Nat)) (fl:List Nat):Bool :=
 decide (m+q≤ops.length) && Cb ops aV &&
 (List.range ops.length).all (fun j=>match ops[j]? with
  | some o=>o.after.toList.all fun e=>!Region.binds .any e || decide (e.on < j)
  | none=>true) &&
 (List.range m).all (fun j=>match ops[j]? with
  | some o=>(List.range m).all fun i=>i == j || match ops[i]? with
   | some p=>match p.dst with
    | some d=>(o.dst != some d) && (!(jt ops o).contains d || (aV.getD j []).contains i || (aV.getD i []).contains j)
    | none=>true
   | none=>true
  | none=>true) &&
 fl.all (fun f=>decide (f < m) && match ops[f]? with
  | some o=>o.guard.isNone && ((mB o.op || (mC o.op && (aV.getD f []).all fun i=>fl.contains i)) && ((match o.dst with | some d=>!(iP o.op.operands.toList).contains d | none=>false) && (List.range (m+q)).all fun i=>i == f || (match bV ops i with
   | none=>true
   | some e=>(o.dst != some e) && (!(iP o.op.operands.toList).contains e || (decide (i < m) && (aV.getD f []).contains i)))))
  | none=>false) &&
 (List.range (m+q)).all (fun j=>decide (j < m) || match ops[j]? with
  | some o=>o.guard.isNone && ((List.range j).all fun i=>(aV.getD j []).contains i || fl.contains i) && fl.all fun f=>(aV.getD j []).contains f || match bV ops f with | some d=>!(jt ops o).contains d | none=>false
  | none=>true) &&
 (List.range ops.length).all (fun j=>decide (j < m+q) || (List.range j).all fun i=>(aV.getD j []).contains i)
structure NJ (ops:List Oper) (m q:Nat) (aV:List (List Nat)) (fl:List Nat):Prop extends Order ops aV where
 le:m+q≤ops.length
 apart:∀ j o i p d,j < m→i < m→i≠j→ops[j]?=some o→ops[i]?=some p→p.dst=some d→o.dst≠some d∧(d ∉ jt ops o∨i∈aV.getD j []∨j∈aV.getD i [])
 rn:∀ f∈fl,f < m∧∃ o d,ops[f]?=some o∧o.guard=none∧(mB o.op=true∨(mC o.op=true∧∀ i∈aV.getD f [],i∈fl))∧o.dst=some d∧d ∉ iP o.op.operands.toList∧∀ i e,i < m+q→i≠f→bV ops i=some e→e≠d∧(e∈iP o.op.operands.toList→i < m∧i∈aV.getD f [])
 mid:∀ j o,m≤j→j < m+q→ops[j]?=some o→o.guard=none∧(∀ i,i < j→i∈aV.getD j []∨i∈fl)∧∀ f∈fl,f∈aV.getD j []∨∀ d,bV ops f=some d→d ∉ jt ops o
 tail:∀ j,j < ops.length→m+q≤j→∀ i,i < j→i∈aV.getD j []
theorem R6 {ops:List Oper} {m q:Nat} {aV:List (List Nat)} {fl:List Nat} (h:Gt ops m q aV fl=true):NJ ops m q aV fl:=by
 unfold Gt at h;simp only [Bool.and_eq_true,decide_eq_true_eq] at h;obtain ⟨⟨⟨⟨⟨⟨h1,J⟩,h3⟩,h4⟩,h5⟩,h6⟩,h7⟩:=h;have lt:∀ {j:Nat} {o:Oper},ops[j]?=some o→j∈List.range ops.length:=fun hj=>List.mem_range.2 (List.getElem?_eq_some_iff.1 hj).1
 refine ⟨⟨fun j o hj i hi=>?_,fun j o hj e he hb=>?_⟩,h1,fun j o i p d hj hi aN ho hp hd=>?_,fun f hf=>?_,fun j o hm hj ho=>?_,fun j hj hm i hi=>?_⟩
 ·unfold Cb at J;have:=List.all_eq_true.1 J j (lt hj);rw [hj] at this;have:=List.all_eq_true.1 this i hi;simp only [Bool.and_eq_true,decide_eq_true_eq,List.any_eq_true,Bool.or_eq_true,beq_iff_eq,List.contains_iff_mem] at this;obtain ⟨k1,e,k2,k3,k4⟩:=this;exact ⟨k1,e,by simpa using k2,k3,k4⟩
 ·have:=List.all_eq_true.1 h3 j (lt hj);rw [hj] at this;have:=List.all_eq_true.1 this e (by simpa using he)
  simp only [hb,Bool.not_true,Bool.false_or,decide_eq_true_eq] at this;exact this
 ·have:=List.all_eq_true.1 h4 j (List.mem_range.2 hj);rw [ho] at this;have:=List.all_eq_true.1 this i (List.mem_range.2 hi);rw [hp] at this;have hb:(i == j)=false:=by simp [aN]
  rw [hb,Bool.false_or] at this
  dsimp only at this
  rw [hd] at this;simp only [Bool.and_eq_true,bne_iff_ne,Bool.or_eq_true,Bool.not_eq_true',List.contains_iff_mem,or_assoc] at this;refine ⟨this.1,this.2.imp (fun k=>?_) (fun k=>k)⟩
  intro gY;rw [List.contains_iff_mem.2 gY] at k;cases k
 ·have:=List.all_eq_true.1 h5 f hf;simp only [Bool.and_eq_true,decide_eq_true_eq] at this;obtain ⟨k1,k2⟩:=this;refine ⟨k1,?_⟩
  split at k2
  ·rename_i o ho;simp only [Bool.and_eq_true,Bool.or_eq_true,Option.isNone_iff_eq_none] at k2;obtain ⟨k2,hx,k3,k4⟩:=k2;cases hd:o.dst with
   | none=>rw [hd] at k3; cases k3
   | some d =>
   rw [hd] at k3;have Hz:d ∉ iP o.op.operands.toList:=fun hm=>by
    have k3:(!(iP o.op.operands.toList).contains d)=true:=k3;rw [List.contains_iff_mem.2 hm] at k3; cases k3
   refine ⟨o,d,ho,k2,hx.imp id (fun h=>⟨h.1,fun i hi=>by simpa using List.all_eq_true.1 h.2 i hi⟩),hd,Hz,fun i e hi aN he=>?_⟩
   have:=List.all_eq_true.1 k4 i (List.mem_range.2 hi);have hb:(i == f)=false:=by simp [aN]
   rw [hb,Bool.false_or,he,hd] at this;simp only [Bool.or_eq_true,Bool.and_eq_true,bne_iff_ne,decide_eq_true_eq,List.contains_iff_mem,Bool.not_eq_true'] at this;obtain ⟨h1,J⟩:=this;refine ⟨fun e'=>h1 (by rw [e']),fun e'=>?_⟩
   rcases J with J | J
   ·rw [List.contains_iff_mem.2 e'] at J; cases J
   ·exact J
  ·cases k2
 ·have:=List.all_eq_true.1 h6 j (List.mem_range.2 hj);have hd:decide (j < m)=false:=by simp; omega
  rw [hd,Bool.false_or,ho] at this;simp only [Bool.and_eq_true,Option.isNone_iff_eq_none,List.all_eq_true,List.mem_range,Bool.or_eq_true,List.contains_iff_mem] at this;obtain ⟨⟨k1,k2⟩,k3⟩:=this;refine ⟨k1,k2,fun f hf=>(k3 f hf).imp (fun h=>h) (fun h d hd=>?_)⟩
  rw [hd] at h;simp only [Bool.not_eq_true'] at h;intro gY;rw [List.contains_iff_mem.2 gY] at h;cases h
 ·have:=List.all_eq_true.1 h7 j (List.mem_range.2 hj);simp only [Bool.or_eq_true,decide_eq_true_eq,List.all_eq_true,List.mem_range,List.contains_iff_mem] at this;rcases this with h | h
  ·omega
  ·exact h i hi
def O6 (E:Env) (ops:List Oper) (t:List Value) (H:aA) (k:SK):Prop :=
 ∃ (m q:Nat) (aV:List (List Nat)) (fl:List Nat),Gt ops m q aV fl=true∧jE H fun n0=>uQ ops m fun hd tl=>uQ tl q fun md tl2 =>
  lS E ops H n0 hd aV 0 t [] fun t' S=>nU H S fun G=>CZ E (Ir ops fl n0) md t' G fun t2 G2=>nK E ops tl2 t2 G2 k
structure vg (fz:Option Nat) (P:Program) (F:Fr) (bz:Nu) (ops:List Oper) (fl:List Nat) (D:Nat→Bool) (ν:Nu) (t:List Value) (H:aA) (a:Act) (w:World):Prop where
 len:t.length=a.tmps.toList.length
 tm:∀ (d:Nat) v,t[d]?=some v→(∀ f∈fl,D f=false→bV ops f≠some d)→∃ v',a.tmps.toList[d]?=some v'∧au ν v v'
 un:∀ f∈fl,D f=false→∀ o d,ops[f]?=some o→o.dst=some d→∃ v G,t[d]?=some v∧oc P bz G o.op t v∧∀ id b,G[id]?=some (some b)→H[id]?=some (some b)∧∃ n,fz=some n∧id < n
 le:bz.le ν
 rest:bD F ν [] H { a with tmps:=#[] } w
theorem NK:∀ {l:List Value} {n:Nat} {v:Value} {k:List Value→Prop},n < l.length→k (l.set n v)→xF l n v k
 | [],_,_,_,h,_=>absurd h (Nat.not_lt_zero _)
 | _::l,0,v,k,_,h=>h
 | x::l,n+1,v,k,h,hk=>NK (l:=l) (by simpa using h) hk
theorem oc.same {P:Program} {bz:Nu} {G:aA} {op:Op} {t t':List Value} {v:Value} (h:oc P bz G op t v) (hs:∀ s∈iP op.operands.toList,t'[s]?=t[s]?):oc P bz G op t' v :=
 ⟨h.1,fun o ν a w hle ho ha=>h.2 o ν a w hle ho fun x hx s nT u hu=>ha x hx s nT u (by rw [hs s (pW (by rw [← nT]; simpa using hx))]; exact hu)⟩
theorem qB.heap {P:Program} {bz:Nu} {op:Op} {t:List Value} {v:Value} (h:qB P bz op t v) (G:aA):oc P bz G op t v:=⟨h.1,fun o ν a w hle ho ha _=>h.2 o ν a w hle ho ha⟩
theorem Mj {fz:Option Nat} {G H H':aA} (h:∀ id b,G[id]?=some (some b)→H[id]?=some (some b)∧∃ n,fz=some n∧id < n) (hf:∀ n,fz=some n→H'.take n=H.take n) :
  ∀ id b,G[id]?=some (some b)→H'[id]?=some (some b)∧∃ n,fz=some n∧id < n:=fun id b hb=>by
 obtain ⟨h1,n,J,h3⟩:=h id b hb;refine ⟨?_,n,J,h3⟩;have:=congrArg (fun l=>l[id]?) (hf n J)
 simp only [List.getElem?_take,if_pos h3] at this;rw [this]; exact h1
theorem BN {op:Op} {C:Prop} (h:mB op=true∨(mC op=true∧C)):(mB op || mC op)=true:=by
 rcases h with h | ⟨h,_⟩
 ·rw [h]; rfl
 ·rw [h]; simp
theorem FQ {t:List Value} {o:Option Tmp} {v:Value} {k:List Value→Prop} {C:Prop} (h:dD t o v k) (hk:∀ t,k t→C):C:=by
 cases o with
 | none=>exact hk _ h
 | some d=>exact hk _ (oT h).2
theorem vg.put {fz:Option Nat} {P:Program} {F:Fr} {bz:Nu} {ops:List Oper} {fl:List Nat} {D D':Nat→Bool} {ν aj:Nu} {t:List Value} {H H':aA} {a:Act} {w w':World} (h:vg fz P F bz ops fl D ν t H a w) (Jo:∀ n,fz=some n→H'.take n=H.take n) (hle:ν.le aj)
  (hD:∀ f∈fl,D' f=D f) {v v':Value} (hv:au aj v v') {o:Option Tmp} (ho:∀ d,o=some d→∀ f∈fl,∀ p e,ops[f]?=some p→p.dst=some e→d≠e∧d ∉ iP p.op.operands.toList)
  {k:List Value→Prop} (hk:dD t o v k) (hr:bD F aj [] H' { a with tmps:=#[] } w'):∃ t',k t'∧vg fz P F bz ops fl D' aj t' H' (a.put o v') w':=by
 cases o with
 | none =>
  refine ⟨t,hk,h.len,fun d u hu hn=>?_,fun f mn hd p e h1 J=>?_,Nu.le_trans h.le hle,hr⟩
  ·obtain ⟨u',k1,k2⟩:=h.tm d u hu (fun f mn hd=>hn f mn (by rw [hD f mn]; exact hd))
   exact ⟨u',k1,k2.mono hle⟩
  ·obtain ⟨u,G,q1,q2,q3⟩:=h.un f mn (by rw [← hD f mn]; exact hd) p e h1 J
   exact ⟨u,G,q1,q2,Mj q3 Jo⟩
 | some d0 =>
  obtain ⟨h1,J⟩:=oT hk;refine ⟨_,J,?_,fun d u hu hn=>?_,fun f mn hd p e k1 k2=>?_,Nu.le_trans h.le hle,hr⟩
  ·rw [rS,List.length_set,List.length_set]; exact h.len
  ·rw [rS];by_cases e:d0=d
   ·subst e;rw [List.getElem?_set_self h1] at hu;cases hu;exact ⟨v',by rw [List.getElem?_set_self (by rw [← h.len]; exact h1)],hv⟩
   ·rw [List.getElem?_set_ne e] at hu ⊢;obtain ⟨u',k1,k2⟩:=h.tm d u hu (fun f mn hd=>hn f mn (by rw [hD f mn]; exact hd))
    exact ⟨u',k1,k2.mono hle⟩
  ·obtain ⟨aN,hns⟩:=ho d0 rfl f mn p e k1 k2;obtain ⟨u,G,q1,q2,q3⟩:=h.un f mn (by rw [← hD f mn]; exact hd) p e k1 k2
   exact ⟨u,G,by rw [List.getElem?_set_ne aN]; exact q1,q2.same fun s hs=>by rw [List.getElem?_set_ne (fun e:d0=s=>hns (by rw [e]; exact hs))],Mj q3 Jo⟩
section
variable {fz:Option Nat} {P:Program} {E:Env} {r:Option Nat} {n:Nat} {F:Fr} {ops:Array Oper} {Q:Exit→Act→World→Prop} {m q:Nat} {aV:List (List Nat)} {fl:List Nat} {k:SK}
theorem VC (hE:j4 P E) (bQ:lC F E) {bz:Nu} {o:Oper} {D D':Nat→Bool} {ν:Nu} {t:List Value} {H:aA} {a:Act} {w:World} (h:vg fz P F bz ops.toList fl D ν t H a w) {k:SK} (Ap:∀ t' H',k t' H'→∀ n,fz=some n→H'.take n=H.take n)
  (hD:∀ f∈fl,D' f=D f)
  (fK:∀ f∈fl,D f=false→∀ d,bV ops.toList f=some d→d ∉ jt ops.toList o)
  (ho:∀ d,o.dst=some d→∀ f∈fl,∀ p e,ops.toList[f]?=some p→p.dst=some e→d≠e∧d ∉ iP p.op.operands.toList)
  (hk:Iq E o t H k) {next:Act→World→Prop} {Q:Exit→Act→World→Prop}
  (hn:∀ aj t' H' a' w',vg fz P F bz ops.toList fl D' aj t' H' a' w'→k t' H'→next a' w'):o.wpIn (WF r) n P a w next Q:=by
 have oC:∀ x∈o.op.operands,fC ν t a x:=fun x hx s hs v hv=>by
  obtain ⟨v',k1,k2⟩:=h.tm s v hv (fun f mn hd fg=>fK f mn hd s fg (by unfold jt; exact List.mem_append_left _ (pW (by rw [hs] at hx; simpa using hx))))
  exact ⟨v',by simpa using k1,k2⟩
 have quiet:(jE H fun aK=>lB E o.op t H aK fun v nb=>dD t o.dst v fun t'=>ve H nb fun H'=>k t' H')→o.wpIn (WF r) n P a w next Q:=by
  intro hk;have hk:=mz hk;obtain ⟨v,nb,pL,hq⟩:=Bt (P:=P) hE.toEnvOk hk;refine hq o ν a w r n rfl oC h.rest.hp (h.rest.fr _ (Nat.le_refl _)) next Q (fun v' w' aj hp=>?_)
  cases hd:o.dst with
  | none =>
   rw [hd] at pL ho;obtain ⟨H',h1,J⟩:=h.rest.quiet hp pL;obtain ⟨t',k1,k2⟩:=h.put (D':=D') (o:=none) (Ap _ _ h1) hp.le hD hp.val (fun d hd=>by cases hd) (k:=fun t'=>t'=t) rfl J
   subst k1;exact hn _ _ _ _ _ k2 h1
  | some d =>
   rw [hd] at pL ho;obtain ⟨h1,J⟩:=oT pL;obtain ⟨H',h3,h4⟩:=h.rest.quiet hp J;obtain ⟨t',k1,k2⟩:=h.put (D':=D') (o:=some d) (Ap _ _ h3) hp.le hD hp.val ho (k:=fun t'=>k t' H') (by
    show xF t d v _
    exact NK h1 h3) h4
   exact hn _ _ _ _ _ k2 k1
 unfold Iq at hk
 split at hk
 ·rename_i ty x y an;have hx:fC ν t a x:=oC x (by rw [an]; simp [Op.operands])
  have hy:fC ν t a y:=oC y (by rw [an]; simp [Op.operands])
  obtain ⟨w',H',bK,aS,J⟩:=Lc hE.toEnvOk an h.rest hx hy hk;obtain ⟨t',k1,k2⟩:=h.put (D':=D') (o:=o.dst) (FQ J fun t hk=>Ap t _ hk) ν.le_refl hD (.undef ν) ho J aS
  refine ⟨fun _ _=>trivial,?_⟩
  rw [Oper.semAt_eq _ _ _ (by simp [an]),bK]
  exact hn _ _ _ _ _ k2 k1
 ·rename_i c an
  split at hk
  ·rename_i hc
   split at hk
   ·rename_i x y t1 t2 rr DP
    split at hk
    ·rename_i hb;have hb:t1=t2:=Nat.eq_of_beq_eq_true hb;subst hb;have vE:c.args=#[x,y]:=Array.ext' rr;have Aa:c.argTypes=#[t1,t1]:=Array.ext' DP;obtain ⟨xv,jJ,vw⟩:=kQ hk (oC x (by rw [an]; simp [Op.operands,Call.operands,vE]))
     obtain ⟨yv,Aq,vx⟩:=kQ jJ (oC y (by rw [an]; simp [Op.operands,Call.operands,vE]))
     split at Aq
     ·rename_i hex;obtain ⟨v,v',aj,t',H',w',h1,J,h3,h4,h5⟩:=KR hE.toEnvOk bQ h.rest vw vx Aq o.type;obtain rfl:t'=[]:=List.eq_nil_of_length_eq_zero (by have:=h3.tm.1; simpa using this)
      obtain ⟨t2,k1,k2⟩:=h.put (D':=D') (FQ h1 fun t hk=>Ap t _ hk) (h5 hex) hD J ho h1 h3
      exact jP (by simp [an]) (by simp [execOp,an,resolve,hc,vE,Aa,invoke,builtin,h4]) next Q (hn _ _ _ _ _ k2 k1)
     ·exact Aq.elim
    ·exact hk.elim
   ·exact hk.elim
  ·rename_i hc
   split at hk
   ·rename_i x y t1 t2 rr DP;have vE:c.args=#[x,y]:=Array.ext' rr;have Aa:c.argTypes=#[t1,t2]:=Array.ext' DP;obtain ⟨xv,jJ,vw⟩:=kQ hk (oC x (by rw [an]; simp [Op.operands,Call.operands,vE]))
    obtain ⟨yv,Aq,vx⟩:=kQ jJ (oC y (by rw [an]; simp [Op.operands,Call.operands,vE]))
    obtain ⟨v,H',w',h1,J,h3,h4⟩:=Lh hE.toEnvOk h.rest vw vx Aq t2 o.type;obtain ⟨t2,k1,k2⟩:=h.put (D':=D') (FQ h1 fun t hk=>Ap t _ hk) ν.le_refl hD J ho h1 h3
    exact jP (by simp [an]) (by simp [execOp,an,resolve,hc,vE,Aa,invoke,builtin,h4]) next Q (hn _ _ _ _ _ k2 k1)
   ·exact hk.elim
  ·exact quiet hk
 ·exact quiet hk
theorem VD (hE:j4 P E) (bQ:lC F E) (hc:NJ ops.toList m q aV fl) (hk:∀ ν t' H' a' w',bD F ν t' H' a' w'→k t' H'→Q .normal a' w') :
  ∀ (fuel:Nat) (aE:Array Bool) (j0:Nat) (bz ν:Nu) (t:List Value) (H:aA) (a:Act) (w:World),aE.size=ops.size→o7 ops.toList (DB aE)→m≤j0→j0≤m+q →
  (∀ i,i < j0→i ∉ fl→DB aE i=true)→(∀ i,DB aE i=true→i < j0)→vg fz P F bz ops.toList fl (DB aE) ν t H a w →
  CZ E fz ((ops.toList.take (m+q)).drop j0) t H (fun t' H'=>nK E ops.toList (ops.toList.drop (m+q)) t' H' k)→gE (DB aE) ops.size≤fuel→wpAnyIn (WF r) n P .any ops Q fuel aE a w:=by
 have hle:m+q≤ops.size:=by have:=hc.le; simpa using this
 have xI:∀ (i:Nat) (d:Tmp),i < m+q→m≤i→bV ops.toList i=some d→∀ f∈fl,f≠i→∀ p e,ops.toList[f]?=some p→p.dst=some e→d≠e∧d ∉ iP p.op.operands.toList:=by
  intro i d hi CY hd f hf aN p e h1 h3;obtain ⟨_,o,d',k1,k2,k3,k4,_,k5⟩:=hc.rn f hf;rw [h1] at k1; cases k1;rw [h3] at k4; cases k4;obtain ⟨q1,q2⟩:=k5 i d hi (Ne.symm aN) hd;exact ⟨q1,fun e'=>by have:=(q2 e').1; omega⟩
 have finish:∀ (fuel:Nat) (aE:Array Bool) (j0:Nat) (bz ν:Nu) (t:List Value) (H:aA) (a:Act) (w:World),aE.size=ops.size→m≤j0→j0≤m+q→(∀ i,DB aE i=true→i < j0)→vg fz P F bz ops.toList fl (DB aE) ν t H a w →
   CZ E fz ((ops.toList.take (m+q)).drop j0) t H (fun t' H'=>nK E ops.toList (ops.toList.drop (m+q)) t' H' k)→gE (DB aE) ops.size≤fuel→(∀ i,i < m+q→DB aE i=true)→wpAnyIn (WF r) n P .any ops Q fuel aE a w:=by
  intro fuel aE j0 bz ν t H a w hs hm kJ ak hi h hu dp;have e:j0=m+q:=by
   rcases Nat.lt_or_ge j0 (m+q) with h' | h'
   ·have:=ak j0 (dp j0 h'); omega
   ·omega
  subst e;rw [List.drop_eq_nil_of_le (by simp; omega)] at h
  have hD:∀ i,DB aE i=decide (i < m+q):=fun i=>by
   by_cases h:i < m+q
   ·rw [dp i h]; simp [h]
   ·cases hd:DB aE i with
    | true=>exact absurd (ak i hd) h
    | false=>simp [h]
  have aS:bD F ν t H a w:=⟨⟨hi.len,fun d x y hx hy=>by
   obtain ⟨y',k1,k2⟩:=hi.tm d x hx (fun f hf hd=>by have:=(hc.rn f hf).1; rw [dp f (by omega)] at hd; cases hd)
   rw [hy] at k1; cases k1; exact k2⟩,hi.rest.df,hi.rest.hp,hi.rest.fr,hi.rest.kp,hi.rest.own,hi.rest.mono⟩
  exact Fp hE bQ hc.toOrder (m:=m+q) hc.tail hk fuel aE (m+q) ν t H a w hs hD (Nat.le_refl _) hle aS h (by
   have:=Ex hD ops.size hle; omega)
 intro fuel
 induction fuel with
 | zero =>
  intro aE j0 bz ν t H a w hs fk hm kJ pj ak hi h hu;exact finish 0 aE j0 bz ν t H a w hs hm kJ ak hi h hu (fun i aS=>by
   cases hd:DB aE i with
   | true=>rfl
   | false=>have:=EZ (n:=ops.size) (by omega:i < ops.size) hd; omega)
 | succ fuel ih =>
  intro aE j0 bz ν t H a w hs fk hm kJ pj ak hi h hu;by_cases dp:∀ i,i < m+q→DB aE i=true
  ·exact finish (fuel+1) aE j0 bz ν t H a w hs hm kJ ak hi h hu dp
  ·have hex:∃ i,i < m+q∧DB aE i=false:=by
    refine Classical.byContradiction fun aN=>dp fun i aS=>?_
    cases hd:DB aE i with
    | true=>rfl
    | false=>exact absurd ⟨i,aS,hd⟩ aN
   obtain ⟨i1,DO,gq⟩:=hex;obtain ⟨i0,PS,fL,iu⟩:=Ey gq;have hr:=Bd hc.toOrder hs (by omega:i0 < ops.size) fL iu
   refine ⟨(fun hn=>by rw [hn] at hr; cases hr),fun j hj=>?_⟩
   rw [mem_ready] at hj;obtain ⟨h1,o,ho,he⟩:=hj;have nV:j < ops.size:=(Array.getElem?_eq_some_iff.1 ho).1;rw [ug (by omega)] at h1
   have gn:ops.toList[j]?=some o:=by simpa using ho
   have ml:=tO hc.toOrder fk j o gn (fun e' gp bE=>he e' gp bE)
   have dv:∀ i,DB (aE.setIfInBounds j true) i=(DB aE i || i == j):=fun i=>Cy (by omega) i
   have xL:o7 ops.toList (DB (aE.setIfInBounds j true)):=by
    intro i p aS hp e' gp bE;rw [dv] at aS ⊢;by_cases e:i=j
    ·subst e;rw [gn] at hp; cases hp;have:DB aE e'.on=true:=he e' gp bE;rw [this]; rfl
    ·have e2:(i == j)=false:=by simp [e]
     rw [e2,Bool.or_false] at aS;rw [fk i p aS hp e' gp bE]; rfl
   have tg:gE (DB (aE.setIfInBounds j true)) ops.size≤fuel:=by
    have:=Bo dv h1 ops.size;rw [if_pos nV] at this; omega
   by_cases Ar:j∈fl
   ·-- a floating move
    obtain ⟨mX,o',d,g1,g2,g3,g4,g6,g5⟩:=hc.rn j Ar;rw [gn] at g1; cases g1;obtain ⟨v,G,nW,Jk,hGH⟩:=hi.un j Ar h1 o d gn g4;obtain ⟨vu,Jp,acs⟩:=Jk.2 o ν a w hi.le rfl (fun x hx s nT u hu=>by
     have rz:s∈iP o.op.operands.toList:=pW (by rw [← nT]; simpa using hx)
     obtain ⟨u',r1,r2⟩:=hi.tm s u hu (fun f hf hd fg=>by
      have As:=(hc.rn f hf).1;by_cases e:f=j
      ·subst e;have:bV ops.toList f=some d:=by simp [bV,gn,g4]
       rw [this] at fg; cases fg;exact g6 rz
      ·have:=((g5 f s (by omega) e fg).2 rz).2
       rw [ml f this] at hd; cases hd)
     exact ⟨u',by simpa using r1,r2⟩) (hi.rest.hp.sG fun id b hb=>(hGH id b hb).1)
    unfold wpOpIn;rw [ho]
    dsimp only
    rw [if_pos (by simp [Region.wanted,g2])]
    refine jP (v':=vu) (w':=w) Jk.1 acs _ Q ?_;rw [g4];refine ih _ j0 bz ν t H _ w (by simp [hs]) xL hm kJ (fun i aS hf=>by rw [dv,pj i aS hf]; rfl) (fun i aS=>?_) ⟨?_,fun e u tB bT=>?_,fun f hf hd p e k1 k2=>?_,hi.le,hi.rest⟩ h tg
    ·rw [dv] at aS;by_cases e:i=j
     ·omega
     ·have e2:(i == j)=false:=by simp [e]
      rw [e2,Bool.or_false] at aS;exact ak i aS
    ·rw [rS,List.length_set]; exact hi.len
    ·rw [rS];by_cases e':d=e
     ·subst e';rw [nW] at tB; cases tB;have:d < t.length:=(List.getElem?_eq_some_iff.1 nW).1;exact ⟨vu,by rw [List.getElem?_set_self (by rw [← hi.len]; exact this)],Jp⟩
     ·rw [List.getElem?_set_ne e'];refine hi.tm e u tB (fun f hf hd=>?_)
      by_cases e3:f=j
      ·subst e3;intro dh;have:bV ops.toList f=some d:=by simp [bV,gn,g4]
       rw [this] at dh; exact e' (Option.some.inj dh)
      ·exact bT f hf (by rw [dv,hd]; simp [e3])
    ·have aN:f≠j:=fun e3=>by subst e3; rw [dv] at hd; simp at hd
     have bX:DB aE f=false:=by
      rw [dv] at hd;simp only [Bool.or_eq_false_iff] at hd;exact hd.1
     exact hi.un f hf bX p e k1 k2
   ·have eY:j0≤j:=by
     rcases Nat.lt_or_ge j j0 with h' | h'
     ·rw [pj j h' Ar] at h1; cases h1
     ·exact h'
    have Jq:j < m+q:=by
     rcases Nat.lt_or_ge j (m+q) with h' | h'
     ·exact h'
     ·have:=ml i1 (hc.tail j (by simpa using nV) h' i1 (by omega))
      rw [gq] at this; cases this
    obtain ⟨c1,c2,c3⟩:=hc.mid j o (by omega) Jq gn
    have hjj:j=j0:=by
     rcases Nat.lt_or_ge j0 j with h' | h'
     ·rcases c2 j0 h' with J | J
      ·have:=ak j0 (ml j0 J); omega
      ·have:=(hc.rn j0 J).1; omega
     ·omega
    subst hjj;have HF:(ops.toList.take (m+q)).drop j=o::(ops.toList.take (m+q)).drop (j+1):=by
     have hl:j < (ops.toList.take (m+q)).length:=by simp; omega
     rw [List.drop_eq_getElem_cons hl]
     congr 1
     have:=List.getElem?_eq_getElem hl;rw [List.getElem?_take,if_pos Jq,gn] at this;exact (Option.some.inj this).symm
    rw [HF] at h;unfold wpOpIn;rw [ho]
    dsimp only
    rw [if_pos (by simp [Region.wanted,c1])]
    refine VC hE bQ (D':=DB (aE.setIfInBounds j true)) hi (fun t' H' h'=>(Mi h').2) (fun f hf=>?_) (fun f hf hd d dh=>?_) (fun d hd f hf=>?_) h (fun aj t' H' a' w' aS h'=>?_)
    ·have:f≠j:=fun e=>Ar (e ▸ hf)
     rw [dv]; simp [this]
    ·rcases c3 f hf with J | J
     ·rw [ml f J] at hd; cases hd
     ·exact J d dh
    ·exact xI j d Jq (by omega) (by simp [bV,gn,hd]) f hf (fun e=>Ar (e ▸ hf))
    ·refine ih _ (j+1) bz aj t' H' a' w' (by simp [hs]) xL (by omega) (by omega) (fun i iy hf=>?_) (fun i iy=>?_) aS (Mi h').1 tg
     ·rw [dv];by_cases e:i=j
      ·simp [e]
      ·rw [pj i (by omega) hf]; rfl
     ·rw [dv] at iy;by_cases e:i=j
      ·omega
      ·have e2:(i == j)=false:=by simp [e]
       rw [e2,Bool.or_false] at iy;have:=ak i iy; omega
theorem VE (hm:P.follows .mixedOrders=true):nR P O6:=by
 intro E hE r n F bQ ops Q id ν tmps H a w k hi h hk;obtain ⟨m,q,aV,fl,a9,h⟩:=h;have h:=mz h;obtain ⟨PT,h⟩:=yt h;obtain ⟨aeX,h⟩:=yt h;have hc:=R6 a9;obtain ⟨rs,iX,ku,fH⟩:=Fo (P:=P) hE.toEnvOk (ops:=ops.toList) (t0:=tmps) (H:=H) (aV:=aV) (l:=ops.toList.take m) (ms:=aV) (j:=0) (rs:=[]) rfl
  (fun i o ho=>by
   rw [List.getElem?_take] at ho
   split at ho
   ·simpa using ho
   ·cases ho)
  (fun i _=>by simp) (fun i hi=>by omega) h
 have fH:=ua fH;have hlen:0+(ops.toList.take m).length=m:=by rw [List.length_take]; omega
 rw [hlen] at iX ku fH;have hD:DB (Array.replicate ops.size false)=fun _=>false:=by
  funext i
  unfold DB;by_cases h:i < ops.size <;> simp [h]
 have hmd:(ops.toList.drop m).take q=(ops.toList.take (m+q)).drop m:=by
  rw [List.drop_take]; congr 1; omega
 have htl:(ops.toList.drop m).drop q=ops.toList.drop (m+q):=by rw [List.drop_drop]
 rw [hmd,htl] at fH;have aY:m+q≤ops.size:=by have:=hc.le; simpa using this
 refine wpIn_region_any hm ?_;refine Mh (F:=F) (fl:=fl) hc.toOrder (by omega) hc.apart (fun j hj hm i hi hf=>?_) ku ?_ ops.size _ ν a _ (by simp) (fun j o hj=>by rw [hD] at hj; cases hj) (fun i aS=>by rw [hD] at aS; cases aS) ?_ (fun i _ _=>hi.fr _ (by omega)) ?_
 ·by_cases h':j < m+q
  ·rcases (hc.mid j ops[j] hm h' (by simp [hj])).2.1 i (by omega) with h | h
   ·exact h
   ·exact absurd h hf
  ·exact hc.tail j (by simpa using hj) (by omega) i (by omega)
 ·intro fuel aE ν a w hs fk ak dp hi hu;have l6:∀ i d,i < m→bV ops.toList i=some d→d < tmps.length:=by
   intro i d hi hd;obtain ⟨o,q,h1,J,h3,_⟩:=(ku i hi).ok;unfold bV at hd;rw [h1] at hd;exact h3 d hd
  have pM:xq ops.toList m:=by
   intro i j d hi hj h1 J;rcases Nat.decEq i j with aN | he
   ·obtain ⟨o,q,k1,_⟩:=(ku i hi).ok;obtain ⟨p,q',k2,_⟩:=(ku j hj).ok;unfold bV at h1 J;rw [k1] at h1; rw [k2] at J;exact absurd h1 (hc.apart i o j p d hi hj (Ne.symm aN) k1 k2 J).1
   ·exact he
  have e2:kV rs (DB aE) m=rs.map (·.nb):=by
   unfold kV;apply List.ext_getElem?;intro i;rw [List.getElem?_map,List.getElem?_map];by_cases h:i < m
   ·rw [List.getElem?_range h,List.getElem?_eq_getElem (by omega:i < rs.length)]
    simp only [Option.map_some];rw [List.getElem?_eq_getElem (by omega:i < rs.length)]
    cases gm:DB aE i with
    | true=>rfl
    | false =>
     have hf:i∈fl:=Classical.byContradiction fun hn=>by rw [dp i h hn] at gm; cases gm
     obtain ⟨_,o,d,g1,g2,g3,g4,_⟩:=hc.rn i hf;obtain ⟨r',k1,k2,_⟩:=(ku i h).mv o g1 (BN g3) g2;rw [List.getElem?_eq_getElem (by omega:i < rs.length)] at k1
     cases k1;rw [k2]; rfl
   ·rw [List.getElem?_eq_none (by simp; omega),List.getElem?_eq_none (by omega)]; rfl
  have gH:=hi.hp;rw [e2] at hi;refine VD hE bQ hc hk fuel aE m ν ν _ _ a w hs fk (Nat.le_refl _) (by omega) dp ak ⟨?_,fun d u tB bT=>?_,fun f hf hd o d k1 k3=>?_,ν.le_refl,⟨.nil ν,hi.df,hi.hp,hi.fr,hi.kp,hi.own,hi.mono⟩⟩ fH hu
  ·have:=hi.tm.1;rw [rM] at this ⊢;exact this
  ·have HI:(bm ops.toList rs (DB aE) tmps m)[d]?=(bm ops.toList rs (fun i=>decide (i < m)) tmps m)[d]?:=by
    refine yu pM l6 (fun i aS gm=>?_)
    have:DB aE i=true:=by
     by_cases hf:i∈fl
     ·cases PW:DB aE i with
      | true=>rfl
      | false=>exact absurd gm (bT i hf PW)
     ·exact dp i aS hf
    rw [this]; simp [aS]
   rw [← HI] at tB;exact hi.tm.get tB
  ·obtain ⟨As,o',d',g1,g2,g3,g4,g6,g5⟩:=hc.rn f hf;rw [k1] at g1; cases g1;rw [k3] at g4; cases g4;obtain ⟨r',q1,q2,G,qG,q3⟩:=(ku f As).mv o k1 (BN g3) g2;have pJ:∀ (id:Nat) (b:ai),G[id]?=some (some b)→(H++rs.map (·.nb))[id]?=some (some b)∧(H++kV rs (DB aE) m)[id]?=some (some b):=by
    intro id b hb;rcases qG id b hb with ⟨h1,J⟩ | ⟨i,h1,J,h3,h4⟩
    ·rw [List.getElem?_append_left h1,List.getElem?_append_left h1]; exact ⟨J,J⟩
    ·subst h1;have At:i < m:=by omega
     have gm:DB aE i=true:=Classical.byContradiction fun hn=>by
      have DQ:i∈fl:=Classical.byContradiction fun bT=>hn (dp i At bT)
      obtain ⟨_,o2,d2,y1,y2,y3,y4,_⟩:=hc.rn i DQ;obtain ⟨r2,z1,z2,_⟩:=(ku i At).mv o2 y1 (BN y3) y2;rw [z1] at h4;simp [z2] at h4
     rw [List.getElem?_append_right (by omega),List.getElem?_append_right (by omega)]
     rw [show H.length+i - H.length=i by omega]
     refine ⟨?_,rP.2 ⟨At,gm,h4⟩⟩;rw [List.getElem?_map];cases hr:rs[i]? with
     | none=>rw [hr] at h4; cases h4
     | some r2=>rw [hr] at h4; simpa using h4
   have hG:bU ν G w:=⟨fun id b hb=>gH.aJ id b (pJ id b hb).2,fun x y bx bY lx ly hx hy aN ho e1 e2=>gH.sep x y bx bY lx ly (pJ x bx hx).2 (pJ y bY hy).2 aN ho e1 e2⟩
   have hV:∃ G2,oc P ν G2 o.op (bm ops.toList rs (fun i=>decide (i < f)) tmps f) r'.v∧∀ id b,G2[id]?=some (some b)→(H++rs.map (·.nb))[id]?=some (some b)∧∃ n,Ir ops.toList fl H.length=some n∧id < n:=by
    cases hp:mB o.op with
    | true=>exact ⟨[],(q3.1 hp ν w hG).heap [],fun id b hb=>by simp at hb⟩
    | false =>
     obtain ⟨hh,ml⟩:=g3.resolve_left (by rw [hp]; simp)
     refine ⟨G,q3.2 hh ν,fun id b hb=>?_⟩
     rcases qG id b hb with ⟨h1,J⟩ | ⟨i,h1,J,h3,h4⟩
     ·refine ⟨by rw [List.getElem?_append_left h1]; exact J,H.length,?_,h1⟩
      unfold Ir;have:(fl.all fun f=>match ops.toList[f]? with | some o=>mB o.op | none=>true)=false:=by
       rw [List.all_eq_false];exact ⟨f,hf,by rw [k1]; simp [hp]⟩
      rw [this]
     ·obtain ⟨_,o2,d2,y1,y2,y3,y4,_⟩:=hc.rn i (ml i h3);obtain ⟨r2,z1,z2,_⟩:=(ku i (by omega)).mv o2 y1 (BN y3) y2
      rw [z1] at h4;simp [z2] at h4
   obtain ⟨G2,q3,qg⟩:=hV;have Jr:bV ops.toList f=some d:=by simp [bV,k1,k3]
   refine ⟨r'.v,G2,ub _ Jr q1 (by simp [As]) (l6 f d As Jr) m As pM,q3.same fun s hs=>?_,qg⟩
   by_cases hex:∃ i,i < m∧i≠f∧bV ops.toList i=some s
   ·obtain ⟨i,h1,J,h3⟩:=hex;obtain ⟨_,k5⟩:=g5 i s (by omega) J h3
    obtain ⟨_,k7⟩:=k5 hs;have DQ:=(hc.mask f o k1 i k7).1;obtain ⟨o2,r2,w1,w2,_⟩:=(ku i h1).ok;rw [ub _ h3 w2 (by simp [DQ]) (l6 i s h1 h3) f DQ (fun a b c h4 h5=>pM a b c (by omega) (by omega)),ub _ h3 w2 (by simp [h1]) (l6 i s h1 h3) m h1 pM]
   ·have rm:∀ i,i < m→bV ops.toList i=some s→i=f:=fun i h1 J=>Classical.byContradiction fun h3=>hex ⟨i,h1,h3,J⟩
    by_cases QO:s=d
    ·subst QO;exact absurd hs g6
    ·rw [wi _ f (fun i aS _ gm=>by have:=rm i (by omega) gm; omega),wi _ m (fun i aS PW gm=>by
      have:=rm i aS gm;subst this;rw [Jr] at gm; exact absurd (Option.some.inj gm).symm QO)]
 ·rw [hD];have e1:bm ops.toList rs (fun _=>false) tmps m=tmps:=wj (j:=0) (by omega) (fun _ _ _=>rfl)
  rw [e1];have kW:Below w.heap.size w { w with drawn:=w.drawn+1 }:=⟨rfl,rfl,rfl,Nat.le_refl _,fun _ _=>rfl⟩
  refine ⟨hi.tm,hi.df.below kW,(hi.hp.below kW).sG (fun id c cQ=>?_),fun id bu=>hi.fr id (by rw [List.length_append] at bu; omega),hi.kp.below kW,fun id c lc cQ mW dX=>?_,hi.mono⟩
  ·rw [List.getElem?_append] at cQ
   split at cQ
   ·exact cQ
   ·have:=(rP.1 cQ).2.1; cases this
  ·rw [List.getElem?_append] at cQ
   split at cQ
   ·exact hi.own id c lc cQ mW dX
   ·have:=(rP.1 cQ).2.1; cases this
 ·unfold gE;have:=List.length_filter_le (fun i=>!DB (Array.replicate ops.size false) i) (List.range ops.size)
  simpa using this
end
open Go Go.RowKit
def isApp (op:Op):Option (TypeId × Operand × Operand):=match op with
 | .call c=>match c.callee with
  | .builtin .append=>match c.args.toList,c.argTypes.toList with
   | [x,y],[t,t']=>match Nat.beq t t' with
    | true=>some (t,x,y)
    | false=>none
   | _,_=>none
  | _=>none
 | _=>none
theorem Tb {op:Op} {t:TypeId} {x y:Operand} (h:isApp op=some (t,x,y)):∃ c,op=.call c∧c.callee=.builtin .append∧c.args=#[x,y]∧c.argTypes=#[t,t]:=by
 unfold isApp at h
 split at h
 ·rename_i c
  split at h
  ·rename_i hc
   split at h
   ·rename_i x' y' t1 t2 hx ht
    split at h
    ·rename_i hb;cases h;have hb:=Nat.eq_of_beq_eq_true hb;subst hb;exact ⟨c,rfl,hc,Array.ext' hx,Array.ext' ht⟩
    ·cases h
   ·cases h
  ·cases h
 ·cases h
def PX (E:Env) (tmps:List Value) (G:aA) (n0 aK:Nat) (t:TypeId) (x y:Operand) (k:Value→Option Nat→Option ai→Prop):Prop :=
 b9 tmps x fun xv=>b9 tmps y fun yv=>cY E.tt t fun ti=>match ti.kind with
  | .slice e=>cY E.tt e fun te=>zO G te.size yv fun s=>match xv with
   | .slice none 0 0=>match s.m with
    | 0=>k (.slice none 0 0) none none
    | m+1=>((m+1)*te.bytes≤140737488355328)∧k (.slice (some ⟨aK,0,none⟩) (m+1) ao) none (some (o5 te.size s))
   | .slice (some ⟨id,0,none⟩) n c=>gX G id fun b=>match Nat.beq b.ah te.size && Nat.ble n0 id with
    | true=>(n=b.n∧(n+s.m)*te.bytes≤140737488355328)∧wL b s fun b'=>k (.slice (some ⟨aK,0,none⟩) (n+s.m) ao) (some (id - n0)) (some b')
    | false=>False
   | _=>False
  | _=>False
structure EPost (ν aj:Nu) (aK:Nat) (iW:Option Loc) (w w':World) (v v':Value) (nb:Option ai):Prop where
 le:ν.le aj
 only:∀ id,id≠aK→aj id=ν id
 val:au aj v v'
 DR:Below w.heap.size w w'∨∃ l,iW=some l∧(∃ cur t,w.heap[l.aJ]?=some (.cells cur t (0,0)))∧(∀ q,q≠l.aJ→w'.heap[q]?=w.heap[q]?)∧w.heap.size≤w'.heap.size∧w'.os=w.os∧w'.tape=w.tape∧w'.output=w.output
 z6:nb=none→aj=ν
 il:∀ b,nb=some b→∃ l,aj aK=some l∧bS aj l b w'∧(w.heap.size≤l.aJ∨∃ lo,iW=some lo∧l.aJ=lo.aJ)
theorem nz.e {ν aj:Nu} {aK:Nat} {w w':World} {v v':Value} {nb:Option ai} (h:nz ν aj aK w w' v v' nb) (iW:Option Loc):EPost ν aj aK iW w w' v v' nb :=
 ⟨h.le,h.only,h.val,.inl h.below,h.z6,fun b hb=>let ⟨l,h1,J,h3⟩:=h.il b hb; ⟨l,h1,J,.inl h3⟩⟩
section
variable {P:Program} {E:Env}
theorem Us (hE:EnvOk P E) {tmps:List Value} {G:aA} {n0 aK:Nat} {t:TypeId} {x y:Operand} {k:Value→Option Nat→Option ai→Prop} (h:PX E tmps G n0 aK t x y k) :
  ∃ v gA nb,k v gA nb∧(∀ i,gA=some i→∃ b,G[n0+i]?=some (some b)∧b.own=true) ∧
   ∀ (ν:Nu) (a:Act) (w:World) (ty:TypeId),fC ν tmps a x→fC ν tmps a y→bU ν G w→ν aK=none →
    ∃ v' w' aj,(Builtin.append_ #[t,t] ty #[a.eval x,a.eval y]).run P w=.ok v' w'∧EPost ν aj aK (gA.bind fun i=>ν (n0+i)) w w' v v' nb:=by
 obtain ⟨xv,J,vC⟩:=c9 h;clear h;obtain ⟨yv,h,Ak⟩:=c9 J;clear J;obtain ⟨ti,ht,J⟩:=c5 h;clear h;obtain ⟨d,hu,hd⟩:=(hE.ty _ _ ht).under
 split at J
 ·rename_i e hk;rw [hk] at hd;have hd:d=.slice e:=hd;subst hd;obtain ⟨te,he,h⟩:=c5 J;clear J;have a9:=hE.ty _ _ he;obtain ⟨i,iS,gG,nQ,z,hz,iH⟩:=a9.info;obtain ⟨s,J,xX,hs⟩:=Fi h;clear h;have jH:z.cells.size=te.size:=by rw [iH]; simpa using a9.len
  have adR:=a9.bit;have small:∀ q,q*te.bytes≤140737488355328→q≤140737488355328:=fun q hq=>by
   have:q*1≤q*te.bytes:=Nat.mul_le_mul_left _ (by omega)
   omega
  split at J
  ·-- onto nil
   split at J
   ·rename_i hm;refine ⟨_,_,_,J,(fun i hi=>by cases hi),fun ν a w ty vF Au hH hn=>?_⟩
    have hx:=(vC ν a vF).p6;obtain ⟨oy,cy,L,kH,kI,hC,j8⟩:=hs ν w _ hH (Ak ν a Au);have hL:L.length=s.m*i.size:=by rw [gG]; exact hC.len
    refine ⟨_,w,ν,?_,⟨ν.le_refl,fun _ _=>rfl,.iR,.inl (Below.refl _ _),fun _=>rfl,(fun b hb=>by cases hb)⟩⟩
    rw [hx,kH];have:=rN (P:=P) (w:=w) (ty:=ty) hu iS (A:=none) (oy:=oy) (n:=0) (c:=0) (m:=s.m) (cy:=cy) (L:=L) hL j8 kI (by omega) (w2:=w) (fun a ha=>by cases ha) (fun _=>rfl)
    rw [hm] at this ⊢
    simpa using this
   ·rename_i m hm;obtain ⟨hB,h⟩:=J;refine ⟨_,_,_,h,(fun i hi=>by cases hi),fun ν a w ty vF Au hH hn=>?_⟩
    have hx:=(vC ν a vF).p6;obtain ⟨oy,cy,L,kH,kI,hC,j8⟩:=hs ν w _ hH (Ak ν a Au);have hL:L.length=s.m*i.size:=by rw [gG]; exact hC.len
    have qR:s.kz=true→∀ r,r < s.m→∀ v∈s.get r,cW v=true:=fun h r hr v hv=>xX h r hr ν w hH v hv
    have bK:=A4 (P:=P) (w:=w) (ty:=ty) hu iS hz (A:=none) (oy:=oy) (n:=0) (c:=0) (m:=s.m) (cy:=cy) (O:=[]) (L:=L) (by simp) (fun a ha=>by cases ha) (fun _=>⟨rfl,rfl⟩) hL j8 kI (by omega) (by omega) (by rw [nQ,hm]; simpa using hB) (by have:=small _ hB; omega)
    have eG:Ext (o5 te.size s) te.size (fun _=>[]) 0 s.get s.m s.kz:=by
     cases s with
     | fl m g=>exact ⟨rfl,rfl,by simp [o5,ai.n,Src.m],fun r hr=>by rw [fO (by omega)]; rfl,fun _=>rfl⟩
     | ex L=>exact ⟨rfl,rfl,by simp [o5,ai.n,Src.m],fun r hr=>by rw [fO (by omega)]; rfl,fun h=>by simp [o5,ai.jd] at h⟩
    have xW:=hC.mono (Nu.ko (l:=⟨w.heap.size,0,te.size,grownCap w (0+s.m) 0 e⟩) hn);have iI:=v7 (CR.nil _ te.size (fun _=>[])) xW eG (fun h=>⟨fun r hr=>absurd hr (by omega),qR h⟩) (w:=w) jH (iW:=0) (e:=e)
    have eY:=grownCap_ge w (0+s.m) 0 e;have cN:au (ν.add aK ⟨w.heap.size,0,te.size,grownCap w (0+s.m) 0 e⟩) (.slice (some ⟨aK,0,none⟩) (m+1) ao) (.slice (some ⟨w.heap.size,0,none⟩) (0+s.m) (grownCap w (0+s.m) 0 e)):=by
     have:=au.slice (ν:=ν.add aK ⟨w.heap.size,0,te.size,grownCap w (0+s.m) 0 e⟩) aK 0 (0+s.m) ao (grownCap w (0+s.m) 0 e) _ Nu.add_same (.inr rfl) eY (by simp)
     rw [show m+1=0+s.m by omega]
     simpa [Loc.at] using this
    have hq:=nh hn iI (vY w _ _ _ _) (Nat.le_refl _) cN;refine ⟨_,_,_,?_,hq.e _⟩;rw [hx,kH]
    simpa using bK
  ·rename_i id n c;obtain ⟨b,hb,h⟩:=gK J;clear J
   split at h
   ·rename_i dF;rw [Bool.and_eq_true] at dF;obtain ⟨dF,PY⟩:=dF;have dF:b.ah=te.size:=Nat.eq_of_beq_eq_true dF;have PY:n0≤id:=Nat.le_of_ble_eq_true PY;obtain ⟨⟨fh,mj⟩,h⟩:=h;obtain ⟨b',h,ho,eG⟩:=A5 h;have bu:n0+(id - n0)=id:=by omega
    refine ⟨_,_,_,h,(fun i hi=>by cases hi; rw [bu]; exact ⟨b,hb,(ai.dm ho).1⟩),fun ν a w ty vF Au hH hn=>?_⟩
    have hx:=vC ν a vF;obtain ⟨oy,cy,L,kH,kI,hC,j8⟩:=hs ν w _ hH (Ak ν a Au);have hL:L.length=s.m*i.size:=by rw [gG]; exact hC.len
    have qR:s.kz=true→∀ r,r < s.m→∀ v∈s.get r,cW v=true:=fun h r hr v hv=>xX h r hr ν w hH v hv
    obtain ⟨l,hl,hB⟩:=hH.aJ id b hb;rw [← dF] at hC jH;have aN:id≠aK:=fun e=>by rw [e,hn] at hl; cases hl
    have hold:(some (id - n0)).bind (fun i=>ν (n0+i))=some l:=by
     show ν (n0+(id - n0))=some l
     rw [bu]; exact hl
    rw [hold];have I8:∃ A c',a.eval x=.slice (some A) n c'∧n≤c'∧((A=l.at 0 0∧c'≤l.cap)∨(n=0∧c'=0)):=by
     rcases hx.tX with ⟨l',c',cP,h1,J,h3,e⟩ | ⟨h1,J,bb,e⟩
     ·rw [hl] at cP; cases cP;exact ⟨_,c',e,J,.inl ⟨rfl,by omega⟩⟩
     ·exact ⟨bb,0,by rw [e,h1],by omega,.inr ⟨h1,rfl⟩⟩
    obtain ⟨A,c',cK,DF,hA⟩:=I8;have hO:∃ O,CR ν b.ah b.row n O∧∀ (j:Nat) u,O[j]?=some u→w.cell? (A.add j)=some u:=by
     rcases hA with ⟨rfl,_⟩ | ⟨h0,_⟩
     ·obtain ⟨O,h1,J⟩:=CR.G0 hB (row:=0) (m:=n) (by omega)
      exact ⟨O,h1.congr (fun r hr=>by simp),J⟩
     ·subst h0;exact ⟨[],CR.nil _ _ _,fun j u hu=>by simp at hu⟩
    obtain ⟨O,hO,rj⟩:=hO;have th:b.ph=true→∀ r,r < b.n→∀ v∈b.row r,cW v=true:=fun h r hr v hv=>by
     cases b with
     | flat o n e g=>exact hB.plain rfl r hr v hv
     | aR o e rows =>
      have h:rows.all jQ=true:=h;have hr:r < rows.length:=hr;have hv:v∈rows.getD r []:=hv;rw [List.getD_eq_getElem?_getD,List.getElem?_eq_getElem hr] at hv;exact ye (List.all_eq_true.1 h _ (List.getElem_mem hr)) v hv
     | cB r=>cases h
    have mM:(b.ph && s.kz)=true→(∀ r,r < b.n→∀ v∈b.row r,cW v=true)∧∀ r,r < s.m→∀ v∈s.get r,cW v=true:=fun h=>by
     rw [Bool.and_eq_true] at h; exact ⟨th h.1,qR h.2⟩
    by_cases c7:n+s.m≤c'
    ·-- in its place
     obtain ⟨cur,tt,j5,aY,acu⟩:=hB.own (ai.dm ho).1 (ai.dm ho).2;have hle:=Nu.ko (l:=l) hn;rcases hA with ⟨rfl,fG⟩ | ⟨h0,ox⟩
     ·obtain ⟨h1,J⟩:=hB.extend (P:=P) ho (Nat.le_refl _) hC eG mM (by omega)
      refine ⟨_,w.setCells l.aJ (l.base+b.n*l.ah) L,ν.add aK l,?_,⟨hle,fun j hj=>Nu.jc hj,.slice _ _ _ _ _ l Nu.add_same (.inr rfl) c7 (by omega),.inr ⟨l,rfl,⟨cur,tt,j5⟩,fun q hq=>rK _ _ _ _ _ hq,by rw [oO]; exact Nat.le_refl _,(vX _ _ _ _).1,(vX _ _ _ _).2.1,(vX _ _ _ _).2.2⟩,(fun h=>by cases h),fun b2 dW=>by cases dW; exact ⟨l,Nu.add_same,J.mono hle,.inr ⟨l,rfl,rfl⟩⟩⟩⟩
      rw [cK,kH];refine rN (P:=P) hu iS hL j8 kI c7 (fun A' tj=>?_) (fun h=>by cases h)
      cases tj;have:(l.at 0 0).add (n*i.size)=l.at b.n 0:=by
       rw [Loc.jS]; unfold Loc.at; congr 1;rw [hB.ah,gG,dF,fh]; omega
      rw [this]; exact h1
     ·have kG:s.m=0:=by omega
      have xY:L=[]:=List.eq_nil_of_length_eq_zero (by rw [hL,kG]; simp)
      refine ⟨.slice (some A) (n+s.m) c',w,ν.add aK l,?_,⟨hle,fun j hj=>Nu.jc hj,?_,.inl (Below.refl _ _),(fun h=>by cases h),fun b2 dW=>by
       cases dW;have vG:b'.n=b.n:=by rw [eG.num,kG]; rfl
       have bd:∀ r,r < b.n→b'.row r=b.row r:=fun r hr=>by rw [eG.row r (by omega),iO hr]
       refine ⟨l,Nu.add_same,bS.mono hle ⟨by rw [eG.ah]; exact hB.ah,fun r hr=>by rw [vG] at hr; rw [bd r hr,eG.ah]; exact hB.len r hr,
        fun r hr j v hv=>by rw [vG] at hr; rw [bd r hr] at hv; exact hB.cell r hr j v hv,
        fun h r hr v hv=>by rw [vG] at hr; rw [bd r hr] at hv; exact (mM (eG.flat h)).1 r hr v hv,
        fun r hr v hv=>by rw [vG] at hr; rw [bd r hr] at hv; exact hB.one r hr v hv,
        fun _ _=>⟨cur,tt,j5,aY,by rw [vG]; exact acu⟩,(fun r h=>by rw [(ai.dm eG.own).2] at h; cases h),hB.live⟩,.inr ⟨l,rfl,rfl⟩⟩⟩⟩
      ·rw [cK,kH];exact rN (P:=P) hu iS hL j8 kI c7 (fun A' tj=>by rw [xY]; rfl) (fun h=>by cases h)
      ·subst ox;rw [show n+s.m=0 by omega]
       exact .void _ _ _ _ (.inr rfl)
    ·have bK:(Builtin.append_ #[t,t] ty #[a.eval x,a.eval y]).run P w=.ok (.slice (some ⟨w.heap.size,0,none⟩) (n+s.m) (grownCap w (n+s.m) c' e)) (w.drew.alloc (tZ (O++L).toArray z (grownCap w (n+s.m) c' e - (n+s.m)) e)):=by
      rw [cK,kH];exact A4 (P:=P) (w:=w) (ty:=ty) hu iS hz (by rw [hO.len,gG,dF]) (fun a ha=>by cases ha; exact rj) (fun h=>by cases h) hL j8 kI DF (by omega) (by rw [nQ]; exact mj) (small _ mj)
     have lf:=Nu.ko (l:=⟨w.heap.size,0,b.ah,grownCap w (n+s.m) c' e⟩) hn;have Ie:Ext b' b.ah b.row n s.get s.m (b.ph && s.kz):=by rw [fh]; exact eG
     have iI:=v7 (hO.mono lf) (hC.mono lf) Ie (fun h=>⟨fun r hr v hv=>(mM h).1 r (by omega) v hv,(mM h).2⟩) (w:=w) jH (iW:=c') (e:=e)
     have eY:=grownCap_ge w (n+s.m) c' e;have cN:au (ν.add aK ⟨w.heap.size,0,b.ah,grownCap w (n+s.m) c' e⟩) (.slice (some ⟨aK,0,none⟩) (n+s.m) ao) (.slice (some ⟨w.heap.size,0,none⟩) (n+s.m) (grownCap w (n+s.m) c' e)):=by
      have:=au.slice (ν:=ν.add aK ⟨w.heap.size,0,b.ah,grownCap w (n+s.m) c' e⟩) aK 0 (n+s.m) ao (grownCap w (n+s.m) c' e) _ Nu.add_same (.inr rfl) eY (by simp)
      simpa [Loc.at] using this
     have hq:=nh hn iI (vY w _ _ _ _) (Nat.le_refl _) cN;exact ⟨_,_,_,bK,hq.e _⟩
   ·exact h.elim
  ·exact J.elim
 ·exact J.elim
end
end Go.Ae
