import Derived.RangeFuncLeaves
import Derived.RangeFuncRecord
import Derived.KernelRfl
import Derived.Test.YtlapbjdhekcipaaGreatWA
set_option linter.unusedVariables false
set_option linter.unusedSimpArgs false
namespace Go.Ae
open Go Go.RowKit
def oW (ae:Nat):Src→ai
 | .fl m g=>.flat true m ae g
 | .ex L=>.aS true ae L
def ai.o7:ai→Bool
 | .flat _ _ _ _=>true
 | .aS _ _ rows=>rows.all jM
 | .cj _=>false
def wR (b:ai) (s:Src) (k:ai→Prop):Prop :=
 match b,s with
 | .flat true n ae get,.fl m news=>k (.flat true (n+m) ae (iM get n news))
 | .aS true ae rows,.ex L=>sQ rows L fun l=>k (.aS true ae l)
 | .aS true ae rows,.fl m news=>match Nat.ble 2 ae && rows.all jM with
  | true=>k (.flat true (rows.length+m) ae (iM (fun j=>rows.getD j []) rows.length news))
  | false=>xr news 0 m fun L=>sQ rows L fun l=>k (.aS true ae l)
 | _,_=>False
def CS (b:ai) (row n:Nat) (s:Src) (k:ai→Prop):Prop :=
 match b,s with
 | .flat _ _ ae get,.fl m news=>k (.flat true (n+m) ae (iM (fun j=>get (fa row j)) n news))
 | .aS _ ae rows,.ex L=>sD rows row n fun L0=>sQ L0 L fun l=>k (.aS true ae l)
 | .aS _ ae rows,.fl m news=>match Nat.ble 2 ae && rows.all jM with
  | true=>k (.flat true (n+m) ae (iM (fun j=>rows.getD (fa row j) []) n news))
  | false=>sD rows row n fun L0=>xr news 0 m fun L=>sQ L0 L fun l=>k (.aS true ae l)
 | _,_=>False
structure Ext (b':ai) (ae:Nat) (g:Nat→List Value) (n:Nat) (h:Nat→List Value) (m:Nat) (fl:Bool):Prop where
 own:b'.n5=true
 ae:b'.ae=ae
 num:b'.n=n+m
 row:∀ r,r < n+m→b'.row r=iM g n h r
 flat:b'.jc=true→fl=true
theorem RS {l m:List (List Value)} {r:Nat} (h:r < l.length):(l++m).getD r []=l.getD r []:=by
 simp [List.getD,List.getElem?_append_left h]
theorem RT {l m:List (List Value)} {r:Nat} (h:l.length≤r):(l++m).getD r []=m.getD (r - l.length) []:=by
 simp [List.getD,List.getElem?_append_right h]
theorem BL {ae:Nat} {L0 L:List (List Value)} {g h:Nat→List Value} {n m:Nat} (h0:L0.length=n) (h1:L.length=m) (hg:∀ r,r < n→L0.getD r []=g r) (hh:∀ r,r < m→L.getD r []=h r) (fl:Bool) :
  Ext (.aS true ae (L0++L)) ae g n h m fl:=by
 refine ⟨rfl,rfl,by simp [ai.n,h0,h1],fun r hr=>?_,fun h=>by simp [ai.jc] at h⟩
 show (L0++L).getD r []=_
 by_cases al:r < n
 ·rw [RS (by omega),jo al,hg r al]
 ·rw [RT (by omega),gD (by omega),h0,hh _ (by omega)]
theorem A3 {b:ai} {s:Src} {k:ai→Prop} (h:wR b s k):∃ b',k b'∧b.n5=true∧Ext b' b.ae b.row b.n s.get s.m (b.o7 && s.kv):=by
 cases b with
 | flat o n e g =>
  cases o with
  | false=>cases s <;> exact h.elim
  | true =>
   cases s with
   | fl m news=>exact ⟨_,h,rfl,rfl,rfl,rfl,fun r _=>rfl,fun _=>rfl⟩
   | ex L=>exact h.elim
 | aS o e rows =>
  cases o with
  | false=>cases s <;> exact h.elim
  | true =>
   cases s with
   | fl m news =>
    have h:match Nat.ble 2 e && rows.all jM with
     | true=>k (.flat true (rows.length+m) e (iM (fun j=>rows.getD j []) rows.length news))
     | false=>xr news 0 m fun L=>sQ rows L fun l=>k (.aS true e l):=h
    split at h
    ·rename_i hs;rw [Bool.and_eq_true] at hs;exact ⟨_,h,rfl,rfl,rfl,rfl,fun r _=>rfl,fun _=>by show (rows.all jM && true)=true; rw [hs.2]; rfl⟩
    obtain ⟨L,h,h1,J⟩:=E5 h;have h:=yy h;exact ⟨_,h,rfl,BL rfl h1 (fun _ _=>rfl) (fun r hr=>by rw [J r hr]; simp [Src.get]) _⟩
   | ex L =>
    have h:=yy h;exact ⟨_,h,rfl,BL rfl rfl (fun _ _=>rfl) (fun r hr=>rfl) _⟩
 | cj r=>cases s <;> exact h.elim
theorem Li {b:ai} {row n:Nat} {s:Src} {k:ai→Prop} (h:CS b row n s k):∃ b',k b'∧Ext b' b.ae (fun j=>b.row (row+j)) n s.get s.m (b.o7 && s.kv):=by
 cases b with
 | flat o N e g =>
  cases s with
  | fl m news=>exact ⟨_,h,rfl,rfl,rfl,fun r hr=>by simp [ai.row,aA,Src.get,Src.m],fun _=>rfl⟩
  | ex L=>exact h.elim
 | aS o e rows =>
  have a8:∀ (L0:List (List Value)),(L0.length=n∧row+n≤rows.length)→(∀ (j:Nat) v,L0[j]?=some v→rows[row+j]?=some v)→∀ r,r < n→L0.getD r []=(ai.aS o e rows).row (row+r):=by
   intro L0 h0 h1 r hr;have al:r < L0.length:=by omega
   have:=h1 r _ (List.getElem?_eq_getElem al);simp [ai.row,List.getD,this,List.getElem?_eq_getElem al]
  cases s with
  | fl m news =>
   have h:match Nat.ble 2 e && rows.all jM with
    | true=>k (.flat true (n+m) e (iM (fun j=>rows.getD (fa row j) []) n news))
    | false=>sD rows row n fun L0=>xr news 0 m fun L=>sQ L0 L fun l=>k (.aS true e l):=h
   split at h
   ·rename_i hs;rw [Bool.and_eq_true] at hs;exact ⟨_,h,rfl,rfl,rfl,fun r hr=>by simp [ai.row,aA,Src.get,Src.m],fun _=>by show (rows.all jM && true)=true; rw [hs.2]; rfl⟩
   obtain ⟨L0,h,h0,h3⟩:=yr h;obtain ⟨L,h,h1,J⟩:=E5 h;have h:=yy h;exact ⟨_,h,BL h0.1 h1 (a8 L0 h0 h3) (fun r hr=>by rw [J r hr]; simp [Src.get]) _⟩
  | ex L =>
   obtain ⟨L0,h,h0,h3⟩:=yr h;have h:=yy h;exact ⟨_,h,BL h0.1 rfl (a8 L0 h0 h3) (fun r hr=>rfl) _⟩
 | cj r=>cases s <;> exact h.elim
def jN (g:Nat→List Value) (q:Nat) (h:Nat→List Value) (m:Nat):Nat→List Value:=fun j=>bif Nat.blt j q then g j else bif Nat.blt j (q+m) then h (j - q) else g j
theorem Hv {a b:Nat} (h:b≤a):Nat.blt a b=false:=by
 cases e:Nat.blt a b with
 | false=>rfl
 | true=>rw [Nat.blt_eq] at e; omega
theorem S6 {g h:Nat→List Value} {q m j:Nat} (hj:j < q):jN g q h m j=g j:=by
 have:Nat.blt j q=true:=by rw [Nat.blt_eq]; exact hj
 simp [jN,this]
theorem S7 {g h:Nat→List Value} {q m j:Nat} (h1:q≤j) (J:j < q+m):jN g q h m j=h (j - q):=by
 have:Nat.blt j (q+m)=true:=by rw [Nat.blt_eq]; exact J
 simp [jN,this,Hv h1]
theorem S8 {g h:Nat→List Value} {q m j:Nat} (hj:q+m≤j):jN g q h m j=g j:=by
 simp [jN,Hv hj,Hv (show q≤j by omega)]
def Gu (E:Env) (tmps:List Value) (H:ay) (t:TypeId) (xv yv:Value) (k:Value→List Value→ay→Prop):Prop :=
 cK E.tt t fun ti=>match ti.kind with
  | .slice e=>cK E.tt e fun te=>zQ H te.size yv fun s=>match xv with
   | .slice none 0 0=>match s.m with
    | 0=>k (.slice none 0 0) tmps H
    | m+1=>((m+1)*te.bytes≤140737488355328)∧jz H fun aK=>o5 H (some (oW te.size s)) fun H'=>k (.slice (some ⟨aK,0,none⟩) (m+1) aO) tmps H'
   | .slice (some ⟨id,row,none⟩) n c=>gR H id fun b=>match Nat.beq b.ae te.size with
    | true=>match decide (c=aO) with
     | false=>br (Nat.ble (n+s.m) c)
      (row+n=b.n∧wR b s fun b'=>jy H id (some b') fun H'=>k (.slice (some ⟨id,row,none⟩) (n+s.m) c) tmps H')
      ((row+n≤b.n∧(n+s.m)*te.bytes≤140737488355328)∧CS b row n s fun b'=>jz H fun aK=>o5 H (some b') fun H'=>k (.slice (some ⟨aK,0,none⟩) (n+s.m) aO) tmps H')
     | true=>match E.iD with
      | true=>match row with
       | 0=>(E.base≤id∧(n≤b.n∧b.n5=true)∧(n+s.m)*te.bytes≤140737488355328)∧CS b 0 n s fun b1=>zu id b1 fun b'=>∃ aa,∀ a:Nat→Value,uQ a id aa 0 tmps fun zv=>xq id H fun H1=>jy H1 id (some b') fun H'=>k (.slice (some ⟨id,0,none⟩) (n+s.m) aO) zv H'
       | _=>False
      | false=>match Nat.ble E.base id with
       | true=>match row with
        | 0=>(E.base≤id∧n=b.n∧(n+s.m)*te.bytes≤140737488355328)∧wR b s fun b1=>zu id b1 fun b'=>∃ aa,∀ a:Nat→Value,uQ a id aa 0 tmps fun zv=>xq id H fun H1=>jy H1 id (some b') fun H'=>k (.slice (some ⟨id,0,none⟩) (n+s.m) aO) zv H'
        | _=>False
       | false=>match row with
        | 0=>(n=b.n∧(n+s.m)*te.bytes≤140737488355328)∧wR b s fun b'=>jy H id none fun H1=>jz H1 fun aK=>o5 H1 (some b') fun H'=>k (.slice (some ⟨aK,0,none⟩) (n+s.m) aO) tmps H'
        | _=>False
    | false=>False
   | .slice (some ⟨id,row,some b0⟩) n c=>gR H id fun b=>match Nat.beq b.ae te.size with
    | true=>match b,s with
     | .flat true N ae get,.fl m news=>(n+m≤b0∧row+(n+m)≤N)∧jy H id (some (.flat true N ae (jN get (fa row n) news m))) fun H'=>k (.slice (some ⟨id,row,some b0⟩) (n+m) c) tmps H'
     | _,_=>False
    | false=>False
   | _=>False
  | _=>False
def OC (E:Env) (tmps:List Value) (H:ay) (t:TypeId) (x:Operand) (k:ay→Prop):Prop :=
 bZ tmps x fun xv=>cK E.tt t fun ti=>match ti.kind with
  | .slice e=>cK E.tt e fun te=>match xv with
   | .slice (some ⟨id,row,_⟩) n _=>gR H id fun b=>match Nat.beq b.ae te.size with
    | true=>match b with
     | .flat true N ae get=>(row+n≤N∧mH te.zero=true)∧jy H id (some (.flat true N ae (jN get row (fun _=>te.zero) n))) k
     | _=>False
    | false=>False
   | _=>False
  | _=>False
def Gv (E:Env) (H:ay) (t:TypeId) (xv yv:Value) (k:Value→ay→Prop):Prop :=
 cK E.tt t fun ti=>match ti.kind with
  | .slice e=>cK E.tt e fun te=>zQ H te.size yv fun s=>match s,xv with
   | .fl m news,.slice (some ⟨id,row,_⟩) n _=>gR H id fun b=>match Nat.beq b.ae te.size with
    | true=>match b with
     | .flat true N ae get=>row+n≤N∧jy H id (some (.flat true N ae (jN get row news (Nat.min m n)))) fun H'=>k (.int .i64 (Nat.min m n)) H'
     | _=>False
    | false=>False
   | _,_=>False
  | _=>False
def NL (E:Env) (tmps:List Value) (H:ay) (t:TypeId) (x y:Operand) (k:Value→List Value→ay→Prop):Prop :=
 bZ tmps x fun xv=>bZ tmps y fun yv=>Gu E tmps H t xv yv k
def BM:Value→Bool
 | .slice (some _) _ c=>!decide (c=aO)
 | _=>true
section
variable {P:Program} {E:Env} {F:Fr}
theorem Ez (z:Array Value) (n:Nat):(Builtin.zeroCells z n).size=n*z.size:=by simp [Builtin.zeroCells]
theorem SA {O L:List Value} {z:Value} {k q:Nat} (hq:q < (O++L).length):((O++L).toArray++Builtin.zeroCells z.cells k)[q]?=(O++L)[q]?:=by
 rw [Array.getElem?_append_left (by simpa using hq)]
 simp
theorem bQ.extend {ν:Nu} {l:Loc} {b b':ai} {w:World} (hB:bQ ν l b w) (ho:b.n5=true) {n m:Nat} (bJ:n≤b.n) {news:Nat→List Value} {L:List Value} {fl:Bool}
  (hC:CR ν b.ae news m L) (hx:Ext b' b.ae b.row n news m fl) (s8:fl=true→(∀ r,r < b.n→∀ v∈b.row r,cH v=true)∧∀ r,r < m→∀ v∈news r,cH v=true) (gg:n+m≤l.cap) :
  (storeCells (l.at n 0) L).run P w=.ok () (w.setCells l.aI (l.base+n*l.ae) L)∧bQ ν l b' (w.setCells l.aI (l.base+n*l.ae) L):=by
 obtain ⟨cur,t,jY,bm,_⟩:=hB.own (ai.cY ho).1 (ai.cY ho).2;have he:=hB.ae;have xL:l.base+n*l.ae+L.length≤cur.size:=by
  rw [hC.len,he];have:(n+m)*b.ae≤l.cap*b.ae:=Nat.mul_le_mul_right _ gg;rw [Nat.add_mul] at this;rw [he] at bm;omega
 have sE:∀ j,j < L.length→(w.cell? ⟨l.aI,l.base+n*l.ae+j,none⟩).isSome=true:=by
  intro j hj;simp only [World.cell?];rw [jY];simp;omega
 refine ⟨?_,?_⟩
 ·have:=run_storeCells_cells (P:=P) l.aI (l.base+n*l.ae) L 0 w (by simpa using sE) (fun j hj=>by simp [World.frozen?,jY]) hC.one
  simpa [Loc.at] using this
 ·obtain ⟨ph,J,h3⟩:=AZ l.aI L (l.base+n*l.ae) w cur t jY;refine ⟨by rw [hx.ae]; exact he,fun r hr=>?_,fun r hr j v hv=>?_,fun h r hr v hv=>?_,fun r hr v hv=>?_,fun _ _=>⟨ph,t,J,by rw [h3]; exact bm,by rw [hx.num]; exact gg⟩,(fun r h=>by rw [(ai.cY hx.own).2] at h; cases h),by rw [oJ]; exact hB.live⟩
  ·rw [hx.num] at hr;rw [hx.row r hr,hx.ae];by_cases h:r < n
   ·rw [jo h]; exact hB.len r (by omega)
   ·rw [gD (by omega)]; exact hC.row _ (by omega)
  ·rw [hx.num] at hr;rw [hx.row r hr] at hv;by_cases h:r < n
   ·rw [jo h] at hv;obtain ⟨v',h4,h5⟩:=hB.cell r (by omega) j v hv
    have hj:j < b.ae:=by rw [← hB.len r (by omega)]; exact (List.getElem?_eq_some_iff.1 hv).1
    refine ⟨v',?_,h5⟩;rw [World.cell?_setCells_out l.aI _ _ _ _ (fun _ _=>?_)]
    ·exact h4
    ·left
     simp only [Loc.at,he];have:(r+1)*b.ae≤n*b.ae:=Nat.mul_le_mul_right _ h;rw [Nat.add_mul] at this; omega
   ·rw [gD (by omega)] at hv
    obtain ⟨v',h4,h5⟩:=hC.cell (r - n) (by omega) j v hv
    have al:=(List.getElem?_eq_some_iff.1 h4).1;refine ⟨v',?_,h5⟩;have:=World.cell?_setCells_in l.aI L (l.base+n*l.ae) w sE _ al;have e:l.at r j=⟨l.aI,l.base+n*l.ae+((r - n)*b.ae+j),none⟩:=by
     unfold Loc.at
     congr 1
     rw [he];have:r*b.ae=n*b.ae+(r - n)*b.ae:=by rw [← Nat.add_mul]; congr 1; omega
     omega
    rw [e,this,← h4,List.getElem?_eq_getElem al]
  ·rw [hx.num] at hr;rw [hx.row r hr] at hv;obtain ⟨h6,h7⟩:=s8 (hx.flat h);by_cases h:r < n
   ·rw [jo h] at hv; exact h6 r (by omega) v hv
   ·rw [gD (by omega)] at hv; exact h7 _ (by omega) v hv
  ·rw [hx.num] at hr;rw [hx.row r hr] at hv;by_cases h:r < n
   ·rw [jo h] at hv; exact hB.one r (by omega) v hv
   ·rw [gD (by omega)] at hv; exact hC.sO _ (by omega) v hv
theorem Kept.setCells {O:Nat→Prop} {W w:World} (h:Kept O W w) {b:Nat} (hb:O b∨W.heap.size≤b) (o:Nat) (L:List Value):Kept O W (w.setCells b o L):=by
 obtain ⟨o1,o2,o3⟩:=wa b L o w;refine ⟨o1.trans h.os,o2.trans h.tape,o3.trans h.output,by rw [oJ]; exact h.size,fun q h1 J=>?_⟩
 rw [rK]
 ·exact h.aI q h1 J
 ·intro e;subst e;rcases hb with h' | h'
  ·exact J h'
  ·omega
theorem wh {ν:Nu} {ae n m:Nat} {g h:Nat→List Value} {O L:List Value} {b':ai} {fl:Bool} (hO:CR ν ae g n O) (hC:CR ν ae h m L) (hx:Ext b' ae g n h m fl)
  (s8:fl=true→(∀ r,r < n→∀ v∈g r,cH v=true)∧∀ r,r < m→∀ v∈h r,cH v=true) {w:World} {z:Value} (hz:z.cells.size=ae) {iT:Nat} {e:TypeId} :
  bQ ν ⟨w.heap.size,0,ae,grownCap w (n+m) iT e⟩ b' (w.drew.alloc (ud (O++L).toArray z (grownCap w (n+m) iT e - (n+m)) e)):=by
 have eH:=grownCap_ge w (n+m) iT e;have QH:=hO.append hC;refine Xc QH hx.row hx.num hx.ae (fun hf r hr v hv=>?_) (C:=(O++L).toArray++Builtin.zeroCells z.cells (grownCap w (n+m) iT e - (n+m))) (t:=e) ?_ (fun q hq=>SA hq) eH ?_ (ai.cY hx.own).2
 ·obtain ⟨h1,J⟩:=s8 (hx.flat hf);by_cases h:r < n
  ·rw [jo h] at hv; exact h1 r h v hv
  ·rw [gD (by omega)] at hv; exact J _ (by omega) v hv
 ·show (w.heap.push _)[w.heap.size]?=_
  simp [ud]
 ·rw [Array.size_append,Ez,hz];simp only [List.size_toArray];rw [QH.len,← Nat.add_mul];apply Nat.le_of_eq
  congr 1
  omega
theorem wb (w:World) (C:Array Value) (z:Value) (k:Nat) (e:TypeId):Below w.heap.size w (w.drew.alloc (ud C z k e)):=((Below.refl _ w).drew).alloc (Nat.le_refl _) _
theorem bQ.iD {ν:Nu} {l:Loc} {N ae:Nat} {get:Nat→List Value} {w:World} (hB:bQ ν l (.flat true N ae get) w) {q m:Nat} (hq:q+m≤N) {news:Nat→List Value} {L:List Value}
  (hC:CR ν ae news m L) (hs:∀ r,r < m→∀ v∈news r,cH v=true) :
  (storeCells (l.at q 0) L).run P w=.ok () (w.setCells l.aI (l.base+q*l.ae) L)∧bQ ν l (.flat true N ae (jN get q news m)) (w.setCells l.aI (l.base+q*l.ae) L):=by
 obtain ⟨cur,t,jY,bm,gg⟩:=hB.own rfl rfl;have gg:N≤l.cap:=gg;have he:l.ae=ae:=hB.ae;have xL:l.base+q*l.ae+L.length≤cur.size:=by
  rw [hC.len,he];have:(q+m)*ae≤l.cap*ae:=Nat.mul_le_mul_right _ (by omega)
  rw [Nat.add_mul] at this;rw [he] at bm;omega
 have sE:∀ j,j < L.length→(w.cell? ⟨l.aI,l.base+q*l.ae+j,none⟩).isSome=true:=by
  intro j hj;simp only [World.cell?];rw [jY];simp;omega
 refine ⟨?_,?_⟩
 ·have:=run_storeCells_cells (P:=P) l.aI (l.base+q*l.ae) L 0 w (by simpa using sE) (fun j hj=>by simp [World.frozen?,jY]) hC.one
  simpa [Loc.at] using this
 ·obtain ⟨ph,J,h3⟩:=AZ l.aI L (l.base+q*l.ae) w cur t jY;have rows:∀ r,r < N→(jN get q news m r=get r∧(r < q∨q+m≤r))∨(jN get q news m r=news (r - q)∧q≤r∧r < q+m):=fun r _=>by
   by_cases h:r < q
   ·exact .inl ⟨S6 h,.inl h⟩
   ·by_cases h':r < q+m
    ·exact .inr ⟨S7 (by omega) h',by omega,h'⟩
    ·exact .inl ⟨S8 (by omega),.inr (by omega)⟩
  refine ⟨he,fun r hr=>?_,fun r hr j v hv=>?_,fun _ r hr v hv=>?_,fun r hr v hv=>?_,fun _ _=>⟨ph,t,J,by rw [h3]; exact bm,gg⟩,(fun r h=>by cases h),by rw [oJ]; exact hB.live⟩
  ·have hr:r < N:=hr;show (jN get q news m r).length=ae
   rcases rows r hr with ⟨e,_⟩ | ⟨e,h1,J⟩
   ·rw [e]; exact hB.len r hr
   ·rw [e]; exact hC.row _ (by omega)
  ·have hr:r < N:=hr;have hv:(jN get q news m r)[j]?=some v:=hv;rcases rows r hr with ⟨e,h1⟩ | ⟨e,h1,J⟩
   ·rw [e] at hv;obtain ⟨v',h4,h5⟩:=hB.cell r hr j v hv;have hj:j < ae:=by have e':(get r).length=ae:=hB.len r hr; rw [← e']; exact (List.getElem?_eq_some_iff.1 hv).1
    refine ⟨v',?_,h5⟩;rw [World.cell?_setCells_out l.aI _ _ _ _ (fun _ _=>?_)]
    ·exact h4
    ·rcases h1 with h | h
     ·left
      simp only [Loc.at,he];have:(r+1)*ae≤q*ae:=Nat.mul_le_mul_right _ h;rw [Nat.add_mul] at this; omega
     ·right
      simp only [Loc.at,he,hC.len];have:(q+m)*ae≤r*ae:=Nat.mul_le_mul_right _ h;rw [Nat.add_mul] at this; omega
   ·rw [e] at hv;obtain ⟨v',h4,h5⟩:=hC.cell (r - q) (by omega) j v hv
    have al:=(List.getElem?_eq_some_iff.1 h4).1;refine ⟨v',?_,h5⟩;have:=World.cell?_setCells_in l.aI L (l.base+q*l.ae) w sE _ al;have e:l.at r j=⟨l.aI,l.base+q*l.ae+((r - q)*ae+j),none⟩:=by
     unfold Loc.at
     congr 1
     rw [he];have:r*ae=q*ae+(r - q)*ae:=by rw [← Nat.add_mul]; congr 1; omega
     omega
    rw [e,this,← h4,List.getElem?_eq_getElem al]
  ·have hr:r < N:=hr;have hv:v∈jN get q news m r:=hv;rcases rows r hr with ⟨e,_⟩ | ⟨e,h1,J⟩
   ·rw [e] at hv; exact hB.plain rfl r hr v hv
   ·rw [e] at hv; exact hs _ (by omega) v hv
  ·have hr:r < N:=hr;have hv:v∈jN get q news m r:=hv;rcases rows r hr with ⟨e,_⟩ | ⟨e,h1,J⟩
   ·rw [e] at hv; exact hB.one r hr v hv
   ·rw [e] at hv; exact hC.sO _ (by omega) v hv
theorem bz.iD {ν:Nu} {tmps:List Value} {H:ay} {a:Act} {w:World} (hi:bz F ν tmps H a w) {id N ae:Nat} {get:Nat→List Value} (hb:H[id]?=some (some (.flat true N ae get))) {l:Loc} (hl:ν id=some l)
  {q m:Nat} (hq:q+m≤N) {news:Nat→List Value} {L:List Value} (hC:CR ν ae news m L) (hs:∀ r,r < m→∀ v∈news r,cH v=true) :
  (storeCells (l.at q 0) L).run P w=.ok () (w.setCells l.aI (l.base+q*l.ae) L)∧bz F ν tmps (H.set id (some (.flat true N ae (jN get q news m)))) a (w.setCells l.aI (l.base+q*l.ae) L):=by
 obtain ⟨l0,eP,hB⟩:=hi.hp.aI id _ hb;rw [hl] at eP; cases eP;obtain ⟨h1,iG⟩:=hB.iD (P:=P) hq hC hs;have al:id < H.length:=(List.getElem?_eq_some_iff.1 hb).1;have n7:∀ q',q'≠l.aI→(w.setCells l.aI (l.base+q*l.ae) L).heap[q']?=w.heap[q']?:=fun q' I3=>rK _ _ _ _ _ I3
 have pG:w.heap.size≤(w.setCells l.aI (l.base+q*l.ae) L).heap.size:=by rw [oJ]; exact Nat.le_refl _
 refine ⟨h1,hi.tm,(let ⟨_,_,uS,_⟩:=hB.own rfl rfl; hi.df.eh uS n7),?_,fun j hj=>hi.fr j (by simpa using hj),hi.kp.setCells (hi.own id _ l hb rfl hl) _ _,fun j bj lj hj oq c5=>?_,hi.mono⟩
 ·refine hi.hp.eh (id:=id) (fun _ _=>rfl) (fun j bj hj aJ=>?_) (fun bj hj=>?_)
  ·rw [List.getElem?_set_ne (Ne.symm aJ)] at hj;refine ⟨bj,hj,rfl,fun lj c5 q8=>q8.same (n7 _ ?_) pG⟩
   exact Ne.symm (hi.hp.sep id j _ bj l lj hb hj (Ne.symm aJ) rfl hl c5)
  ·rw [List.getElem?_set_self al] at hj;cases hj;exact ⟨l,hl,iG,fun j lj bj aJ hj c5=>Ne.symm (hi.hp.sep id j _ bj l lj hb hj (Ne.symm aJ) rfl hl c5)⟩
 ·by_cases e':j=id
  ·subst e'; rw [hl] at c5; cases c5; exact hi.own j _ l hb rfl hl
  ·rw [List.getElem?_set_ne (Ne.symm e')] at hj; exact hi.own j bj lj hj oq c5
theorem CR.acn {ν:Nu} {z:Value} {zs:List Value} (hz:z.cells=⟨zs⟩) (Hw:bg ν zs zs) (qP:∀ v∈zs,v.oneCell'=true) (h0:0 < zs.length) (n:Nat):CR ν zs.length (fun _=>zs) n (Builtin.zeroCells z.cells n).toList:=by
 have bm:z.cells.size=zs.length:=by rw [hz]; rfl
 have kX:∀ j,j < n*zs.length→(Builtin.zeroCells z.cells n)[j]?=zs[j % zs.length]?:=fun j hj=>by
  rw [Kk _ _ _ (by rw [bm]; exact hj) (by rw [bm]; exact h0),bm,hz]; simp
 refine ⟨by simp [Ez,bm],fun _ _=>rfl,fun r hr j v hv=>?_,fun u hu=>?_,fun _ _ v hv=>qP v hv⟩
 ·have hj:=(List.getElem?_eq_some_iff.1 hv).1;have al:r*zs.length+j < n*zs.length:=by
   have:(r+1)*zs.length≤n*zs.length:=Nat.mul_le_mul_right _ hr;rw [Nat.add_mul] at this; omega
  refine ⟨v,?_,Hw.2 j v v hv hv⟩;rw [Array.getElem?_toList,kX _ al,Nat.mul_comm,Nat.mul_add_mod,Nat.mod_eq_of_lt hj]; exact hv
 ·obtain ⟨j,hj,rfl⟩:=List.getElem_of_mem hu;have gx:j < n*zs.length:=by simpa [Ez,bm] using hj
  have h1:=kX j gx;rw [← Array.getElem?_toList,List.getElem?_eq_getElem hj] at h1;exact qP _ (List.mem_of_getElem? h1.symm)
theorem SB (hE:EnvOk P E) {ν:Nu} {tmps:List Value} {H:ay} {a:Act} {w:World} (hi:bz F ν tmps H a w) {t:TypeId} {x:Operand} {k:ay→Prop}
  (h:OC E tmps H t x k) (ty:TypeId):∃ H' w',k H'∧bz F ν tmps H' a w'∧(Builtin.clear_ #[t] ty #[a.eval x]).run P w=.ok (.tuple #[]) w':=by
 obtain ⟨xv,J,hx⟩:=kN h (hi.mA x);clear h;obtain ⟨ti,ht,h⟩:=cP J;clear J;obtain ⟨d,hu,hd⟩:=(hE.ty _ _ ht).under
 split at h
 ·rename_i e hk;rw [hk] at hd;have hd:d=.slice e:=hd;subst hd;obtain ⟨te,he,J⟩:=cP h;clear h;have bf:=hE.ty _ _ he
  split at J
  ·rename_i id row sp n c;obtain ⟨b,hb,h⟩:=gK J;clear J
   split at h
   ·rename_i dv;have dv:b.ae=te.size:=Nat.eq_of_beq_eq_true dv
    split at h
    ·rename_i N ae get _;have dv:ae=te.size:=dv;obtain ⟨⟨hN,cZ⟩,h⟩:=h;obtain ⟨al,h⟩:=ml h;obtain ⟨l,hl,hB⟩:=hi.hp.aI id _ hb;obtain ⟨i,iQ,gJ,ny,z,hz,iF⟩:=bf.info;have xY:=CR.acn (ν:=ν) iF (bf.self ν) bf.one (by rw [bf.len]; exact bf.bit.1) n
     rw [bf.len,← dv] at xY;have hsc:∀ r,r < n→∀ v∈te.zero,cH v=true:=fun _ _ v hv=>dE cZ v hv
     have xt:n=0∨(0 < n∧∃ c',a.eval x=.slice (some (l.at row 0)) n c'):=by
      rcases hx.Cu with ⟨l',c',cE,_,_,e⟩ | ⟨h0,_⟩
      ·rw [hl] at cE; cases cE;rcases Nat.eq_zero_or_pos n with h | h
       ·exact .inl h
       ·exact .inr ⟨h,c',e⟩
      ·exact .inl h0
     rcases xt with h0 | ⟨lP,c',cA⟩
     ·subst h0;have:=(hi.iD (P:=P) hb hl (q:=row) (m:=0) hN (CR.nil _ _ (fun _=>te.zero)) (fun r hr=>absurd hr (by omega))).2
      refine ⟨_,w,h,this,?_⟩;have:∃ o,a.eval x=.slice o 0 0∨∃ c',a.eval x=.slice o 0 c':=by
       rcases hx.Cu with ⟨l',c',_,_,_,e⟩ | ⟨_,bb,e⟩
       ·exact ⟨_,.inr ⟨_,e⟩⟩
       ·exact ⟨_,.inl e⟩
      obtain ⟨o,e | ⟨c',e⟩⟩:=this <;> rw [e] <;> cases o <;> simp [Builtin.clear_,dC hu]
     ·obtain ⟨h1,J⟩:=hi.iD (P:=P) hb hl (q:=row) hN xY hsc;refine ⟨_,_,h,J,?_⟩;obtain ⟨m,rfl⟩:∃ m,n=m+1:=⟨n - 1,by omega⟩
      rw [cA];simp [Builtin.clear_,dC hu,v8 iQ hz,h1]
    ·exact h.elim
   ·exact h.elim
  ·exact J.elim
 ·exact h.elim
theorem CR.pre {ν:Nu} {ae m q:Nat} {g:Nat→List Value} {L:List Value} (h:CR ν ae g m L) (hq:q≤m):CR ν ae g q (L.take (q*ae)):=by
 have hle:q*ae≤m*ae:=Nat.mul_le_mul_right _ hq;refine ⟨by rw [List.length_take,h.len]; omega,fun r hr=>h.row r (by omega),fun r hr j v hv=>?_,fun u hu=>h.one u (List.mem_of_mem_take hu),fun r hr=>h.sO r (by omega)⟩
 obtain ⟨v',h1,J⟩:=h.cell r (by omega) j v hv
 have hj:j < ae:=by rw [← h.row r (by omega)]; exact (List.getElem?_eq_some_iff.1 hv).1
 have:(r+1)*ae≤q*ae:=Nat.mul_le_mul_right _ hr;rw [Nat.add_mul] at this;exact ⟨v',by rw [List.getElem?_take_of_lt (by omega)]; exact h1,J⟩
theorem Lj (hE:EnvOk P E) {ν:Nu} {tmps:List Value} {H:ay} {a:Act} {w:World} (hi:bz F ν tmps H a w) {t:TypeId} {xv yv x' y':Value} {k:Value→ay→Prop} (hx:ar ν xv x') (hy:ar ν yv y')
  (h:Gv E H t xv yv k) (t2 ty:TypeId):∃ v H' w',k v H'∧ar ν v v∧bz F ν tmps H' a w'∧(Builtin.copy_ #[t,t2] ty #[x',y']).run P w=.ok v w':=by
 obtain ⟨ti,ht,J⟩:=cP h;clear h;obtain ⟨d,hu,hd⟩:=(hE.ty _ _ ht).under
 split at J
 ·rename_i e hk;rw [hk] at hd;have hd:d=.slice e:=hd;subst hd;obtain ⟨te,he,h⟩:=cP J;clear J;have bf:=hE.ty _ _ he;obtain ⟨i,iQ,gJ,ny,z,hz,iF⟩:=bf.info;obtain ⟨s,J,xZ,hs⟩:=Fs h;clear h;obtain ⟨oy,cy,L,kH,kI,hC,j6⟩:=hs ν w _ hi.hp hy;have qQ:s.kv=true→∀ r,r < s.m→∀ v∈s.get r,cH v=true:=fun h r hr v hv=>xZ h r hr ν w hi.hp v hv
  split at J
  ·rename_i m news id row sp n c;obtain ⟨b,hb,h⟩:=gK J;clear J
   split at h
   ·rename_i dv;have dv:b.ae=te.size:=Nat.eq_of_beq_eq_true dv
    split at h
    ·rename_i N ae get _;have dv:ae=te.size:=dv;obtain ⟨hN,h⟩:=h;obtain ⟨al,h⟩:=ml h;obtain ⟨l,hl,hB⟩:=hi.hp.aI id _ hb;have z8:CR ν te.size news m L:=hC;have zR:Nat.min m n≤m:=Nat.min_le_left _ _;have aeL:Nat.min m n≤n:=Nat.min_le_right _ _;have I5:CR ν ae news (Nat.min m n) (L.take (Nat.min m n*te.size)):=by rw [dv]; exact z8.pre zR
     obtain ⟨h1,h3⟩:=hi.iD (P:=P) hb hl (q:=row) (m:=Nat.min m n) (by omega) I5 (fun r hr=>qQ rfl r (by show r < m; omega))
     have Af:y'=.slice oy m cy:=kH;have hf:(Builtin.firstCells i.size (Nat.min m n) (.slice oy m cy)).run P w=.ok (L.take (Nat.min m n*te.size)).toArray w:=by
      cases oy with
      | none =>
       have kG:m=0:=kI rfl;subst kG;have:L=[]:=List.eq_nil_of_length_eq_zero (by rw [z8.len]; simp)
       subst this;rw [run_firstCells_none]; simp
      | some b0 =>
       refine run_firstCells_some (P:=P) w i.size (Nat.min m n) b0 m cy _ (by rw [gJ]; exact (z8.pre zR).len) fun j v hv=>j6 b0 rfl j v ?_
       have:=(List.getElem?_eq_some_iff.1 hv).1;rw [List.length_take] at this;rw [List.getElem?_take_of_lt (by omega)] at hv
       exact hv
     rcases hx.Cu with ⟨l',c',cE,_,_,e⟩ | ⟨h0,bb,e⟩
     ·rw [hl] at cE; cases cE;refine ⟨_,_,_,h,.int _ _,h3,?_⟩;rw [e,Af];simp [Builtin.copy_,dC hu,Builtin.lenOf,sizeOf,typeInfo,iQ,hf,h1]
      rfl
     ·subst h0;have hq:Nat.min m 0=0:=Nat.min_zero m;have h4:=(hi.iD (P:=P) hb hl (q:=row) (m:=Nat.min m 0) (news:=news) (L:=[]) (by omega) (by rw [hq]; exact CR.nil _ _ _) (fun r hr=>absurd hr (by omega))).2
      refine ⟨_,_,w,h,.int _ _,h4,?_⟩;rw [e,Af];rw [hq,Nat.zero_mul,List.take_zero] at hf;cases bb <;> simp [Builtin.copy_,dC hu,Builtin.lenOf,sizeOf,typeInfo,iQ,hq,hf] <;> rfl
    ·exact h.elim
   ·exact h.elim
  ·exact J.elim
 ·exact J.elim
theorem KR (hE:EnvOk P E) (bO:lf F E) {ν:Nu} {tmps:List Value} {H:ay} {a:Act} {w:World} (hi:bz F ν tmps H a w) {t:TypeId} {xv yv x' y':Value} {k:Value→List Value→ay→Prop}
  (hx:ar ν xv x') (hy:ar ν yv y') (h:Gu E tmps H t xv yv k) (ty:TypeId) :
  ∃ v v' aj t' H' w',k v t' H'∧ar aj v v'∧bz F aj t' H' a w'∧(Builtin.append_ #[t,t] ty #[x',y']).run P w=.ok v' w'∧(BM xv=true→ν.le aj):=by
 obtain ⟨ti,ht,J⟩:=cP h;clear h;obtain ⟨d,hu,hd⟩:=(hE.ty _ _ ht).under
 split at J
 ·rename_i e hk;rw [hk] at hd;have hd:d=.slice e:=hd;subst hd;obtain ⟨te,he,h⟩:=cP J;clear J;have bf:=hE.ty _ _ he;obtain ⟨i,iQ,gJ,ny,z,hz,iF⟩:=bf.info;obtain ⟨s,J,xZ,hs⟩:=Fs h;clear h;obtain ⟨oy,cy,L,kH,kI,hC,j6⟩:=hs ν w _ hi.hp hy;have hL:L.length=s.m*i.size:=by rw [gJ]; exact hC.len
  have jB:z.cells.size=te.size:=by rw [iF]; simpa using bf.len
  have adU:=bf.bit;have small:∀ q,q*te.bytes≤140737488355328→q≤140737488355328:=fun q hq=>by
   have:q*1≤q*te.bytes:=Nat.mul_le_mul_left _ (by omega)
   omega
  have qQ:s.kv=true→∀ r,r < s.m→∀ v∈s.get r,cH v=true:=fun h r hr v hv=>xZ h r hr ν w hi.hp v hv
  split at J
  ·-- onto nil
   have hx:=hx.p7
   split at J
   ·rename_i hm;have x0:L=[]:=List.eq_nil_of_length_eq_zero (by rw [hL,hm]; simp)
    refine ⟨_,_,ν,_,_,w,J,.iP,hi,?_,fun _=>ν.le_refl⟩
    rw [hx,kH];have:=rN (P:=P) (w:=w) (ty:=ty) hu iQ (A:=none) (oy:=oy) (n:=0) (c:=0) (m:=s.m) (cy:=cy) (L:=L) hL j6 kI (by omega) (w2:=w) (fun a ha=>by cases ha) (fun _=>rfl)
    rw [hm] at this ⊢
    simpa using this
   ·rename_i m hm;obtain ⟨hB,h⟩:=J;have h:=mn h;have bE:=A2 (P:=P) (w:=w) (ty:=ty) hu iQ hz (A:=none) (oy:=oy) (n:=0) (c:=0) (m:=s.m) (cy:=cy) (O:=[]) (L:=L) (by simp) (fun a ha=>by cases ha) (fun _=>⟨rfl,rfl⟩) hL j6 kI (by omega) (by omega) (by rw [ny,hm]; simpa using hB) (by have:=small _ hB; omega)
    have pj:ν H.length=none:=hi.fr _ (Nat.le_refl _);have dS:Ext (oW te.size s) te.size (fun _=>[]) 0 s.get s.m s.kv:=by
     cases s with
     | fl m g=>exact ⟨rfl,rfl,by simp [oW,ai.n,Src.m],fun r hr=>by rw [gD (by omega)]; rfl,fun _=>rfl⟩
     | ex L=>exact ⟨rfl,rfl,by simp [oW,ai.n,Src.m],fun r hr=>by rw [gD (by omega)]; rfl,fun h=>by simp [oW,ai.jc] at h⟩
    have xY:=hC.mono (Nu.ki (l:=⟨w.heap.size,0,te.size,grownCap w (0+s.m) 0 e⟩) pj);have iG:=wh (CR.nil _ te.size (fun _=>[])) xY dS (fun h=>⟨fun r hr=>absurd hr (by omega),qQ h⟩) (w:=w) jB (iT:=0) (e:=e)
    have eH:=grownCap_ge w (0+s.m) 0 e;have cC:ar (ν.add H.length ⟨w.heap.size,0,te.size,grownCap w (0+s.m) 0 e⟩) (.slice (some ⟨H.length,0,none⟩) (m+1) aO) (.slice (some ⟨w.heap.size,0,none⟩) (0+s.m) (grownCap w (0+s.m) 0 e)):=by
     have:=ar.slice (ν:=ν.add H.length ⟨w.heap.size,0,te.size,grownCap w (0+s.m) 0 e⟩) H.length 0 (0+s.m) aO (grownCap w (0+s.m) 0 e) _ Nu.add_same (.inr rfl) eH (by simp)
     rw [show m+1=0+s.m by omega]
     simpa [Loc.at] using this
    have hq:=mY pj iG (wb w _ _ _ _) (Nat.le_refl _) cC;obtain ⟨H',h1,J⟩:=hi.quiet hq (k:=fun H'=>k _ tmps H') h
    refine ⟨_,_,_,_,_,_,h1,cC,J,?_,fun _=>Nu.ki pj⟩
    rw [hx,kH]
    simpa using bE
  ·rename_i id row n c;obtain ⟨b,hb,h⟩:=gK J;clear J;obtain ⟨l,hl,hB⟩:=hi.hp.aI id b hb
   split at h
   ·rename_i dv;have dv:b.ae=te.size:=Nat.eq_of_beq_eq_true dv;rw [← dv] at hC jB
    -- what the slice may be
    have I6:∃ A c',x'=.slice (some A) n c'∧n≤c'∧(c'=c∨c=aO)∧((A=l.at row 0∧row+c'≤l.cap)∨(n=0∧c'=0)):=by
     rcases hx.ub with ⟨l',c',cE,h1,J,h3,e⟩ | ⟨h1,J,bb,e⟩
     ·rw [hl] at cE; cases cE;exact ⟨_,c',e,J,h1,.inl ⟨rfl,h3⟩⟩
     ·exact ⟨bb,0,by rw [e,h1],by omega,J.imp (fun h=>h) (fun h=>h),.inr ⟨h1,rfl⟩⟩
    obtain ⟨A,c',cA,fo,lg,hA⟩:=I6
    -- its cells
    have hold:row+n≤b.n→∃ O,CR ν b.ae (fun j=>b.row (row+j)) n O∧∀ (j:Nat) u,O[j]?=some u→w.cell? (A.add j)=some u:=by
     intro hle;rcases hA with ⟨rfl,_⟩ | ⟨h0,_⟩
     ·exact CR.G3 hB hle
     ·subst h0;exact ⟨[],CR.nil _ _ _,fun j u hu=>by simp at hu⟩
    have tb:b.o7=true→∀ r,r < b.n→∀ v∈b.row r,cH v=true:=fun h r hr v hv=>by
     cases b with
     | flat o n e g=>exact hB.plain rfl r hr v hv
     | aS o e rows =>
      have h:rows.all jM=true:=h;have hr:r < rows.length:=hr;have hv:v∈rows.getD r []:=hv;rw [List.getD_eq_getElem?_getD,List.getElem?_eq_getElem hr] at hv;exact yi (List.all_eq_true.1 h _ (List.getElem_mem hr)) v hv
     | cj r=>cases h
    have mI:(b.o7 && s.kv)=true→(∀ r,r < b.n→∀ v∈b.row r,cH v=true)∧∀ r,r < s.m→∀ v∈s.get r,cH v=true:=fun h=>by
     rw [Bool.and_eq_true] at h; exact ⟨tb h.1,qQ h.2⟩
    -- in its place
    have Gw:∀ b' (q:Nat),b.n5=true→Ext b' b.ae b.row q s.get s.m (b.o7 && s.kv)→row+n=q→q≤b.n→n+s.m≤c'→∃ w2,(Builtin.append_ #[t,t] ty #[x',y']).run P w=.ok (.slice (some A) (n+s.m) c') w2 ∧
      bQ ν l b' w2∧Kept F.O F.W w2∧w.heap.size≤w2.heap.size∧∀ q,q≠l.aI→w2.heap[q]?=w.heap[q]?:=by
     intro b' q ho dS Ag q9 cQ;rcases hA with ⟨rfl,gg⟩ | ⟨h0,ot⟩
     ·obtain ⟨h1,J⟩:=hB.extend (P:=P) ho q9 hC dS mI (by omega)
      refine ⟨_,?_,J,hi.kp.setCells (hi.own id b l hb (ai.cY ho).1 hl) _ _,by rw [oJ]; exact Nat.le_refl _,fun q hq=>rK _ _ _ _ _ hq⟩
      rw [cA,kH];refine rN (P:=P) hu iQ hL j6 kI cQ (fun A' tc=>?_) (fun h=>by cases h)
      cases tc;have:(l.at row 0).add (n*i.size)=l.at q 0:=by
       rw [Loc.jO]; unfold Loc.at; congr 1;rw [hB.ae,← Ag,Nat.add_mul,gJ,dv]; omega
      rw [this]; exact h1
     ·have kG:s.m=0:=by omega
      have x0:L=[]:=List.eq_nil_of_length_eq_zero (by rw [hL,kG]; simp)
      refine ⟨w,?_,?_,hi.kp,Nat.le_refl _,fun _ _=>rfl⟩
      ·rw [cA,kH];refine rN (P:=P) hu iQ hL j6 kI cQ (fun A' tc=>by rw [x0]; rfl) (fun h=>by cases h)
      ·have gj:b'.n=q:=by rw [dS.num,kG]; rfl
       have a8:∀ r,r < q→b'.row r=b.row r:=fun r hr=>by rw [dS.row r (by omega),jo hr]
       exact ⟨by rw [dS.ae]; exact hB.ae,fun r hr=>by rw [gj] at hr; rw [a8 r hr,dS.ae]; exact hB.len r (by omega),
        fun r hr j v hv=>by rw [gj] at hr; rw [a8 r hr] at hv; exact hB.cell r (by omega) j v hv,
        fun h r hr v hv=>by rw [gj] at hr; rw [a8 r hr] at hv; exact (mI (dS.flat h)).1 r (by omega) v hv,
        fun r hr v hv=>by rw [gj] at hr; rw [a8 r hr] at hv; exact hB.one r (by omega) v hv,
        fun _ _=>by obtain ⟨cur,tt,q1,q2,q3⟩:=hB.own (ai.cY ho).1 (ai.cY ho).2; exact ⟨cur,tt,q1,q2,by rw [gj]; omega⟩,(fun r h=>by rw [(ai.cY dS.own).2] at h; cases h),hB.live⟩
    have PS:n+s.m≤c'→∀ aj,aj id=some l→ar aj (.slice (some ⟨id,row,none⟩) (n+s.m) c) (.slice (some A) (n+s.m) c'):=by
     intro cQ aj cE;rcases hA with ⟨rfl,gg⟩ | ⟨h0,ot⟩
     ·exact .slice _ _ _ _ _ l cE lg cQ gg
     ·have kG:s.m=0:=by omega
      subst ot;rw [h0,kG];exact .void _ _ _ _ lg
    have grow:(n+s.m)*te.bytes≤140737488355328→c' < n+s.m→∀ O,O.length=n*i.size→(∀ (j:Nat) u,O[j]?=some u→w.cell? (A.add j)=some u) →
      (Builtin.append_ #[t,t] ty #[x',y']).run P w=.ok (.slice (some ⟨w.heap.size,0,none⟩) (n+s.m) (grownCap w (n+s.m) c' e)) (w.drew.alloc (ud (O++L).toArray z (grownCap w (n+s.m) c' e - (n+s.m)) e)):=by
     intro hB cQ O hO1 hO2;rw [cA,kH];exact A2 (P:=P) (w:=w) (ty:=ty) hu iQ hz hO1 (fun a ha=>by cases ha; exact hO2) (fun h=>by cases h) hL j6 kI fo cQ (by rw [ny]; exact hB) (small _ hB)
    -- a block that stays
    have DN:row+n=b.n→n+s.m≤c'→(wR b s fun b'=>jy H id (some b') fun H'=>k (.slice (some ⟨id,row,none⟩) (n+s.m) c) tmps H') →
      ∃ v v' aj t' H' w',k v t' H'∧ar aj v v'∧bz F aj t' H' a w'∧(Builtin.append_ #[t,t] ty #[x',y']).run P w=.ok v' w'∧ν.le aj:=fun Ag cQ h=>by
     obtain ⟨b',h,ho,dS⟩:=A3 h;obtain ⟨al,h⟩:=ml h;obtain ⟨w2,bE,iG,jD,pG,n7⟩:=Gw b' _ ho dS Ag (Nat.le_refl _) cQ;refine ⟨_,_,ν,_,_,w2,h,PS cQ ν hl,⟨hi.tm,(let ⟨_,_,uS,_⟩:=hB.own (ai.cY ho).1 (ai.cY ho).2; hi.df.eh uS n7),?_,fun j hj=>hi.fr j (by simpa using hj),jD,fun j bj lj hj oq c5=>?_,hi.mono⟩,bE,ν.le_refl⟩
     ·refine hi.hp.eh (id:=id) (fun _ _=>rfl) (fun j bj hj aJ=>?_) (fun bj hj=>?_)
      ·rw [List.getElem?_set_ne (Ne.symm aJ)] at hj;refine ⟨bj,hj,rfl,fun lj c5 q8=>q8.same (n7 _ ?_) pG⟩
       exact Ne.symm (hi.hp.sep id j b bj l lj hb hj (Ne.symm aJ) (ai.cY ho).1 hl c5)
      ·rw [List.getElem?_set_self al] at hj;cases hj;exact ⟨l,hl,iG,fun j lj bj aJ hj c5=>Ne.symm (hi.hp.sep id j b bj l lj hb hj (Ne.symm aJ) (ai.cY ho).1 hl c5)⟩
     ·by_cases e':j=id
      ·subst e'; rw [hl] at c5; cases c5; exact hi.own j b l hb (ai.cY ho).1 hl
      ·rw [List.getElem?_set_ne (Ne.symm e')] at hj; exact hi.own j bj lj hj oq c5
    -- a new block
    have DO:row+n≤b.n→(n+s.m)*te.bytes≤140737488355328→c' < n+s.m→(CS b row n s fun b'=>jz H fun aK=>o5 H (some b') fun H'=>k (.slice (some ⟨aK,0,none⟩) (n+s.m) aO) tmps H') →
      ∃ v v' aj t' H' w',k v t' H'∧ar aj v v'∧bz F aj t' H' a w'∧(Builtin.append_ #[t,t] ty #[x',y']).run P w=.ok v' w'∧ν.le aj:=fun hle l6 cQ h=>by
     obtain ⟨b',h,dS⟩:=Li h;have h:=mn h;obtain ⟨O,hO,re⟩:=hold hle;have bE:=grow l6 cQ O (by rw [hO.len,gJ,dv]) re
     have pj:ν H.length=none:=hi.fr _ (Nat.le_refl _);have kY:=Nu.ki (l:=⟨w.heap.size,0,b.ae,grownCap w (n+s.m) c' e⟩) pj;have iG:=wh (hO.mono kY) (hC.mono kY) dS (fun h=>⟨fun r hr v hv=>(mI h).1 (row+r) (by omega) v hv,(mI h).2⟩) (w:=w) jB (iT:=c') (e:=e)
     have eH:=grownCap_ge w (n+s.m) c' e;have cC:ar (ν.add H.length ⟨w.heap.size,0,b.ae,grownCap w (n+s.m) c' e⟩) (.slice (some ⟨H.length,0,none⟩) (n+s.m) aO) (.slice (some ⟨w.heap.size,0,none⟩) (n+s.m) (grownCap w (n+s.m) c' e)):=by
      have:=ar.slice (ν:=ν.add H.length ⟨w.heap.size,0,b.ae,grownCap w (n+s.m) c' e⟩) H.length 0 (n+s.m) aO (grownCap w (n+s.m) c' e) _ Nu.add_same (.inr rfl) eH (by simp)
      simpa [Loc.at] using this
     have hq:=mY pj iG (wb w _ _ _ _) (Nat.le_refl _) cC;obtain ⟨H',h1,J⟩:=hi.quiet hq (k:=fun H'=>k _ tmps H') h
     exact ⟨_,_,_,_,_,_,h1,cC,J,bE,kY⟩
    -- a block that is put in place of the old one
    have H9:∀ b1:ai,b.n5=true→Ext b1 b.ae b.row n s.get s.m (b.o7 && s.kv)→c=aO→row=0→E.base≤id→n≤b.n→(n+s.m)*te.bytes≤140737488355328 →
      (zu id b1 fun b'=>∃ aa,∀ a:Nat→Value,uQ a id aa 0 tmps fun zv=>xq id H fun H1=>jy H1 id (some b') fun H'=>k (.slice (some ⟨id,0,none⟩) (n+s.m) aO) zv H') →
      ∃ v v' aj t' H' w',k v t' H'∧ar aj v v'∧bz F aj t' H' a w'∧(Builtin.append_ #[t,t] ty #[x',y']).run P w=.ok v' w':=fun b1 ho dS dQ aco CT gj l6 tf=>by
     subst aco;obtain ⟨b',h,ho1,QI⟩:=Lg tf;obtain ⟨aa,h⟩:=h;obtain ⟨af,I7⟩:=NK hi.tm;obtain ⟨t',h,jE⟩:=E3 (h af) ν _ hi.tm (fun j y hy aj=>by rw [Nat.zero_add]; exact I7 j y hy aj)
     obtain ⟨H1,h,kF,DP⟩:=E4 h;obtain ⟨al,h⟩:=ml h;by_cases cQ:n+s.m≤c'
     ·obtain ⟨w2,bE,iG,jD,pG,n7⟩:=Gw b1 _ ho dS (Nat.zero_add n) gj cQ;have iG:=QI ν ν l w2 (fun _ _=>rfl) iG
      have hv:=PS cQ ν hl;rw [dQ] at hv;refine ⟨_,_,ν,_,_,w2,h,hv,⟨jE ν (fun _ _=>rfl),(let ⟨_,_,uS,_⟩:=hB.own (ai.cY ho).1 (ai.cY ho).2; hi.df.eh uS n7),?_,fun j hj=>hi.fr j (by simpa [kF] using hj),jD,fun j bj lj hj oq c5=>?_,hi.mono⟩,bE⟩
      ·refine hi.hp.eh (id:=id) (fun _ _=>rfl) (fun j bj hj aJ=>?_) (fun bj hj=>?_)
       ·rw [List.getElem?_set_ne (Ne.symm aJ)] at hj;obtain ⟨b0,kJ,vC,tf⟩:=DP j bj hj;refine ⟨b0,kJ,vC,fun lj c5 q8=>tf ν ν lj w2 (fun _ _=>rfl) (q8.same (n7 _ ?_) pG)⟩
        exact Ne.symm (hi.hp.sep id j b b0 l lj hb kJ (Ne.symm aJ) (ai.cY ho).1 hl c5)
       ·rw [List.getElem?_set_self al] at hj;cases hj;exact ⟨l,hl,iG,fun j lj bj aJ hj c5=>Ne.symm (hi.hp.sep id j b bj l lj hb hj (Ne.symm aJ) (ai.cY ho).1 hl c5)⟩
      ·by_cases e':j=id
       ·subst e'; rw [hl] at c5; cases c5; exact hi.own j b l hb (ai.cY ho).1 hl
       ·rw [List.getElem?_set_ne (Ne.symm e')] at hj;obtain ⟨b0,kJ,vC,_⟩:=DP j bj hj;exact hi.own j b0 lj kJ (by rw [← vC]; exact oq) c5
     ·have cQ:c' < n+s.m:=by omega
      obtain ⟨O,hO,re⟩:=hold (by omega)
      have bE:=grow l6 cQ O (by rw [hO.len,gJ,dv]) re
      have eH:=grownCap_ge w (n+s.m) c' e;have g8:ν.off (ν.add id ⟨w.heap.size,0,b.ae,grownCap w (n+s.m) c' e⟩) id:=fun j hj=>Nu.jb hj
      have Ia:=wb w (O++L).toArray z (grownCap w (n+s.m) c' e - (n+s.m)) e;have I8:CR ν b.ae b.row n O:=hO.congr (fun r hr=>by simp)
      have iG:bQ ν ⟨w.heap.size,0,b.ae,grownCap w (n+s.m) c' e⟩ b1 _:=wh I8 hC dS (fun h=>⟨fun r hr v hv=>(mI h).1 r (by omega) v hv,(mI h).2⟩) (w:=w) jB (iT:=c') (e:=e)
      have hF:F.ν.le (ν.add id ⟨w.heap.size,0,b.ae,grownCap w (n+s.m) c' e⟩):=by
       intro j lj hj;have aJ:j≠id:=by
        intro e';subst e';rw [F.fresh j (by have:=bO.n0; omega)] at hj
        cases hj
       rw [Nu.jb aJ]; exact hi.mono j lj hj
      have cC:ar (ν.add id ⟨w.heap.size,0,b.ae,grownCap w (n+s.m) c' e⟩) (.slice (some ⟨id,0,none⟩) (n+s.m) aO) (.slice (some ⟨w.heap.size,0,none⟩) (n+s.m) (grownCap w (n+s.m) c' e)):=by
       have:=ar.slice (ν:=ν.add id ⟨w.heap.size,0,b.ae,grownCap w (n+s.m) c' e⟩) id 0 (n+s.m) aO (grownCap w (n+s.m) c' e) _ Nu.add_same (.inr rfl) eH (by simp)
       simpa [Loc.at] using this
      have qR:id < H.length:=by rw [← kF]; exact al
      refine ⟨_,_,ν.add id ⟨w.heap.size,0,b.ae,grownCap w (n+s.m) c' e⟩,_,_,_,h,cC,⟨jE _ g8,hi.df.below Ia,?_,fun j hj=>?_,hi.kp.below Ia,fun j bj lj hj oq c5=>?_,hF⟩,bE⟩
      ·refine hi.hp.eh (id:=id) g8 (fun j bj hj aJ=>?_) (fun bj hj=>?_)
       ·rw [List.getElem?_set_ne (Ne.symm aJ)] at hj;obtain ⟨b0,kJ,vC,tf⟩:=DP j bj hj;exact ⟨b0,kJ,vC,fun lj c5 q8=>tf ν _ lj _ g8 (q8.below Ia)⟩
       ·rw [List.getElem?_set_self al] at hj;cases hj;refine ⟨_,Nu.add_same,QI ν _ _ _ g8 iG,fun j lj bj aJ hj c5=>?_⟩
        obtain ⟨lj',e1,e2⟩:=hi.hp.aI j bj hj;rw [c5] at e1; cases e1;have:=e2.live;simp only;omega
      ·have hj:H.length≤j:=by simpa [kF] using hj
       rw [Nu.jb (by omega)]; exact hi.fr j hj
      ·by_cases e':j=id
       ·subst e';rw [Nu.add_same] at c5;cases c5;exact .inr hi.kp.size
       ·rw [List.getElem?_set_ne (Ne.symm e')] at hj;obtain ⟨b0,kJ,vC,_⟩:=DP j bj hj;rw [Nu.jb e'] at c5;exact hi.own j b0 lj kJ (by rw [← vC]; exact oq) c5
    split at h
    ·rename_i dQ;have dQ:c≠aO:=of_decide_eq_false dQ;have hc:c'=c:=lg.resolve_right dQ;cases sN:Nat.ble (n+s.m) c with
     | true =>
      have cQ:=Nat.le_of_ble_eq_true sN;obtain ⟨Ag,h⟩:=B7 h sN;obtain ⟨v,v',aj,t',H',w',h1,J,h3,h4,h5⟩:=DN Ag (by omega) h
      exact ⟨v,v',aj,t',H',w',h1,J,h3,h4,fun _=>h5⟩
     | false =>
      have cQ:c < n+s.m:=by
       rcases Nat.lt_or_ge c (n+s.m) with h' | h'
       ·exact h'
       ·rw [Nat.ble_eq_true_of_le h'] at sN; cases sN
      obtain ⟨⟨hle,l6⟩,h⟩:=BJ h sN;obtain ⟨v,v',aj,t',H',w',h1,J,h3,h4,h5⟩:=DO hle l6 (by omega) h
      exact ⟨v,v',aj,t',H',w',h1,J,h3,h4,fun _=>h5⟩
    ·rename_i dQ;have dQ:c=aO:=of_decide_eq_true dQ;have nx:BM (.slice (some ⟨id,row,none⟩) n c)=true→False:=fun hx=>by rw [dQ] at hx; simp [BM] at hx
     split at h
     ·have Ah:row=0:=by
       cases row with
       | zero=>rfl
       | succ r=>exact h.elim
      clear DN DO;subst Ah;obtain ⟨⟨CT,⟨gj,ho⟩,l6⟩,h⟩:=h;obtain ⟨b1,h,dS⟩:=Li h;obtain ⟨v,v',aj,t',H',w',h1,J,h3,h4⟩:=H9 b1 ho (by simpa using dS) dQ rfl CT gj l6 h
      exact ⟨v,v',aj,t',H',w',h1,J,h3,h4,fun hx=>(nx hx).elim⟩
     ·split at h
      ·have Ah:row=0:=by
        cases row with
        | zero=>rfl
        | succ r=>exact h.elim
       clear DN DO;subst Ah;obtain ⟨⟨CT,gj,l6⟩,h⟩:=h;obtain ⟨b1,h,ho,dS⟩:=A3 h;obtain ⟨v,v',aj,t',H',w',h1,J,h3,h4⟩:=H9 b1 ho (by rw [gj]; exact dS) dQ rfl CT (Nat.le_of_eq gj) l6 h
       exact ⟨v,v',aj,t',H',w',h1,J,h3,h4,fun hx=>(nx hx).elim⟩
      ·have Ah:row=0:=by
        cases row with
        | zero=>rfl
        | succ r=>exact h.elim
       clear DN DO H9;subst Ah;obtain ⟨⟨gj,l6⟩,h⟩:=h;obtain ⟨b',h,ho,dS⟩:=A3 h;obtain ⟨al,h⟩:=ml h;have h:=mn h;have gk:bz F ν tmps (H.set id none) a w:=by
        have hle:ay.le (H.set id none) H:=fun j bj hj=>by
         by_cases e':j=id
         ·subst e'; rw [List.getElem?_set_self al] at hj; cases hj
         ·rw [List.getElem?_set_ne (Ne.symm e')] at hj; exact hj
        exact ⟨hi.tm,hi.df,hi.hp.sA hle,fun j hj=>hi.fr j (by simpa using hj),hi.kp,fun j bj lj hj oq c5=>hi.own j bj lj (hle j bj hj) oq c5,hi.mono⟩
       have pj:ν (H.set id none).length=none:=gk.fr _ (Nat.le_refl _);have iT:∀ j bj,(H.set id none)[j]?=some (some bj)→j≠id∧H[j]?=some (some bj):=fun j bj hj=>by
        by_cases e':j=id
        ·subst e'; rw [List.getElem?_set_self al] at hj; cases hj
        ·rw [List.getElem?_set_ne (Ne.symm e')] at hj; exact ⟨e',hj⟩
       by_cases cQ:n+s.m≤c'
       ·obtain ⟨w2,bE,iG,jD,pG,n7⟩:=Gw b' _ ho dS (by rw [gj]; simp) (Nat.le_refl _) cQ
        have h:=yp h;have kY:=Nu.ki (l:=l) pj;have yZ:∀ j bj,(H.set id none++[some b'])[j]?=some (some bj)→(j < (H.set id none).length∧j≠id∧H[j]?=some (some bj))∨(j=(H.set id none).length∧bj=b'):=fun j bj hj=>by
         rw [List.getElem?_append] at hj
         split at hj
         ·rename_i Ib;exact .inl ⟨Ib,iT j bj hj⟩
         ·rename_i eH;have:j - (H.set id none).length=0:=by
           rcases Nat.lt_or_ge (j - (H.set id none).length) 1 with h' | h'
           ·omega
           ·rw [List.getElem?_eq_none (by simpa using h')] at hj; cases hj
          rw [this] at hj;cases hj;exact .inr ⟨by omega,rfl⟩
        have hv:ar (ν.add (H.set id none).length l) (.slice (some ⟨(H.set id none).length,0,none⟩) (n+s.m) aO) (.slice (some A) (n+s.m) c'):=by
         rcases hA with ⟨rfl,gg⟩ | ⟨h0,ot⟩
         ·exact .slice _ _ _ _ _ l Nu.add_same (.inr rfl) cQ gg
         ·have kG:s.m=0:=by omega
          subst ot;rw [h0,kG];exact .void _ _ _ _ (.inr rfl)
        refine ⟨_,_,ν.add (H.set id none).length l,_,_,w2,h,hv,⟨hi.tm.mono kY,(let ⟨_,_,uS,_⟩:=hB.own (ai.cY ho).1 (ai.cY ho).2; hi.df.eh uS n7),⟨fun j bj hj=>?_,fun i j bi bj li lj h1 J aJ I0 e1 e2=>?_⟩,fun j hj=>?_,jD,fun j bj lj hj oq c5=>?_,Nu.le_trans hi.mono kY⟩,bE,fun hx=>(nx hx).elim⟩
        ·rcases yZ j bj hj with ⟨q1,q2,q3⟩ | ⟨q1,q2⟩
         ·obtain ⟨lj,e1,e2⟩:=hi.hp.aI j bj q3;refine ⟨lj,kY _ _ e1,(e2.same (n7 _ ?_) pG).mono kY⟩;exact Ne.symm (hi.hp.sep id j b bj l lj hb q3 (Ne.symm q2) (ai.cY ho).1 hl e1)
         ·subst q1; subst q2;exact ⟨l,Nu.add_same,iG.mono kY⟩
        ·rcases yZ i bi h1 with ⟨q1,q2,q3⟩ | ⟨q1,q2⟩
         ·rw [Nu.jb (by omega)] at e1
          rcases yZ j bj J with ⟨p1,p2,p3⟩ | ⟨p1,p2⟩
          ·rw [Nu.jb (by omega)] at e2
           exact hi.hp.sep i j bi bj li lj q3 p3 aJ I0 e1 e2
          ·subst p1;rw [Nu.add_same] at e2; cases e2;exact Ne.symm (hi.hp.sep id i b bi l li hb q3 (Ne.symm q2) (ai.cY ho).1 hl e1)
         ·subst q1;rw [Nu.add_same] at e1; cases e1;rcases yZ j bj J with ⟨p1,p2,p3⟩ | ⟨p1,p2⟩
          ·rw [Nu.jb (by omega)] at e2
           exact hi.hp.sep id j b bj l lj hb p3 (Ne.symm p2) (ai.cY ho).1 hl e2
          ·exact absurd p1.symm aJ
        ·have hj:H.length+1≤j:=by simpa using hj
         rw [Nu.jb (by simp; omega)]; exact hi.fr j (by omega)
        ·rcases yZ j bj hj with ⟨q1,q2,q3⟩ | ⟨q1,q2⟩
         ·rw [Nu.jb (by omega)] at c5
          exact hi.own j bj lj q3 oq c5
         ·subst q1;rw [Nu.add_same] at c5; cases c5;exact hi.own id b l hb (ai.cY ho).1 hl
       ·obtain ⟨O,hO,re⟩:=hold (by omega)
        have bE:=grow l6 (by omega) O (by rw [hO.len,gJ,dv]) re
        have kY:=Nu.ki (l:=⟨w.heap.size,0,b.ae,grownCap w (n+s.m) c' e⟩) pj;have I8:CR ν b.ae b.row n O:=hO.congr (fun r hr=>by simp)
        have Ic:Ext b' b.ae b.row n s.get s.m (b.o7 && s.kv):=by rw [gj]; exact dS
        have iG:=wh (I8.mono kY) (hC.mono kY) Ic (fun h=>⟨fun r hr v hv=>(mI h).1 r (by omega) v hv,(mI h).2⟩) (w:=w) jB (iT:=c') (e:=e)
        have eH:=grownCap_ge w (n+s.m) c' e;have cC:ar (ν.add (H.set id none).length ⟨w.heap.size,0,b.ae,grownCap w (n+s.m) c' e⟩) (.slice (some ⟨(H.set id none).length,0,none⟩) (n+s.m) aO) (.slice (some ⟨w.heap.size,0,none⟩) (n+s.m) (grownCap w (n+s.m) c' e)):=by
         have:=ar.slice (ν:=ν.add (H.set id none).length ⟨w.heap.size,0,b.ae,grownCap w (n+s.m) c' e⟩) (H.set id none).length 0 (n+s.m) aO (grownCap w (n+s.m) c' e) _ Nu.add_same (.inr rfl) eH (by simp)
         simpa [Loc.at] using this
        have hq:=mY pj iG (wb w _ _ _ _) (Nat.le_refl _) cC;obtain ⟨H',h1,J⟩:=gk.quiet hq (k:=fun H'=>k _ tmps H') h
        exact ⟨_,_,_,_,_,_,h1,cC,J,bE,fun hx=>(nx hx).elim⟩
   ·exact h.elim
  ·rename_i id row b0 n c;obtain ⟨b,hb,h⟩:=gK J;clear J
   split at h
   ·rename_i dv;have dv:b.ae=te.size:=Nat.eq_of_beq_eq_true dv
    split at h
    ·rename_i N ae get m news _;have dv:ae=te.size:=dv;obtain ⟨⟨jm,hN⟩,h⟩:=h;obtain ⟨al,h⟩:=ml h;obtain ⟨l,hl,hB⟩:=hi.hp.aI id _ hb;rw [aA] at h;have I5:CR ν ae news m L:=by rw [dv]; exact hC
     have vD:∀ r,r < m→∀ v∈news r,cH v=true:=qQ rfl;obtain ⟨h1,J⟩:=hi.iD (P:=P) hb hl (q:=row+n) (m:=m) (by omega) I5 vD
     have Af:y'=.slice oy m cy:=kH;have I9:L.length=m*i.size:=hL;have PT:oy=none→m=0:=kI;rcases hx.W8 with ⟨l',c',cE,h3,h4,h5,dQ,e⟩ | ⟨h3,h4,dQ,bb,e⟩
     ·rw [hl] at cE; cases cE;subst dQ;refine ⟨_,_,ν,_,_,_,h,.lY _ _ _ _ c' l hl h3 (by omega) h5,J,?_,fun _=>ν.le_refl⟩
      rw [e,Af];refine rN (P:=P) hu iQ I9 j6 PT (by omega) (fun A' tc=>?_) (fun h=>by cases h)
      cases tc;have e2:(l.at row 0).add (n*i.size)=l.at (row+n) 0:=by
       rw [Loc.jO]; unfold Loc.at; congr 1;rw [show l.ae=ae from hB.ae,gJ,Nat.add_mul,dv]; omega
      rw [e2]; exact h1
     ·have kG:m=0:=by omega
      subst dQ;subst h3;subst kG;subst h4;have x0:L=[]:=List.eq_nil_of_length_eq_zero (by rw [I9]; simp)
      subst x0;refine ⟨_,_,ν,_,_,w,h,.kV _ _ bb,J,?_,fun _=>ν.le_refl⟩
      rw [e,Af];exact rN (P:=P) hu iQ I9 j6 PT (by omega) (fun A' tc=>rfl) (fun h=>by cases h)
    ·exact h.elim
   ·exact h.elim
  ·exact J.elim
 ·exact J.elim
theorem R9 (hE:EnvOk P E) (bO:lf F E) {ν:Nu} {tmps:List Value} {H:ay} {a:Act} {w:World} (hi:bz F ν tmps H a w) {t:TypeId} {x y:Operand} {k:Value→List Value→ay→Prop}
  (h:NL E tmps H t x y k) (ty:TypeId):∃ v v' aj t' H' w',k v t' H'∧ar aj v v'∧bz F aj t' H' a w'∧(Builtin.append_ #[t,t] ty #[a.eval x,a.eval y]).run P w=.ok v' w':=by
 obtain ⟨xv,J,hx⟩:=kN h (hi.mA x);clear h;obtain ⟨yv,h,hy⟩:=kN J (hi.mA y);obtain ⟨v,v',aj,t',H',w',h1,J,h3,h4,_⟩:=KR hE bO hi hx hy h ty;exact ⟨v,v',aj,t',H',w',h1,J,h3,h4⟩
end
open Go Go.RowKit
def xM:List Nat→Nat→Nat→Option Nat
 | [],_,_=>none
 | a::l,id,k=>match Nat.beq a id with
  | true=>some k
  | false=>xM l id (k+1)
theorem L8:∀ {l:List Nat} {id k j:Nat},xM l id k=some j→k≤j∧l[j - k]?=some id
 | [],id,k,j,h=>by cases h
 | a::l,id,k,j,h=>by
  unfold xM at h
  split at h
  ·rename_i e;cases h;exact ⟨Nat.le_refl _,by simp [Nat.eq_of_beq_eq_true e]⟩
  ·obtain ⟨h1,J⟩:=L8 h;refine ⟨by omega,?_⟩
   rw [show j - k=(j - (k+1))+1 by omega,List.getElem?_cons_succ]; exact J
def g9 (σ:List Nat):Nat→Value→Option Value
 | 0,_=>none
 | k+1,v=>match v with
  | .bool b=>some (.bool b)
  | .int q n=>some (.int q n)
  | .string s=>some (.string s)
  | .pointer none=>some (.pointer none)
  | .pointer (some ⟨id,row,sp⟩)=>match xM σ id 0 with | some j=>some (.pointer (some ⟨j,row,sp⟩)) | none=>some (.chan none)
  | .slice none n c=>some (.slice none n c)
  | .slice (some ⟨id,row,sp⟩) n c=>match xM σ id 0 with | some j=>some (.slice (some ⟨j,row,sp⟩) n c) | none=>some (.chan none)
  | .nilFunc=>some .nilFunc
  | .chan none=>some (.chan none)
  | .agg ⟨l⟩=>match l.foldr (fun v acc=>match g9 σ k v,acc with | some x,some xs=>some (x::xs) | _,_=>none) (some []) with | some l'=>some (.agg ⟨l'⟩) | none=>none
  | .tuple ⟨l⟩=>match l.foldr (fun v acc=>match g9 σ k v,acc with | some x,some xs=>some (x::xs) | _,_=>none) (some []) with | some l'=>some (.tuple ⟨l'⟩) | none=>none
  | .func fn ⟨l⟩ ⟨m⟩=>match l.foldr (fun v acc=>match g9 σ k v,acc with | some x,some xs=>some (x::xs) | _,_=>none) (some []),m.foldr (fun v acc=>match g9 σ k v,acc with | some x,some xs=>some (x::xs) | _,_=>none) (some []) with
   | some l',some m'=>some (.func fn ⟨l'⟩ ⟨m'⟩) | _,_=>none
  | _=>none
def np (σ:List Nat) (k:Nat) (l:List Value):Option (List Value):=l.foldr (fun v acc=>match g9 σ k v,acc with | some x,some xs=>some (x::xs) | _,_=>none) (some [])
theorem Ft {σ:List Nat} {m:Nat} {x:Value} {xs l:List Value} (h:np σ m (x::xs)=some l):∃ y ys,l=y::ys∧g9 σ m x=some y∧np σ m xs=some ys:=by
 unfold np at h;rw [List.foldr_cons] at h
 split at h
 ·rename_i y ys h1 J;exact ⟨y,ys,(Option.some.inj h).symm,h1,J⟩
 ·cases h
theorem yF {σ:List Nat} {m:Nat} {ν aj:Nu} (h:∀ v v2 r,g9 σ m v=some v2→ar ν v r→ar aj v2 r):∀ {xs l rs:List Value},np σ m xs=some l→bg ν xs rs→bg aj l rs
 | [],l,rs,h1,J=>by
  have:l=[]:=by simp [np] at h1; exact h1
  rw [this,J.ja]; exact .nil _
 | x::xs,l,rs,h1,J=>by
  obtain ⟨y,ys,rfl,e1,e2⟩:=Ft h1;obtain ⟨r,cg,rfl,k1,k2⟩:=J.js;exact .cons (h _ _ _ e1 k1) (yF h e2 k2)
theorem G4 {σ:List Nat} {id j:Nat} {ν:Nu} (h:xM σ id 0=some j):(ν.comp σ) j=ν id:=by
 have:=(L8 h).2;rw [Nat.sub_zero] at this;simp [Nu.comp,this]
theorem MY {σ:List Nat} {ν:Nu}:∀ (m:Nat) (v v2 r:Value),g9 σ m v=some v2→ar ν v r→ar (ν.comp σ) v2 r:=by
 intro m
 induction m with
 | zero=>intro v v2 r h; simp [g9] at h
 | succ m ih =>
  intro v v2 r h hr;cases hr with
  | bool b=>cases h; exact .bool b
  | int q n=>cases h; exact .int q n
  | str s=>cases h; exact .str s
  | mE=>cases h; exact .mE
  | ptr id row sp l hl =>
   unfold g9 at h
   dsimp only at h
   split at h
   ·rename_i j hj;cases h;exact .ptr j row sp l (by rw [G4 hj]; exact hl)
   ·cases h; exact .dead _ rfl
  | iP=>cases h; exact .iP
  | slice id row n c c' l hl hc hn hr =>
   unfold g9 at h
   dsimp only at h
   split at h
   ·rename_i j hj;cases h;exact .slice j row n c c' l (by rw [G4 hj]; exact hl) hc hn hr
   ·cases h; exact .dead _ rfl
  | void id row c a hc =>
   unfold g9 at h
   dsimp only at h
   split at h
   ·cases h; exact .void _ row c a hc
   ·cases h; exact .dead _ rfl
  | lY id row m' n c' l hl hm hn hr =>
   unfold g9 at h
   dsimp only at h
   split at h
   ·rename_i j hj;cases h;exact .lY j row m' n c' l (by rw [G4 hj]; exact hl) hm hn hr
   ·cases h; exact .dead _ rfl
  | kV id row a =>
   unfold g9 at h
   dsimp only at h
   split at h
   ·cases h; exact .kV _ row a
   ·cases h; exact .dead _ rfl
  | mF=>cases h; exact .mF
  | func fn xs ys nv dg h1 J h3 h4 =>
   unfold g9 at h
   dsimp only at h
   split at h
   ·rename_i l1 l2 e1 e2;cases h;have t1:=yF ih e1 ⟨h1,J⟩;have t2:=yF ih e2 ⟨h3,h4⟩;exact .func _ _ _ _ _ t1.1 t1.2 t2.1 t2.2
   ·cases h
  | agg xs ys h1 J =>
   unfold g9 at h
   dsimp only at h
   split at h
   ·rename_i l1 e1;cases h;have t1:=yF ih e1 ⟨h1,J⟩;exact .agg _ _ t1.1 t1.2
   ·cases h
  | tuple xs ys h1 J =>
   unfold g9 at h
   dsimp only at h
   split at h
   ·rename_i l1 e1;cases h;have t1:=yF ih e1 ⟨h1,J⟩;exact .tuple _ _ t1.1 t1.2
   ·cases h
  | dead w hw=>cases h; exact .dead _ (by assumption)
theorem VB {σ:List Nat} {m:Nat} {v v2:Value} (h:g9 σ m v=some v2) (h1:v.oneCell'=true):v2.oneCell'=true:=by
 cases m with
 | zero=>simp [g9] at h
 | succ m =>
  unfold g9 at h
  split at h
  all_goals first
   | (exfalso; simp [Value.oneCell'] at h1; done)
   | (cases h; rfl)
   | (split at h <;> first | (cases h; rfl) | cases h)
   | cases h
theorem FZ {σ:List Nat} {m:Nat} {p:Value→Prop} (hp:∀ v v2,g9 σ m v=some v2→p v→p v2):∀ {xs l:List Value},np σ m xs=some l→(∀ v∈xs,p v)→(l.length=xs.length∧∀ v∈l,p v)
 | [],l,h,_=>by
  have:l=[]:=by simp [np] at h; exact h
  subst this;exact ⟨rfl,fun v hv=>by simp at hv⟩
 | x::xs,l,h,hx=>by
  obtain ⟨y,ys,rfl,e1,e2⟩:=Ft h;obtain ⟨h1,J⟩:=FZ hp e2 (fun v hv=>hx v (by simp [hv]))
  refine ⟨by simp [h1],fun v hv=>?_⟩
  rcases List.mem_cons.1 hv with e | e
  ·rw [e]; exact hp x y e1 (hx x (by simp))
  ·exact J v e
def zS (a:Nat→Value) (σ aa:List Nat):Nat→List Value→(List Value→Prop)→Prop
 | _,[],k=>k []
 | i,v::l,k=>match IZ i aa with
  | true=>zO (g9 σ 3 v) fun v'=>zS a σ aa (i+1) l fun l'=>k (v'::l')
  | false=>zS a σ aa (i+1) l fun l'=>k (a i::l')
theorem Fu {a:Nat→Value} {σ aa:List Nat}:∀ {t:List Value} {i:Nat} {k:List Value→Prop},zS a σ aa i t k→∀ (ν:Nu) r,bg ν t r→(∀ (j:Nat) (y:Value),r[j]?=some y→∀ aj:Nu,ar aj (a (i+j)) y)→∃ t',k t'∧bg (ν.comp σ) t' r
 | [],i,k,h,ν,r,hr,ha=>⟨[],h,by rw [hr.ja]; exact .nil _⟩
 | v::l,i,k,h,ν,r,hr,ha=>by
  obtain ⟨y,ys,rfl,h1,J⟩:=hr.js;obtain ⟨hx,ha⟩:=MX ha;unfold zS at h
  split at h
  ·obtain ⟨v',e,h⟩:=Fq h;obtain ⟨l',h3,h4⟩:=Fu h ν ys J ha;exact ⟨_,h3,.cons (MY 3 _ _ _ e h1) h4⟩
  ·obtain ⟨l',h3,h4⟩:=Fu h ν ys J ha;exact ⟨_,h3,.cons (hx _) h4⟩
def Gx (σ:List Nat):List (List Value)→(List (List Value)→Prop)→Prop
 | [],k=>k []
 | r::l,k=>zO (np σ 3 r) fun r'=>Gx σ l fun l'=>k (r'::l')
theorem Ks {σ:List Nat}:∀ {l:List (List Value)} {k:List (List Value)→Prop},Gx σ l k→∃ l',k l'∧l'.length=l.length∧∀ (i:Nat) r',l'[i]?=some r'→∃ r,l[i]?=some r∧np σ 3 r=some r'
 | [],k,h=>⟨[],h,rfl,fun i r hr=>by simp at hr⟩
 | r::l,k,h=>by
  obtain ⟨r',e,h⟩:=Fq h;obtain ⟨l',h,h1,J⟩:=Ks h;refine ⟨_,h,by simp [h1],fun i q hq=>?_⟩
  cases i with
  | zero=>simp at hq; subst hq; exact ⟨r,rfl,e⟩
  | succ i=>simpa using J i q (by simpa using hq)
def PU (σ:List Nat) (b:ai) (k:ai→Prop):Prop :=
 match b with
 | .flat o n e g=>k (.flat o n e g)
 | .aS o e rows=>Gx σ rows fun jf=>k (.aS o e jf)
 | .cj r=>k (.cj r)
theorem Ux {σ:List Nat} {b:ai} {k:ai→Prop} (h:PU σ b k):∃ b',k b'∧b'.own=b.own∧∀ (ν:Nu) (l:Loc) (w:World),bQ ν l b w→bQ (ν.comp σ) l b' w:=by
 cases b with
 | flat o n e g =>
  exact ⟨_,h,rfl,fun ν l w hB=>hB.FY (hB.plain rfl)⟩
 | cj r=>exact ⟨_,h,rfl,fun ν l w hB=>hB.FY (fun r hr=>absurd hr (Nat.not_lt_zero r))⟩
 | aS o e rows =>
  obtain ⟨jf,h,h1,J⟩:=Ks h;refine ⟨_,h,rfl,fun ν l w hB=>?_⟩
  have a8:∀ r,r < jf.length→∃ q,(ai.aS o e rows).row r=q∧np σ 3 q=some ((ai.aS o e jf).row r)∧r < rows.length:=by
   intro r hr;obtain ⟨q,h3,h4⟩:=J r _ (List.getElem?_eq_getElem hr);refine ⟨q,by simp [ai.row,List.getD,h3],?_,by omega⟩
   simpa [ai.row,List.getD,List.getElem?_eq_getElem hr] using h4
  -- cell by cell, against the real cells of the row
  have real:∀ (xs:List Value) (P:Nat→Value→Prop),(∀ (j:Nat) v,xs[j]?=some v→∃ v',P j v'∧ar ν v v')→∀ l,np σ 3 xs=some l→∀ (j:Nat) v,l[j]?=some v→∃ v',P j v'∧ar (ν.comp σ) v v':=by
   intro xs
   induction xs with
   | nil =>
    intro P _ l hl j v hv;have:l=[]:=by simp [np] at hl; exact hl
    rw [this] at hv; simp at hv
   | cons x xs ih =>
    intro P hP l hl j v hv;obtain ⟨y,ys,rfl,e1,e2⟩:=Ft hl;cases j with
    | zero =>
     simp at hv; subst hv;obtain ⟨v',h3,h4⟩:=hP 0 x rfl;exact ⟨v',h3,MY 3 _ _ _ e1 h4⟩
    | succ j =>
     exact ih (fun j=>P (j+1)) (fun j v hv=>hP (j+1) v (by simpa using hv)) ys e2 j v (by simpa using hv)
  refine ⟨hB.ae,fun r hr=>?_,fun r hr j v hv=>?_,fun h=>by simp [ai.jc] at h,fun r hr v hv=>?_,fun ho _=>?_,(fun r h=>nomatch h),hB.live⟩
  ·obtain ⟨q,h3,h4,h5⟩:=a8 r hr;have:=(FZ (p:=fun _=>True) (fun _ _ _ _=>trivial) h4 (fun _ _=>trivial)).1
   rw [this,← h3]; exact hB.len r h5
  ·obtain ⟨q,h3,h4,h5⟩:=a8 r hr;exact real q (fun j v'=>w.cell? (l.at r j)=some v') (fun j v hv=>hB.cell r h5 j v (by rw [h3]; exact hv)) _ h4 j v hv
  ·obtain ⟨q,h3,h4,h5⟩:=a8 r hr;exact (FZ (p:=fun v=>v.oneCell'=true) (fun _ _ h h'=>VB h h') h4 (fun v hv=>hB.one r h5 v (by rw [h3]; exact hv))).2 v hv
  ·obtain ⟨cur,t,q1,q2,q3⟩:=hB.own ho rfl;exact ⟨cur,t,q1,q2,by simp only [ai.n] at q3 ⊢; omega⟩
def uT (H:ay):Nat→(Option ai→Prop)→Prop:=fun id k=>match H,id with
 | [],_=>k none
 | b::_,0=>k b
 | _::H,n+1=>uT H n k
theorem Lk:∀ {H:ay} {id:Nat} {k:Option ai→Prop},uT H id k→∃ b,k b∧∀ c,b=some c→H[id]?=some (some c)
 | [],_,k,h=>by
  have h:k none:=by unfold uT at h; exact h
  exact ⟨none,h,fun c hc=>by cases hc⟩
 | b::_,0,k,h=>by
  have h:k b:=by unfold uT at h; exact h
  exact ⟨b,h,fun c hc=>by rw [hc]; rfl⟩
 | _::H,n+1,k,h=>by
  have h:uT H n k:=by unfold uT at h; exact h
  obtain ⟨b,h1,J⟩:=Lk h;exact ⟨b,h1,fun c hc=>by simpa using J c hc⟩
def Dh (σ:List Nat) (H:ay):List Nat→(ay→Prop)→Prop
 | [],k=>k []
 | s::l,k=>uT H s fun b=>match b with
  | none=>Dh σ H l fun H'=>k (none::H')
  | some b=>PU σ b fun b'=>Dh σ H l fun H'=>k (some b'::H')
theorem Fv {σ:List Nat} {H:ay}:∀ {l:List Nat} {k:ay→Prop},Dh σ H l k→∃ H',k H'∧H'.length=l.length∧∀ (j:Nat) b',H'[j]?=some (some b')→∃ s b,l[j]?=some s∧H[s]?=some (some b)∧b'.own=b.own ∧
  ∀ (ν:Nu) (lc:Loc) (w:World),bQ ν lc b w→bQ (ν.comp σ) lc b' w
 | [],k,h=>⟨[],h,rfl,fun j b hj=>by simp at hj⟩
 | s::l,k,h=>by
  obtain ⟨b,h,hb⟩:=Lk h;cases b with
  | none =>
   obtain ⟨H',h1,J,h3⟩:=Fv (l:=l) h;refine ⟨_,h1,by simp [J],fun j b' hj=>?_⟩
   cases j with
   | zero=>simp at hj
   | succ j=>simpa using h3 j b' (by simpa using hj)
  | some b =>
   obtain ⟨b1,h,ho,hr⟩:=Ux h;obtain ⟨H',h1,J,h3⟩:=Fv (l:=l) h;refine ⟨_,h1,by simp [J],fun j b' hj=>?_⟩
   cases j with
   | zero=>simp at hj; subst hj; exact ⟨s,b,rfl,hb b rfl,ho,hr⟩
   | succ j=>simpa using h3 j b' (by simpa using hj)
def CU (a:Nat):List Nat→Bool
 | []=>true
 | b::l=>match Nat.beq a b with
  | true=>false
  | false=>CU a l
theorem Ll {a:Nat}:∀ {l:List Nat},CU a l=true→a ∉ l
 | [],_=>by simp
 | b::l,h=>by
  unfold CU at h
  split at h
  ·cases h
  ·rename_i e;rw [List.mem_cons,not_or];exact ⟨Nat.ne_of_beq_eq_false e,Ll h⟩
def Di:List Nat→Bool
 | []=>true
 | a::l=>match CU a l with
  | true=>Di l
  | false=>false
theorem L9:∀ {l:List Nat},Di l=true→l.Nodup
 | [],_=>by simp
 | a::l,h=>by
  unfold Di at h
  split at h
  ·rename_i e; exact List.nodup_cons.2 ⟨Ll e,L9 h⟩
  ·cases h
def preB (base:Nat):Nat→List Nat→Bool
 | k,[]=>Nat.ble base k
 | k,a::l=>match Nat.ble base k with
  | true=>true
  | false=>match Nat.beq a k with
   | true=>preB base (k+1) l
   | false=>false
theorem Ma {base:Nat}:∀ {l:List Nat} {k:Nat},preB base k l=true→∀ j,k+j < base→l[j]?=some (k+j)
 | [],k,h,j,hj=>by
  have:=Nat.le_of_ble_eq_true h;omega
 | a::l,k,h,j,hj=>by
  unfold preB at h
  split at h
  ·rename_i e; have:=Nat.le_of_ble_eq_true e; omega
  ·split at h
   ·rename_i e;have e:=Nat.eq_of_beq_eq_true e;cases j with
    | zero=>simp [e]
    | succ j =>
     have:=Ma h j (by omega)
     rw [List.getElem?_cons_succ,this]; congr 1; omega
   ·cases h
def G5 (base:Nat) (σ:List Nat):Bool:=match preB base 0 σ with
 | true=>Di σ
 | false=>false
theorem SC {base:Nat} {σ:List Nat} (h:G5 base σ=true):(∀ j,j < base→σ[j]?=some j)∧σ.Nodup:=by
 unfold G5 at h
 split at h
 ·rename_i e;exact ⟨fun j hj=>by have:=Ma e j (by omega); simpa using this,L9 h⟩
 ·cases h
def Ie (E:Env) (σ aa:List Nat) (t:List Value) (H:ay) (k:SK):Prop :=
 match G5 E.base σ with
 | true=>∀ a:Nat→Value,zS a σ aa 0 t fun t'=>Dh σ H σ fun H'=>k t' H'
 | false=>False
theorem Uy {E:Env} {F:Fr} (bO:lf F E) {σ aa:List Nat} {ν:Nu} {t:List Value} {H:ay} {a:Act} {w:World} {k:SK} (hi:bz F ν t H a w) (h:Ie E σ aa t H k) :
  ∃ t' H',k t' H'∧bz F (ν.comp σ) t' H' a w:=by
 unfold Ie at h
 split at h
 ·rename_i hb;obtain ⟨Ai,c4⟩:=SC hb;obtain ⟨af,I7⟩:=NK hi.tm;obtain ⟨t',h,ht⟩:=Fu (h af) ν _ hi.tm (fun j y hy aj=>by rw [Nat.zero_add]; exact I7 j y hy aj)
  obtain ⟨H',h,kF,hH⟩:=Fv h;have ng:∀ (j s:Nat),σ[j]?=some s→(ν.comp σ) j=ν s:=fun j s hj=>by simp [Nu.comp,hj]
  refine ⟨t',H',h,⟨ht,hi.df,⟨fun j b' hj=>?_,fun i j bi bj li lj aR gx aJ ho e1 e2=>?_⟩,fun j hj=>?_,hi.kp,fun j b' l hj ho hl=>?_,fun id l bo=>?_⟩⟩
  ·obtain ⟨s,b,h1,J,h3,h4⟩:=hH j b' hj;obtain ⟨l,h5,h6⟩:=hi.hp.aI s b J;exact ⟨l,by rw [ng j s h1]; exact h5,h4 ν l w h6⟩
  ·obtain ⟨s,b,h1,J,h3,h4⟩:=hH i bi aR;obtain ⟨s',b',fg,j7,tg,rf⟩:=hH j bj gx;rw [ng i s h1] at e1;rw [ng j s' fg] at e2;refine hi.hp.sep s s' b b' li lj J j7 (fun e=>aJ ?_) (by rw [← h3]; exact ho) e1 e2
   subst e;exact (List.getElem?_inj (List.getElem?_eq_some_iff.1 h1).1 c4).1 (h1.trans fg.symm)
  ·rw [kF] at hj;simp [Nu.comp,List.getElem?_eq_none hj]
  ·obtain ⟨s,b,h1,J,h3,h4⟩:=hH j b' hj;rw [ng j s h1] at hl;exact hi.own s b l J (by rw [← h3]; exact ho) hl
  ·have al:id < F.n0:=by
    rcases Nat.lt_or_ge id F.n0 with h | h
    ·exact h
    ·rw [F.fresh id h] at bo; cases bo
   rw [ng id id (Ai id (by have:=bO.n0; omega))]
   exact hi.mono id l bo
 ·exact h.elim
def Ig (E:Env) (t:List Value) (H:ay) (k:SK):Prop:=k t H∨∃ σ aa,Ie E σ aa t H k
theorem Mb {E:Env} {F:Fr} (bO:lf F E) {ν:Nu} {t:List Value} {H:ay} {a:Act} {w:World} {k:SK} (hi:bz F ν t H a w) (h:Ig E t H k) :
  ∃ aj t' H',k t' H'∧bz F aj t' H' a w:=by
 rcases h with h | ⟨σ,aa,h⟩
 ·exact ⟨ν,t,H,h,hi⟩
 ·obtain ⟨t',H',h1,J⟩:=Uy bO hi h;exact ⟨_,t',H',h1,J⟩
inductive bC:List (Option Value)→List Value→Prop
 | nil:bC [] []
 | aa {v:Value} {ps:List (Option Value)} {vs:List Value} (h:bC ps vs):bC (some v::ps) (v::vs)
 | skip {v:Value} {ps:List (Option Value)} {vs:List Value} (h:bC ps vs):bC (none::ps) (v::vs)
def qH (a:Nat→Value):Nat→List (Option Value)→List Value
 | _,[]=>[]
 | i,some v::ps=>v::qH a (i+1) ps
 | i,none::ps=>a i::qH a (i+1) ps
def aF (n:Nat) (ps:List (Option Value)):List (Option Value):=match n with
 | 0=>ps
 | n+1=>none::aF n ps
def zs (a:Nat→Value) (i n:Nat) (l:List Value):List Value:=match n with
 | 0=>l
 | n+1=>a i::zs a (i+1) n l
theorem bC.sk:∀ (n:Nat) {ps:List (Option Value)} {vs:List Value},bC ps (vs.drop n)→Nat.ble n vs.length=true→bC (aF n ps) vs
 | 0,_,_,h,_=>h
 | n+1,_,[],_,h=>by simp at h
 | n+1,_,v::vs,h,hn=>.skip (bC.sk n (vs:=vs) h (by simpa using hn))
theorem bL {ps:List (Option Value)} {vs:List Value} (h:bC ps vs):∃ a:Nat→Value,vs=qH a 0 ps:=by
 have key:∀ (ps:List (Option Value)) (vs:List Value),bC ps vs→∀ i,∃ a:Nat→Value,vs=qH a i ps:=by
  intro ps vs h
  induction h with
  | nil=>exact fun i=>⟨fun _=>undef,rfl⟩
  | aa h ih=>
   intro i;obtain ⟨a,ha⟩:=ih (i+1);exact ⟨a,by rw [ha]; rfl⟩
  | @skip v ps vs h ih =>
   intro i;obtain ⟨a,ha⟩:=ih (i+1);refine ⟨fun j=>if j=i then v else a j,?_⟩
   have e:∀ (ps:List (Option Value)) (k:Nat),i < k→qH (fun j=>if j=i then v else a j) k ps=qH a k ps:=by
    intro ps
    induction ps with
    | nil=>intros; rfl
    | cons p ps ih =>
     intro k hk;cases p with
     | none=>simp only [qH,ih (k+1) (by omega),if_neg (show k≠i by omega)]
     | some p=>simp only [qH,ih (k+1) (by omega)]
   simp only [qH,e ps (i+1) (by omega),ha,if_true]
 exact key ps vs h 0
open Go Go.RowKit
def Pd (E:Env) (o:Oper) (tmps:List Value) (H:ay) (k:SK) (q:Prop):Prop :=
 match o.op with
 | .store t x y=>Cz E tmps H t x y fun t' H'=>dr t' o.dst undef fun vB=>k vB H'
 | .call c=>match c.callee with
  | .builtin .append=>match c.args.toList,c.argTypes.toList with
   | [x,y],[t,t']=>match Nat.beq t t' with
    | true=>NL E tmps H t x y fun v t1 H1=>dr t1 o.dst v fun t2=>k t2 H1
    | false=>q
   | _,_=>False
  | .builtin .clear=>match c.args.toList,c.argTypes.toList with
   | [x],[t]=>OC E tmps H t x fun H1=>dr tmps o.dst (.tuple #[]) fun t2=>k t2 H1
   | _,_=>False
  | .builtin .copy=>match c.args.toList,c.argTypes.toList with
   | [x,y],[t,_]=>bZ tmps x fun xv=>bZ tmps y fun yv=>Gv E H t xv yv fun v H1=>dr tmps o.dst v fun t2=>k t2 H1
   | _,_=>False
  | .value f=>bZ tmps f fun fv=>match fv with
   | .func (.func g) a b=>match E.Ψ g with
    | some G=>qm tmps c.args.toList fun vs=>qO a.toList vs fun l=>qO l b.toList fun args=>G args H fun v H'=>dr tmps o.dst v fun t'=>k t' H'
    | none=>q
   | .func (.yield l) a b=>match a.toList,b.toList,E.ys with
    | [],[],(l',G)::_=>l'=l∧qm tmps c.args.toList fun vs=>G vs H fun v H'=>dr tmps o.dst v fun t'=>k t' H'
    | _,_,_=>False
   | _=>False
  | _=>q
 | _=>q
def zw (E:Env) (o:Oper) (tmps:List Value) (H:ay) (k:SK):Prop :=
 Pd E o tmps H k (jz H fun aK=>ld E o.op tmps H aK fun v nb=>dr tmps o.dst v fun t'=>vi H nb fun H'=>k t' H')
def xu (E:Env) (ops:List Oper) (o:Oper) (tmps:List Value) (H:ay) (k:SK):Prop :=
 match o.guard with
 | none=>zw E o tmps H k
 | some (j,want)=>match (ops[j]?).bind (·.dst) with
  | some d=>qN tmps d fun v=>match v with
   | .bool b=>match want with
    | true=>br b (zw E o tmps H k) (dr tmps o.dst undef fun t'=>k t' H)
    | false=>br b (dr tmps o.dst undef fun t'=>k t' H) (zw E o tmps H k)
   | .tuple _=>dr tmps o.dst undef fun t'=>k t' H
   | _=>False
  | none=>False
def nq (E:Env) (ops:List Oper):List Oper→List Value→ay→SK→Prop
 | [],t,H,k=>k t H
 | [o],t,H,k=>xu E ops o t H k
 | o::p::l,t,H,k=>xu E ops o t H fun t' H'=>nq E ops (p::l) t' H' k
theorem Mc {E:Env} {ops l:List Oper} {o:Oper} {t:List Value} {H:ay} {k:SK} (h:nq E ops (o::l) t H k):xu E ops o t H fun t' H'=>nq E ops l t' H' k:=by
 cases l with
 | nil=>exact h
 | cons p l=>exact h
section
variable {P:Program} {E:Env} {r:Option Nat} {n:Nat} {F:Fr}
def uH (ν:Nu) (H:ay) (x:Nat):Prop:=∃ id c l,H[id]?=some (some c)∧c.own=true∧ν id=some l∧x=l.aI
theorem bz.called {ν aj:Nu} {tmps:List Value} {H H':ay} {a:Act} {w w':World} (hi:bz F ν tmps H a w) (hle:ν.le aj) (Aj:bS aj H' w') (zT:∀ id,H'.length≤id→aj id=none)
  (th:Kept (uH ν H) w w') (ky:∀ id b l,H'[id]?=some (some b)→b.own=true→aj id=some l→uH ν H l.aI∨w.heap.size≤l.aI):bz F aj tmps H' a w':=by
 have hO:∀ x,uH ν H x→F.O x∨F.W.heap.size≤x:=by
  rintro x ⟨id,c,l,h1,J,h3,rfl⟩
  exact hi.own id c l h1 J h3
 refine ⟨hi.tm.mono hle,Bu hi.df fun D hD=>?_,Aj,zT,hi.kp.then th hO,fun id b l h5 h6 h7=>(ky id b l h5 h6 h7).elim (hO _) (fun h=>.inr (Nat.le_trans hi.kp.size h)),Nu.le_trans hi.mono hle⟩
 refine (th.aI D (Array.getElem?_eq_some_iff.1 hD).1 ?_).trans hD
 rintro ⟨id,c,l,h1,J,h3,rfl⟩
 obtain ⟨l',h4,hB⟩:=hi.hp.aI id c h1;rw [h3] at h4; cases h4;cases hr:c.rc with
 | none =>
  obtain ⟨cur,t,h5,_⟩:=hB.own J hr;rw [h5] at hD; cases hD
 | some r =>
  have:=hB.lr r hr;rw [this] at hD; cases hD
theorem Lm (hE:jX P E) (bO:lf F E) {o:Oper} {ν:Nu} {tmps:List Value} {H:ay} {a:Act} {w:World} (hi:bz F ν tmps H a w) {k:SK}
  (h:zw E o tmps H k) {next:Act→World→Prop} {Q:Exit→Act→World→Prop}
  (hk:∀ ν t' H' a' w',bz F ν t' H' a' w'→k t' H'→next a' w'):o.wpIn (WF r) n P a w next Q:=by
 have quiet:(jz H fun aK=>ld E o.op tmps H aK fun v nb=>dr tmps o.dst v fun t'=>vi H nb fun H'=>k t' H')→o.wpIn (WF r) n P a w next Q:=by
  intro h;have h:=mn h;obtain ⟨v,nb,rh,hq⟩:=Bt (P:=P) hE.toEnvOk h;refine hq o ν a w r n rfl (fun x _=>hi.mA x) hi.hp (hi.fr _ (Nat.le_refl _)) next Q (fun v' w' aj hp=>?_)
  have sE:∀ (k':ay→Prop),vi H nb k'→∃ H',k' H'∧bz F aj tmps H' a w':=fun k' IY=>hi.quiet hp IY
  -- first the new block, then the slot
  cases hd:o.dst with
  | none =>
   rw [hd] at rh;obtain ⟨H',h1,J⟩:=sE _ rh;exact hk _ _ _ _ _ J h1
  | some d =>
   rw [hd] at rh;obtain ⟨h1,J⟩:=oN rh;obtain ⟨H',h3,h4⟩:=sE _ J;refine hk aj (tmps.set d v) H' _ w' ⟨?_,h4.df,h4.hp,h4.fr,h4.kp,h4.own,h4.mono⟩ h3;rw [rT];exact h4.tm.set hp.val d
 unfold zw Pd at h
 split at h
 ·rename_i t x y ho;exact Sz hE.toEnvOk ho hi h hk
 ·rename_i c ho
  split at h
  ·rename_i hc
   split at h
   ·rename_i x y t t' hx ht
    split at h
    ·rename_i hb;have hb:t=t':=Nat.eq_of_beq_eq_true hb;subst hb;obtain ⟨v,v',aj,t1,H1,w1,h,hv,aR,bE⟩:=R9 hE.toEnvOk bO hi h o.type;obtain ⟨t2,h,ik⟩:=aR.dst hv h;have hx:c.args=#[x,y]:=Array.ext' hx;have ht:c.argTypes=#[t,t]:=Array.ext' ht;exact jK (by simp [ho]) (by simp [execOp,ho,resolve,hc,hx,ht,invoke,builtin,bE]) next Q (hk _ _ _ _ _ ik h)
    ·exact quiet h
   ·exact h.elim
  ·rename_i hc
   split at h
   ·rename_i x t hx ht;obtain ⟨H1,w1,h,aR,bE⟩:=SB hE.toEnvOk hi h o.type;obtain ⟨t2,h,ik⟩:=aR.dst (.tuple [] [] rfl (fun i x y hx _=>by simp at hx)) h
    have hx:c.args=#[x]:=Array.ext' hx;have ht:c.argTypes=#[t]:=Array.ext' ht;exact jK (by simp [ho]) (by simp [execOp,ho,resolve,hc,hx,ht,invoke,builtin,bE]) next Q (hk _ _ _ _ _ ik h)
   ·exact h.elim
  ·rename_i hc
   split at h
   ·rename_i x y t t2 hx ht;obtain ⟨xv,J,vz⟩:=kN h (hi.mA x);clear h;obtain ⟨yv,h,vA⟩:=kN J (hi.mA y);obtain ⟨v,H1,w1,h,hv,aR,bE⟩:=Lj hE.toEnvOk hi vz vA h t2 o.type;obtain ⟨t2,h,ik⟩:=aR.dst hv h;have hx:c.args=#[x,y]:=Array.ext' hx;have ht:c.argTypes=#[t,_]:=Array.ext' ht;exact jK (by simp [ho]) (by simp [execOp,ho,resolve,hc,hx,ht,invoke,builtin,bE]) next Q (hk _ _ _ _ _ ik h)
   ·exact h.elim
  ·rename_i f hc;have h0:=h;obtain ⟨fv,J,hf⟩:=kN h (hi.mA f);clear h
   split at J
   ·rename_i g xa ya
    split at J
    ·rename_i G hG;obtain ⟨vs,h,fG⟩:=EM J (fun z _=>hi.mA z)
     clear J;have J:=wq (wq h);clear h;have bf:=hE.ft g G hG;obtain ⟨ys,dg,j5,h3,h4⟩:=hf.rW;have nX:=(h3.append fG).append h4;refine ⟨fun _ _=>trivial,?_⟩
     have bE:(execOp a.eval o).run P w=.ok (.enter g ⟨(ys++c.args.toList.map a.eval)++dg⟩) w:=by
      simp only [execOp,ho,resolve,hc,j5,Deferred.ofValue,Sem.run_bind,Sem.run_pure,Result.andThen_ok,invoke,bf.enters]
      congr 2
      apply Array.ext';simp
     rw [Oper.semAt_eq _ _ _ (by simp [ho]),bE]
     refine ⟨fun h=>by simp [WF,Fence.wide] at h,?_⟩
     have zn:=bf.calls _ H _ J ν _ w (n - 1) (uH ν H) nX hi.hp hi.fr (fun id b l h5 h6 h7=>⟨id,b,l,h5,h6,h7,rfl⟩)
     have yY:CallsIn (WF r) (n - 1) P g ⟨(ys++c.args.toList.map a.eval)++dg⟩ w _:=zn;refine yY.mono ?_
     rintro e w' ⟨v,v',aj,H',rfl,h,hv,hle,Aj,zT,th,ky⟩
     have aR:bz F aj tmps H' a w':=hi.called hle Aj zT th ky;obtain ⟨t',h,ik⟩:=aR.dst hv h;exact hk _ _ _ _ _ ik h
    ·exact quiet J
   ·rename_i l xa ya
    split at J
    ·rename_i l' G rest vE Ak DQ;obtain ⟨rfl,J⟩:=J;obtain ⟨vs,J,fG⟩:=EM J (fun z _=>hi.mA z)
     obtain ⟨ys,dg,j5,h3,h4⟩:=hf.rW;rw [vE] at h3; rw [Ak] at h4;have e1:=h3.ja;have e2:=h4.ja;subst e1; subst e2;obtain ⟨fn,tm,QJ,body,hy,Z2⟩:=hE.ys l' G rest DQ _ H _ J ν _ w (n - 1) (uH ν H) (Nu.le_trans bO.nu hi.mono) fG hi.hp hi.fr (fun id b l h5 h6 h7=>⟨id,b,l,h5,h6,h7,rfl⟩)
     refine ⟨fun _ _=>trivial,?_⟩
     have bE:(execOp a.eval o).run P w=.ok (.round l' fn tm QJ body) w:=by
      simp only [execOp,ho,resolve,hc,j5,Deferred.ofValue,Sem.run_bind,Sem.run_pure,Result.andThen_ok,invoke];have e:(⟨List.map a.eval c.args.toList⟩:Array Value)=Array.map a.eval c.args:=Array.ext' (by simp)
      rw [e] at hy
      simpa using hy
     rw [Oper.semAt_eq _ _ _ (by simp [ho]),bE]
     refine ⟨fun h=>by simp [WF,Fence.wide] at h,?_⟩
     have Xd:RoundIn (WF r) (n - 1) P l' fn tm QJ body w _:=Z2;refine Xd.mono ?_
     rintro e w' ⟨v,v',aj,H',rfl,h,hv,hle,Aj,zT,th,ky⟩
     have aR:bz F aj tmps H' a w':=hi.called hle Aj zT th ky;obtain ⟨t',h,ik⟩:=aR.dst hv h;exact hk _ _ _ _ _ ik h
    ·exact J.elim
   ·exact J.elim
  ·exact quiet h
 ·exact quiet h
theorem yt {ops:Array Oper} {tmps:Array Value} {j:Nat} {d:Tmp} (hd:(ops[j]?).bind (·.dst)=some d):yielded ops tmps j=match tmps[d]? with | some (.bool b)=>some b | _=>none:=by
 unfold yielded;rw [hd]
 rfl
theorem E6 (hE:jX P E) (bO:lf F E) {ops:Array Oper} {o:Oper} {ν:Nu} {tmps:List Value} {H:ay} {a:Act} {w:World} (hi:bz F ν tmps H a w) {k:SK}
  (h:xu E ops.toList o tmps H k) {next:Act→World→Prop} {Q:Exit→Act→World→Prop}
  (hk:∀ ν t' H' a' w',bz F ν t' H' a' w'→k t' H'→next a' w') :
  if Region.wanted o (yielded ops a.tmps) then o.wpIn (WF r) n P a w next Q else (∀ f,o.about P w a.eval=some f→(WF r).fn f)∧next (a.put o.dst undef) w:=by
 unfold xu at h;have skip:(dr tmps o.dst undef fun t'=>k t' H)→(∀ f,o.about P w a.eval=some f→(WF r).fn f)∧next (a.put o.dst undef) w:=fun h=>by
  obtain ⟨t',h1,J⟩:=hi.dst (.undef ν) h;exact ⟨fun _ _=>trivial,hk _ _ _ _ _ J h1⟩
 split at h
 ·rename_i hg;have:Region.wanted o (yielded ops a.tmps)=true:=by simp [Region.wanted,hg]
  rw [if_pos this];exact Lm hE bO hi h hk
 ·rename_i j want hg
  split at h
  ·rename_i d hd;have cU:(ops[j]?).bind (·.dst)=some d:=by simpa using hd
   obtain ⟨v,hv,h⟩:=oM h;obtain ⟨v',om,hr⟩:=hi.tm.get hv;have adV:a.tmps[d]?=some v':=by simpa using om
   have hy:=yt (tmps:=a.tmps) cU;rw [adV] at hy
   split at h
   ·rename_i b;have:=hr.kg;subst this;have hw:Region.wanted o (yielded ops a.tmps)=(b == want):=by
     simp only [Region.wanted,hg,hy];cases b <;> cases want <;> rfl
    rw [hw];cases want <;> cases b <;> first | exact Lm hE bO hi h hk | exact skip h
   ·rename_i vs;obtain ⟨ys,rfl,_⟩:=ar.nN (xs:=vs.toList) hr;have hw:Region.wanted o (yielded ops a.tmps)=false:=by
     simp only [Region.wanted,hg,hy]
     rfl
    rw [hw];simp only [Bool.false_eq_true,if_false];exact skip h
   ·exact h.elim
  ·exact h.elim
theorem Md (hE:jX P E) (bO:lf F E) {ops:Array Oper} {Q:Exit→Act→World→Prop}:∀ {l:List Oper} {idx:List Nat} {ν:Nu} {tmps:List Value} {H:ay} {a:Act} {w:World} {k:SK},
  idx.map (ops[·]?)=l.map some→bz F ν tmps H a w→nq E ops.toList l tmps H k→(∀ ν t' H' a' w',bz F ν t' H' a' w'→k t' H'→Q .normal a' w')→wpOpsIn (WF r) n P ops Q idx a w
 | [],idx,ν,tmps,H,a,w,k,he,hi,h,hk=>by
  have:idx=[]:=by cases idx with
   | nil=>rfl
   | cons=>simp at he
  subst this;exact hk _ _ _ _ _ hi h
 | o::l,idx,ν,tmps,H,a,w,k,he,hi,h,hk=>by
  cases idx with
  | nil=>simp at he
  | cons i idx =>
   simp only [List.map_cons,List.cons.injEq] at he;simp only [wpOpsIn,he.1];exact E6 hE bO hi (Mc h) (fun ν t' H' a' w' aR h'=>Md hE bO he.2 aR h' hk)
theorem Sa (hE:jX P E) (bO:lf F E) {ops:Array Oper} {Q:Exit→Act→World→Prop} {id:Nat} {ν:Nu} {tmps:List Value} {H:ay} {a:Act} {w:World} {k:SK}
  (hi:bz F ν tmps H a w) (h:nq E ops.toList ops.toList tmps H k) (hk:∀ ν t' H' a' w',bz F ν t' H' a' w'→k t' H'→Q .normal a' w'):(Code.region id ops false).wpIn (WF r) n P Q a w:=by
 refine wpIn_region (Md hE bO ?_ hi h hk);apply List.ext_getElem?;intro i;simp only [List.getElem?_map,List.getElem?_range,Array.getElem?_toList];by_cases al:i < ops.size
 ·simp [al]
 ·simp [al]
end
open Go Go.RowKit
abbrev XK:=Nat→List Value→ay→Prop
def Ca (body:List Value→ay→SK→Prop):Nat→List Value→ay→Prop
 | 0,_,_=>False
 | m+1,t,H=>body t H (Ca body m)
def Hx:List Value→List Nat→List Value→(List Value→Prop)→Prop
 | t,[],[],k=>k t
 | t,p::ps,x::xs,k=>xH t p x fun t'=>Hx t' ps xs k
 | _,_,_,_=>False
theorem Ln:∀ {t:List Value} {ps:List Nat} {xs:List Value} {k:List Value→Prop},Hx t ps xs k→ps.length=xs.length∧∃ t1,k t1∧∀ (ν:Nu) (a:Array Value) (as:List Value),bg ν t a.toList→bg ν xs as→bg ν t1 ((ps.zip as).foldl (fun t (p,v)=>t.setIfInBounds p v) a).toList
 | t,[],[],k,h=>⟨rfl,t,h,fun ν a as ha hx=>ha⟩
 | t,p::ps,x::xs,k,h=>by
  obtain ⟨al,h⟩:=oN h;obtain ⟨h1,t1,J,h3⟩:=Ln h;refine ⟨by simp [h1],t1,J,fun ν a as ha hx=>?_⟩
  obtain ⟨y,ys,rfl,k1,k2⟩:=hx.js;refine h3 ν (a.setIfInBounds p y) ys ?_ k2;rw [Array.toList_setIfInBounds];exact ha.set k1 p
 | _,[],_::_,_,h=>h.elim
 | _,_::_,[],_,h=>h.elim
def CV (H:ay) (id:Nat) (k:Loop→Prop):Prop :=
 gR H id fun b=>match b with
  | .cj r=>k r
  | _=>False
def CW (R:LoopState→Option Code→Loop) (γ:Nat) (jump:Option Code) (K:Value→ay→Prop) (H:ay):Prop :=
 CV H γ fun r=>r=R .busy none∧jy H γ (some (.cj (R (match jump with | none=>.ready | some _=>.done) jump))) fun H'=>K (.bool (match jump with | none=>true | some _=>false)) H'
def Z3 (R:LoopState→Option Code→Loop) (γ:Nat) (t:List Value) (kn:SK) (kx:XK) (kr:SK) (H:ay):Prop :=
 CV H γ fun r=>jy H γ none fun H'=>match r.state,r.pending with
  | .busy,_=>False
  | _,none=>kn t H'
  | _,some (.exit i)=>kx i t H'
  | _,some .ret=>kr t H'
  | _,_=>False
def vc:Env→(Env→List Oper→List Value→ay→SK→Prop)→Code→List Value→ay→SK→XK→SK→Prop
 | _,_,.skip,t,H,kn,_,_=>kn t H
 | E,_,.region _ ops false,t,H,kn,_,_=>nq E ops.toList ops.toList t H kn
 | E,D,.region _ ops true,t,H,kn,_,_=>D E ops.toList t H kn
 | E,D,.seq a b,t,H,kn,kx,kr=>vc E D a t H (fun t H=>vc E D b t H kn kx kr) kx kr
 | E,D,.cond c x y,t,H,kn,kx,kr=>bZ t c fun v=>match v with
  | .bool b=>br b (vc E D x t H kn kx kr) (vc E D y t H kn kx kr)
  | _=>False
 | E,D,.block id c,t,H,kn,kx,kr=>vc E D c t H kn (fun i t H=>match Nat.beq i id with | true=>kn t H | false=>kx i t H) kr
 | _,_,.exit id,t,H,_,kx,_=>kx id t H
 | _,_,.ret,t,H,_,_,kr=>kr t H
 | E,D,.loop c,t,H,_,kx,kr =>
  (∃ I:Nat→List Value→ay→Prop,(Ig E t H fun t H=>∃ n,I n t H)∧∀ n t H,I n t H→vc E D c t H (fun t H=>Ig E t H fun t H=>∃ m,m < n∧I m t H) kx kr) ∨
  (∃ m,Ca (fun t H k=>vc E D c t H k kx kr) m t H)
 | E,D,.rangeFunc g ps assign body,t,H,kn,kx,kr=>match E.rd with
  | true=>False
  | false=>bZ t g fun gv=>match gv with
   | .func (.func f) a b=>match a.toList,E.It f with
    | [],some I=>∀ (l:Nat) (nu:Nu) (fn:FuncId) (tm:Array Value) (df:Nat),jz H fun γ=>o5 H (some (.cj ⟨.ready,none,fn,tm,ps,assign,body,df⟩)) fun H1 =>
     I l (fun args H K=>CV H γ fun r=>r=⟨.ready,none,fn,tm,ps,assign,body,df⟩∧Hx t ps.toList args fun t1=>jz H fun n0 =>
       vc { E with base:=n0,rd:=true } D assign t1 H (fun t2 H2=>CV H2 γ fun r2=>r2=⟨.ready,none,fn,tm,ps,assign,body,df⟩∧jy H2 γ (some (.cj ⟨.busy,none,fn,tm,ps,assign,body,df⟩)) fun H3 =>
         vc { E with base:=n0,rd:=true } D body t2 H3 (fun _ H4=>CW (fun s p=>⟨s,p,fn,tm,ps,assign,body,df⟩) γ none K H4) (fun i _ H4=>CW (fun s p=>⟨s,p,fn,tm,ps,assign,body,df⟩) γ (some (.exit i)) K H4)
          (fun _ H4=>CW (fun s p=>⟨s,p,fn,tm,ps,assign,body,df⟩) γ (some .ret) K H4))
        (fun _ _ _=>False) (fun _ _=>False))
      nu (.func (.yield l) #[] #[]::b.toList) H1 fun _ H2=>Z3 (fun s p=>⟨s,p,fn,tm,ps,assign,body,df⟩) γ t kn kx kr H2
    | _,_=>False
   | _=>False
 | _,_,_,_,_,_,_,_=>False
def wI (E:Env) (H:ay) (tmps:List Value):List ResultVar→(List Value→Prop)→Prop
 | [],k=>k []
 | .tmp t::l,k=>qN tmps t fun v=>wI E H tmps l fun vs=>k (v::vs)
 | .cell a t::l,k=>qN tmps a fun av=>match av with
  | .pointer (some ⟨id,row,sp⟩)=>cK E.tt t fun ti=>gR H id fun b=>HV b row fun cs=>uN cs (sp.getD 0) ti.size fun us=>wI E H tmps l fun vs=>k (valOf ti.agg us::vs)
  | _=>False
def Dj (vs:List Value) (k:Value→Prop):Prop :=
 match vs with
 | [v]=>k v
 | vs=>k (.tuple ⟨vs⟩)
def xf:Value→Bool
 | .bool _ | .int _ _ | .string _ | .pointer none | .nilFunc=>true
 | .agg cs=>jM cs.toList
 | .func _ a b=>a.toList.isEmpty && b.toList.isEmpty
 | _=>false
def tY:List Value→Bool
 | []=>true
 | v::l=>xf v && tY l
def CA:Value→Bool
 | .tuple vs=>tY vs.toList
 | .func _ a b=>tY a.toList && tY b.toList
 | v=>xf v
theorem bg.Me {ν:Nu}:∀ {l:List Value},jM l=true→bg ν l l
 | [],_=>.nil ν
 | v::l,h=>by
  simp only [jM,Bool.and_eq_true] at h;exact .cons (ar.ke h.1) (bg.Me h.2)
theorem KS {v:Value} (h:xf v=true):(∀ ν,ar ν v v)∧∀ ν w,ar ν v w→w=v:=by
 cases v with
 | bool b=>exact ⟨fun ν=>.bool b,fun ν w hw=>hw.kg⟩
 | int k n=>exact ⟨fun ν=>.int k n,fun ν w hw=>hw.fZ⟩
 | string s=>exact ⟨fun ν=>.str s,fun ν w hw=>hw.r8⟩
 | pointer a =>
  cases a with
  | none=>exact ⟨fun ν=>.mE,fun ν w hw=>by cases hw; rfl⟩
  | some a=>simp [xf] at h
 | nilFunc=>exact ⟨fun ν=>.mF,fun ν w hw=>by cases hw; rfl⟩
 | agg cs =>
  have h':jM cs.toList=true:=h;refine ⟨fun ν=>?_,fun ν w hw=>?_⟩
  ·have:=bg.Me (ν:=ν) h';exact .agg _ _ this.1 this.2
  ·obtain ⟨ys,rfl,hy⟩:=ar.uE (xs:=cs.toList) hw;rw [bg.kf (yi h') hy]
 | func fn a b =>
  simp only [xf,Bool.and_eq_true,List.isEmpty_iff] at h;refine ⟨fun ν=>?_,fun ν w hw=>?_⟩
  ·have e1:a=⟨[]⟩:=Array.ext' h.1;have e2:b=⟨[]⟩:=Array.ext' h.2;subst e1; subst e2;exact .func fn [] [] [] [] rfl (fun i x y hx _=>by simp at hx) rfl (fun i x y hx _=>by simp at hx)
  ·obtain ⟨ys,dg,rfl,h1,J⟩:=hw.rW;rw [h.1] at h1; rw [h.2] at J;rw [h1.ja,J.ja];rw [Array.ext' (xs:=a) (ys:=⟨[]⟩) h.1,Array.ext' (xs:=b) (ys:=⟨[]⟩) h.2]
 | _=>simp [xf] at h
theorem AX:∀ {l:List Value},tY l=true→(∀ ν,bg ν l l)∧∀ ν m,bg ν l m→m=l
 | [],_=>⟨fun ν=>.nil ν,fun ν m hm=>hm.ja⟩
 | v::l,h=>by
  simp only [tY,Bool.and_eq_true] at h;obtain ⟨h1,J⟩:=KS h.1;obtain ⟨h3,h4⟩:=AX h.2;refine ⟨fun ν=>.cons (h1 ν) (h3 ν),fun ν m hm=>?_⟩
  obtain ⟨y,ys,rfl,k1,k2⟩:=hm.js;rw [J ν y k1,h4 ν ys k2]
theorem Ba {v:Value} (h:CA v=true):(∀ ν,ar ν v v)∧∀ ν w,ar ν v w→w=v:=by
 cases v with
 | tuple vs =>
  have h':tY vs.toList=true:=h;obtain ⟨h1,J⟩:=AX h';refine ⟨fun ν=>.tuple _ _ (h1 ν).1 (h1 ν).2,fun ν w hw=>?_⟩
  obtain ⟨ys,rfl,hy⟩:=ar.nN (xs:=vs.toList) hw;rw [J ν ys hy]
 | func fn a b =>
  simp only [CA,Bool.and_eq_true] at h;obtain ⟨h1,J⟩:=AX h.1;obtain ⟨h3,h4⟩:=AX h.2;refine ⟨fun ν=>.func fn _ _ _ _ (h1 ν).1 (h1 ν).2 (h3 ν).1 (h3 ν).2,fun ν w hw=>?_⟩
  obtain ⟨ys,dg,rfl,k1,k2⟩:=hw.rW;rw [J ν ys k1,h4 ν dg k2]
 | _=>exact KS h
def Bv:List Value→Bool
 | []=>true
 | v::l=>CA v && Bv l
theorem EA:∀ {l:List Value},Bv l=true→(∀ ν,bg ν l l)∧∀ ν m,bg ν l m→m=l
 | [],_=>⟨fun ν=>.nil ν,fun ν m hm=>hm.ja⟩
 | v::l,h=>by
  simp only [Bv,Bool.and_eq_true] at h;obtain ⟨h1,J⟩:=Ba h.1;obtain ⟨h3,h4⟩:=EA h.2;refine ⟨fun ν=>.cons (h1 ν) (h3 ν),fun ν m hm=>?_⟩
  obtain ⟨y,ys,rfl,k1,k2⟩:=hm.js;rw [J ν y k1,h4 ν ys k2]
def nz (P:Program) (D:Env→List Oper→List Value→ay→SK→Prop):Prop :=
 ∀ (E:Env),jX P E→∀ (r:Option Nat) (n:Nat) (F:Fr),lf F E→∀ (ops:Array Oper) (Q:Exit→Act→World→Prop) (id:Nat) (ν:Nu) (tmps:List Value) (H:ay) (a:Act) (w:World) (k:SK),
  bz F ν tmps H a w→D E ops.toList tmps H k→(∀ ν t' H' a' w',bz F ν t' H' a' w'→k t' H'→Q .normal a' w')→(Code.region id ops true).wpIn (WF r) n P Q a w
section
variable {P:Program} {E:Env} {r:Option Nat} {n:Nat} {F:Fr} {D:Env→List Oper→List Value→ay→SK→Prop}
theorem bz.NM {F:Fr} {ν:Nu} {t:List Value} {H:ay} {a:Act} {w:World} (hi:bz F ν t H a w) {γ:Nat} {r:Loop} {l:Loc} (r':Loop) (hb:H[γ]?=some (some (.cj r))) (hl:ν γ=some l) :
  bz F ν t (H.set γ (some (.cj r'))) a (w.putObj l.aI (.loop r')):=by
 have al:γ < H.length:=(List.getElem?_eq_some_iff.1 hb).1;obtain ⟨l',cE,hB⟩:=hi.hp.aI γ _ hb;rw [hl] at cE; cases cE;have Dk:=hB.lr r rfl;have hw:l.aI < w.heap.size:=(Array.getElem?_eq_some_iff.1 Dk).1;have db:∀ (id:Nat) (b:ai),(H.set γ (some (.cj r')))[id]?=some (some b)→(id=γ∧b=.cj r')∨(id≠γ∧H[id]?=some (some b)):=fun id b h=>by
  by_cases e:id=γ
  ·subst e; rw [List.getElem?_set_self al] at h; cases h; exact .inl ⟨rfl,rfl⟩
  ·rw [List.getElem?_set_ne (Ne.symm e)] at h; exact .inr ⟨e,h⟩
 refine ⟨hi.tm,Bu hi.df fun D hD=>(World.putObj_heap_other (fun e=>by rw [e,Dk] at hD; cases hD)).trans hD,⟨fun id b h=>?_,fun i j bi bj li lj h1 J aJ ho e1 e2=>?_⟩,fun id bo=>hi.fr id (by simpa using bo),
  hi.kp.then (O':=fun x=>x=l.aI) ⟨rfl,rfl,rfl,by simp,fun b h1 J=>World.putObj_heap_other J⟩ (fun b bB=>by subst bB; exact hi.own γ _ _ hb rfl hl),fun id b l' h ho cE=>?_,hi.mono⟩
 ·rcases db id b h with ⟨rfl,rfl⟩ | ⟨aJ,h⟩
  ·exact ⟨l,hl,hB.ae,fun r hr=>absurd hr (Nat.not_lt_zero r),fun r hr=>absurd hr (Nat.not_lt_zero r),(fun h=>nomatch h),fun r hr=>absurd hr (Nat.not_lt_zero r),(fun _ h=>nomatch h),fun r hr=>by cases hr; exact World.putObj_heap_same hw,by simpa using hw⟩
  ·obtain ⟨l',cE,hB'⟩:=hi.hp.aI id b h;exact ⟨l',cE,hB'.same (World.putObj_heap_other (Ne.symm (hi.hp.sep γ id _ b l l' hb h (Ne.symm aJ) rfl hl cE))) (by simp)⟩
 ·rcases db i bi h1 with ⟨rfl,rfl⟩ | ⟨hni,g1⟩ <;> rcases db j bj J with ⟨rfl,rfl⟩ | ⟨hnj,g2⟩
  ·exact absurd rfl aJ
  ·exact hi.hp.sep _ j _ bj li lj hb g2 aJ rfl e1 e2
  ·exact hi.hp.sep i _ bi _ li lj g1 hb aJ ho e1 e2
  ·exact hi.hp.sep i j bi bj li lj g1 g2 aJ ho e1 e2
 ·rcases db id b h with ⟨rfl,rfl⟩ | ⟨aJ,h⟩
  ·exact hi.own _ _ _ hb rfl cE
  ·exact hi.own id b l' h ho cE
theorem VC (hD:nz P D):∀ (c:Code) {E:Env} {r:Option Nat} {n:Nat} {F:Fr},jX P E→lf F E→(E.rd=false→r=none)→∀ {ν:Nu} {t:List Value} {H:ay} {a:Act} {w:World} {kn:SK} {kx:XK} {kr:SK} {Q:Exit→Act→World→Prop},
  bz F ν t H a w→vc E D c t H kn kx kr→(∀ ν t H a w,bz F ν t H a w→kn t H→Q .normal a w)→(∀ i ν t H a w,bz F ν t H a w→kx i t H→Q (.exit i) a w) →
  (∀ ν t H a w,bz F ν t H a w→kr t H→Q .ret a w)→c.wpIn (WF r) n P Q a w:=by
 intro c
 induction c with
 | skip=>exact fun hE bO fI=>fun hi h hn _ _=>wpIn_skip (hn _ _ _ _ _ hi h)
 | region id ops d =>
  intro E r n F hE bO fI ν t H a w kn kx kr Q hi h hn _ _;cases d with
  | false=>exact Sa hE bO hi h hn
  | true=>exact hD E hE r n F bO ops Q id ν t H a w kn hi h hn
 | seq x y Ja Jb =>
  intro E r n F hE bO fI ν t H a w kn kx kr Q hi h hn hx hr;exact wpIn_seq (Ja hE bO fI hi h (fun ν t H a w aR h'=>Jb hE bO fI aR h' hn hx hr) hx hr)
 | cond c x y Ja Jb =>
  intro E r n F hE bO fI ν t H a w kn kx kr Q hi h hn hx hr;obtain ⟨v,h,hv⟩:=kN h (hi.mA c)
  split at h
  ·rename_i b;have hb:=hv.kg;exact wpIn_cond_split hb (fun e=>Ja hE bO fI hi (B7 h e) hn hx hr) (fun e=>Jb hE bO fI hi (BJ h e) hn hx hr)
  ·exact h.elim
 | block id c ih =>
  intro E r n F hE bO fI ν t H a w kn kx kr Q hi h hn hx hr;refine wpIn_block (ih hE bO fI hi h hn (fun i ν t H a w aR h'=>?_) hr)
  simp only [Exit.inBlock]
  split at h'
  ·rename_i e;rw [if_pos (Nat.eq_of_beq_eq_true e)]; exact hn _ _ _ _ _ aR h'
  ·rename_i e;rw [if_neg (Nat.ne_of_beq_eq_false e)]; exact hx _ _ _ _ _ _ aR h'
 | loop c ih =>
  intro E r n F hE bO fI ν t H a w kn kx kr Q hi h hn hx hr;rcases h with ⟨I,h00,uU⟩ | ⟨m,hm⟩
  ·-- by an invariant
   obtain ⟨ν,t,H,⟨m0,h0⟩,hi⟩:=Mb bO hi h00;have key:∀ (m:Nat) ν t H a w,bz F ν t H a w→I m t H→∀ (b:Frame) (k:List Item) (cs:List Frame),b.roundOf=(WF r).round→(WF r).fn b.fn→(WF r).room (cs.length+1+n) →
     ∃ e a' w',Q e a' w'∧ArrivesIn (Machine.fenced P (WF r)) P (lone (b.atR a (.code c::.inLoop c::k)) cs w) b k cs e a' w':=by
    intro m
    induction m using Nat.strongRecOn with
    | _ m Jc =>
     intro ν t H a w hi hI b k cs nC hb cQ;have:=ih hE bO fI (Q:=fun e a w=>match e with | .normal=>∃ m' ν t H,m' < m∧bz F ν t H a w∧I m' t H | e=>Q e a w) hi (uU m t H hI)
      (fun ν t H a w aR h'=>let ⟨ri,t2,H2,⟨m',al,Al⟩,ik⟩:=Mb bO aR h'; ⟨m',ri,t2,H2,al,ik,Al⟩) hx hr b (.inLoop c::k) cs nC hb cQ
     obtain ⟨e,mJ,mK,hq,jZ⟩:=this;cases e with
     | normal =>
      obtain ⟨m',aj,t',H',al,aR,Al⟩:=hq;obtain ⟨Ih,Ii,Ij,Hz,Gy⟩:=Jc m' al aj t' H' mJ mK aR Al b k cs nC hb cQ;exact ⟨Ih,Ii,Ij,Hz,.of_steps (StepsIn.trans jZ (.one (fenced_calm hb cQ rfl) stepR_inLoop)) Gy⟩
     | exit id=>exact ⟨_,mJ,mK,hq,.pass (x:=.inLoop c) rfl (fun _ _=>.inl (by simp)) jZ⟩
     | goto l=>exact ⟨_,mJ,mK,hq,.pass (x:=.inLoop c) rfl (fun _ _=>.inl (by simp)) jZ⟩
     | ret=>exact ⟨_,mJ,mK,hq,.pass (x:=.inLoop c) rfl (fun _ _=>.inl (by simp)) jZ⟩
     | panic ch=>exact ⟨_,mJ,mK,hq,.pass (x:=.inLoop c) rfl (fun _ _=>.inl (by simp)) jZ⟩
     | outgrown=>exact ⟨_,mJ,mK,hq,.pass (x:=.inLoop c) rfl (fun _ _=>.inl (by simp)) jZ⟩
   intro b k cs nC hb cQ;obtain ⟨e,a',w',hq,jZ⟩:=key m0 ν t H a w hi h0 b k cs nC hb cQ;exact ⟨e,a',w',hq,.of_steps (.one (fenced_calm hb cQ rfl) stepR_loop) jZ⟩
  ·-- round by round
   have key:∀ (m:Nat) ν t H a w,bz F ν t H a w→Ca (fun t H k=>vc E D c t H k kx kr) m t H→∀ (b:Frame) (k:List Item) (cs:List Frame),b.roundOf=(WF r).round→(WF r).fn b.fn→(WF r).room (cs.length+1+n) →
     ∃ e a' w',Q e a' w'∧ArrivesIn (Machine.fenced P (WF r)) P (lone (b.atR a (.code c::.inLoop c::k)) cs w) b k cs e a' w':=by
    intro m
    induction m with
    | zero=>exact fun ν t H a w _ h=>h.elim
    | succ m Jc =>
     intro ν t H a w hi hI b k cs nC hb cQ;have:=ih hE bO fI (Q:=fun e a w=>match e with | .normal=>∃ ν t H,bz F ν t H a w∧Ca (fun t H k=>vc E D c t H k kx kr) m t H | e=>Q e a w) hi hI
      (fun ν t H a w aR h'=>⟨ν,t,H,aR,h'⟩) hx hr b (.inLoop c::k) cs nC hb cQ
     obtain ⟨e,mJ,mK,hq,jZ⟩:=this;cases e with
     | normal =>
      obtain ⟨aj,t',H',aR,Al⟩:=hq;obtain ⟨Ih,Ii,Ij,Hz,Gy⟩:=Jc aj t' H' mJ mK aR Al b k cs nC hb cQ;exact ⟨Ih,Ii,Ij,Hz,.of_steps (StepsIn.trans jZ (.one (fenced_calm hb cQ rfl) stepR_inLoop)) Gy⟩
     | exit id=>exact ⟨_,mJ,mK,hq,.pass (x:=.inLoop c) rfl (fun _ _=>.inl (by simp)) jZ⟩
     | goto l=>exact ⟨_,mJ,mK,hq,.pass (x:=.inLoop c) rfl (fun _ _=>.inl (by simp)) jZ⟩
     | ret=>exact ⟨_,mJ,mK,hq,.pass (x:=.inLoop c) rfl (fun _ _=>.inl (by simp)) jZ⟩
     | panic ch=>exact ⟨_,mJ,mK,hq,.pass (x:=.inLoop c) rfl (fun _ _=>.inl (by simp)) jZ⟩
     | outgrown=>exact ⟨_,mJ,mK,hq,.pass (x:=.inLoop c) rfl (fun _ _=>.inl (by simp)) jZ⟩
   intro b k cs nC hb cQ;obtain ⟨e,a',w',hq,jZ⟩:=key m ν t H a w hi hm b k cs nC hb cQ;exact ⟨e,a',w',hq,.of_steps (.one (fenced_calm hb cQ rfl) stepR_loop) jZ⟩
 | exit id=>exact fun hE bO fI=>fun hi h _ hx _=>wpIn_exit (hx _ _ _ _ _ _ hi h)
 | ret=>exact fun hE bO fI=>fun hi h _ _ hr=>wpIn_ret (hr _ _ _ _ _ hi h)
 | rangeFunc g ps assign body iha ihb =>
  intro E r n F hE bO fI ν t H a w kn kx kr Q hi h hn hx hr;unfold vc at h
  split at h
  ·exact h.elim
  rename_i adW;obtain rfl:=fI adW;obtain ⟨gv,h,hg⟩:=kN h (hi.mA g)
  split at h
  ·rename_i f xa ya
   split at h
   ·rename_i I vE hI;obtain ⟨zs,Jd,eH,hz,ou⟩:=hg.rW;rw [vE] at hz;have pC:=hz.ja;subst pC;have QM:=hE.IX f I hI;refine wpIn_rangeFunc ?_;intro fn hfn;obtain ⟨W1,Am⟩:∃ W1,W1=(w.alloc (.deferred (some []))).alloc (.loop { state:=.ready,pending:=none,fn,tmps:=a.tmps,params:=ps,assign,body,defers:=w.heap.size }):=⟨_,rfl⟩;refine ⟨w.heap.size+1,[{ target:=.collected w.heap.size,args:=#[] }],W1,{ target:=.fn (.func f) ⟨Jd⟩,args:=#[.func (.yield (w.heap.size+1)) #[] #[]] },W1,f,
     #[.func (.yield (w.heap.size+1)) #[] #[]]++⟨Jd⟩,W1,by rw [Am]; exact run_enterLoop_outer _ _ _ _ _,?_,fun _ _=>trivial,?_,fun h=>by simp [WF,Fence.wide] at h,?_⟩
    ·simp only [resolve,eH];simp [go_sem]
    ·simp [invoke,go_sem,QM.enters]
    -- the record's block
    have nf:ν H.length=none:=hi.fr _ (Nat.le_refl _);obtain ⟨dR,vj⟩:∃ dR,dR=ν.add H.length ⟨w.heap.size+1,0,0,0⟩:=⟨_,rfl⟩;have sR:ν.le dR:=by rw [vj]; exact Nu.ki nf
    have h:=yp (mn (h (w.heap.size+1) dR fn a.tmps w.heap.size));have Ik:Below w.heap.size w W1:=by
     rw [Am]; exact ((Below.refl _ w).alloc (Nat.le_refl _) _).alloc (by simp) _
    have bm:W1.heap.size=w.heap.size+2:=by rw [Am]; simp
    have Dk:W1.heap[w.heap.size+1]?=some (.loop { state:=.ready,pending:=none,fn,tmps:=a.tmps,params:=ps,assign,body,defers:=w.heap.size }):=by
     rw [Am]; have:=World.alloc_heap_new (w.alloc (.deferred (some []))) (.loop { state:=.ready,pending:=none,fn,tmps:=a.tmps,params:=ps,assign,body,defers:=w.heap.size }); rwa [World.size_alloc] at this
    have acp:W1.heap[w.heap.size]?=some (.deferred (some [])):=by
     rw [Am]; exact (Below.heap_alloc _ _ _ (by simp)).trans (World.alloc_heap_new w _)
    have kF:bS dR (H++[some (.cj { state:=.ready,pending:=none,fn,tmps:=a.tmps,params:=ps,assign,body,defers:=w.heap.size })]) W1:=by
     rw [vj];refine hi.hp.push (b:=.cj { state:=.ready,pending:=none,fn,tmps:=a.tmps,params:=ps,assign,body,defers:=w.heap.size }) Ik nf _ (fun j c hj=>?_) (by simp) ⟨rfl,fun r hr=>absurd hr (Nat.not_lt_zero r),fun r hr=>absurd hr (Nat.not_lt_zero r),(fun h=>nomatch h),fun r hr=>absurd hr (Nat.not_lt_zero r),(fun _ h=>nomatch h),fun r hr=>by cases hr; exact Dk,by rw [bm]; simp⟩
     rw [List.getElem?_append] at hj
     split at hj
     ·rename_i al;exact .inr ⟨by omega,hj⟩
     ·rename_i eH;have:j - H.length=0:=by
       rcases Nat.eq_zero_or_pos (j - H.length) with e | e
       ·exact e
       ·rw [List.getElem?_eq_none (by simp; omega)] at hj; cases hj
      rw [this] at hj;simp at hj;exact .inl ⟨by omega,hj.symm⟩
    have adX:∀ id,(H++[some (ai.cj { state:=.ready,pending:=none,fn,tmps:=a.tmps,params:=ps,assign,body,defers:=w.heap.size })]).length≤id→dR id=none:=fun id bo=>by
     rw [List.length_append] at bo;rw [vj,Nu.jb (by simp at bo; omega)]
     exact hi.fr id (by simp at bo; omega)
    have nX:bg dR (.func (.yield (w.heap.size+1)) #[] #[]::ya.toList) (#[Value.func (.yield (w.heap.size+1)) #[] #[]]++(⟨Jd⟩:Array Value)).toList:=by
     simp only [Array.toList_append];exact .cons (.func _ [] [] [] [] rfl (fun i x y hx _=>by simp at hx) rfl (fun i x y hx _=>by simp at hx)) (ou.mono sR)
    have x4:dR H.length=some ⟨w.heap.size+1,0,0,0⟩:=by rw [vj]; exact Nu.add_same
    refine (QM.calls _ _ dR ?_ _ _ _ h dR _ W1 (n - 1) (uH dR (H++[some (.cj { state:=.ready,pending:=none,fn,tmps:=a.tmps,params:=ps,assign,body,defers:=w.heap.size })])) (fun _ _ h=>h) nX kF adX (fun id b l h1 J h3=>⟨id,b,l,h1,J,h3,rfl⟩)).mono ?_
    ·intro xs Hy K hG vF as wy m O Il nD QN Dl acq;obtain ⟨by0,adY,hG⟩:=gK hG
     split at hG
     ·rename_i ry;obtain ⟨rfl,hG⟩:=hG;obtain ⟨ly,Je,hBy⟩:=QN.aI _ _ adY;have PW:=Il _ _ x4;rw [Je] at PW; cases PW;have acr:=hBy.lr _ rfl;obtain ⟨hlen,t1,hG,ht1⟩:=Ln hG;have hG:=mn hG;have Dm:(⟨as⟩:Array Value).size=ps.size:=by
       have:=nD.1;simp at this ⊢
       simpa [this] using hlen.symm
      refine ⟨fn,_,assign,body,run_yield acr Dm,roundIn_of_wpIn trivial ?_⟩;have QO:jX P { E with base:=Hy.length,rd:=true }:=⟨⟨hE.ty,hE.eq,hE.fn,hE.ft⟩,hE.IX,hE.ys⟩
      have QP:lf ⟨wy,O,vF,Hy.length,Dl⟩ { E with base:=Hy.length,rd:=true }:=⟨Nat.le_refl _,Nu.le_trans bO.nu (Nu.le_trans hi.mono (Nu.le_trans sR Il))⟩
      have ik:bz ⟨wy,O,vF,Hy.length,Dl⟩ vF t1 Hy { tmps:=(ps.zip ⟨as⟩).foldl (fun tmps (t,a)=>tmps.setIfInBounds t a) a.tmps,defers:=[] } wy:=by
       refine ⟨?_,Marks.nil _ _,QN,Dl,Kept.refl wy,fun id b l h1 J h3=>.inl (acq id b l h1 J h3),vF.le_refl⟩
       have:=ht1 vF a.tmps as (hi.tm.mono (Nu.le_trans sR Il)) nD;rw [← Array.foldl_toList]
       simpa using this
      refine iha (r:=some (w.heap.size+1)) QO QP (fun h=>by cases h) ik hG ?_ (fun _ _ _ _ _ _ _ h=>h.elim) (fun _ _ _ _ _ _ h=>h.elim)
      intro ν5 t5 H5 a5 w5 Jf h5;obtain ⟨b5,QQ,h5⟩:=gK h5
      split at h5
      ·rename_i r5;obtain ⟨rfl,h5⟩:=h5;obtain ⟨aeO,h5⟩:=ml h5;obtain ⟨l5,QR,hB5⟩:=Jf.hp.aI _ _ QQ;have PX:=Jf.mono _ _ Je;rw [QR] at PX; cases PX;have acs:=hB5.lr _ rfl;refine ⟨_,run_beginRound acs rfl,?_⟩;have hi6:=Jf.NM { state:=.busy,pending:=none,fn,tmps:=a.tmps,params:=ps,assign,body,defers:=w.heap.size } QQ QR;have fin:∀ (jump:Option Code) Jg t7 H7 a7 w7,bz ⟨wy,O,vF,Hy.length,Dl⟩ Jg t7 H7 a7 w7→CW (fun s p=>⟨s,p,fn,a.tmps,ps,assign,body,w.heap.size⟩) H.length jump K H7 →
         ∃ v w',(Instr.endRound (w.heap.size+1) jump).run P w7=.ok v w'∧G1 K vF O wy (.returned v) w':=by
        intro jump Jg t7 H7 a7 w7 Jh h7;obtain ⟨b7,QS,h7⟩:=gK h7
        split at h7
        ·rename_i r7;obtain ⟨rfl,h7⟩:=h7;obtain ⟨aeP,h7⟩:=ml h7;obtain ⟨l7,QT,hB7⟩:=Jh.hp.aI _ _ QS;have PY:=Jh.mono _ _ Je;rw [QT] at PY; cases PY;have acu:=hB7.lr _ rfl;have he:=run_endRound (P:=P) jump acu;refine ⟨_,_,he,?_⟩;have An:=Jh.NM { state:=if jump.isNone then .ready else .done,pending:=jump,fn,tmps:=a.tmps,params:=ps,assign,body,defers:=w.heap.size } QS QT
         refine ⟨.bool jump.isNone,_,Jg,_,rfl,?_,.bool _,An.mono,An.hp,An.fr,An.kp,An.own⟩;cases jump <;> exact h7
        ·exact h7.elim
       refine ihb (r:=some (w.heap.size+1)) QO QP (fun h=>by cases h) hi6 h5 (fun ν t H a w hi h=>fin none _ _ _ _ _ hi h) (fun i ν t H a w hi h=>fin (some (.exit i)) _ _ _ _ _ hi h) (fun ν t H a w hi h=>fin (some .ret) _ _ _ _ _ hi h)
      ·exact h5.elim
     ·exact hG.elim
    ·rintro e w3 ⟨v,v',ν3,H3,rfl,h3,Ji,Im,DR,adZ,PZ,acv⟩
     obtain ⟨b3,tj,h3⟩:=gK h3
     split at h3
     ·rename_i r3;obtain ⟨ad0,h3⟩:=ml h3;obtain ⟨l3,QU,hB3⟩:=DR.aI _ _ tj;have P0:=Im _ _ x4;rw [QU] at P0; cases P0;have HA:w3.heap[w.heap.size+1]?=some (.loop r3):=hB3.lr r3 rfl;have al:w.heap.size+1 < w3.heap.size:=(Array.getElem?_eq_some_iff.1 HA).1;have DS:bz F ν3 t (H3.set H.length none) { a with defers:=[{ target:=.collected w.heap.size,args:=#[] }]++a.defers } (w3.putObj (w.heap.size+1) (.loop { r3 with state:=.exhausted })):=by
       have HB:∀ x,uH dR (H++[some (.cj { state:=.ready,pending:=none,fn,tmps:=a.tmps,params:=ps,assign,body,defers:=w.heap.size })]) x→(F.O x∨F.W.heap.size≤x)∧W1.heap[x]?≠some (.deferred (some [])):=by
        rintro x ⟨id,c,l,h1,J,h3,rfl⟩
        obtain ⟨l',h4,hB⟩:=kF.aI id c h1;rw [h3] at h4; cases h4;refine ⟨?_,fun hd=>?_⟩
        ·by_cases bo:id < H.length
         ·rw [List.getElem?_append_left bo] at h1;rw [vj,Nu.jb (by omega)] at h3
          exact hi.own id c l h1 J h3
         ·have:id=H.length:=by
           have:=(List.getElem?_eq_some_iff.1 h1).1;simp at this; omega
          subst this;rw [x4] at h3; cases h3;exact .inr (by have:=hi.kp.size; show _≤w.heap.size+1; omega)
        ·cases hr:c.rc with
         | none=>obtain ⟨cur,tt,h5,_⟩:=hB.own J hr; rw [h5] at hd; cases hd
         | some r=>rw [hB.lr r hr] at hd; cases hd
       have Pe:∀ D:Nat,W1.heap[D]?=some (Obj.deferred (some []))→(w3.putObj (w.heap.size+1) (.loop { r3 with state:=.exhausted })).heap[D]?=some (Obj.deferred (some [])):=fun D hD=>by
        have Jj:=(PZ.aI D (Array.getElem?_eq_some_iff.1 hD).1 (fun h=>(HB D h).2 hD)).trans hD
        exact (World.putObj_heap_other (fun e=>by rw [e,HA] at Jj; cases Jj)).trans Jj
       have db:∀ (id:Nat) (b:ai),(H3.set H.length none)[id]?=some (some b)→id≠H.length∧H3[id]?=some (some b):=fun id b hb=>by
        by_cases e:id=H.length
        ·subst e; rw [List.getElem?_set_self ad0] at hb; cases hb
        ·rw [List.getElem?_set_ne (Ne.symm e)] at hb; exact ⟨e,hb⟩
       refine ⟨hi.tm.mono (Nu.le_trans sR Im),?_,⟨fun id b hb=>?_,fun i j bi bj li lj h1 J=>?_⟩,fun id bo=>adZ id (by simpa using bo),?_,fun id b l hb ho hl=>?_,Nu.le_trans hi.mono (Nu.le_trans sR Im)⟩
       ·refine ⟨List.nodup_cons.2 ⟨fun hm=>?_,hi.df.1⟩,fun d hd=>?_⟩
        ·obtain ⟨D,e,_,hD⟩:=hi.df.2 _ hm;have:=(Array.getElem?_eq_some_iff.1 hD).1;cases e;omega
        ·rcases List.mem_cons.1 hd with rfl | hd
         ·exact ⟨_,rfl,hi.kp.size,Pe _ acp⟩
         ·obtain ⟨D,e,h0,hD⟩:=hi.df.2 d hd;exact ⟨D,e,h0,Pe D ((Ik.block D (Array.getElem?_eq_some_iff.1 hD).1).trans hD)⟩
       ·obtain ⟨aJ,hb⟩:=db id b hb;obtain ⟨l,hl,hB⟩:=DR.aI id b hb;have H8:=DR.sep _ id _ b _ l tj hb (Ne.symm aJ) rfl QU hl;exact ⟨l,hl,hB.same (World.putObj_heap_other (Ne.symm H8)) (by simp)⟩
       ·exact DR.sep i j bi bj li lj (db i bi h1).2 (db j bj J).2
       ·refine (hi.kp.below Ik).then (PZ.then (O':=fun x=>x=w.heap.size+1) ⟨rfl,rfl,rfl,by simp,fun b h1 J=>World.putObj_heap_other J⟩ (fun b hb=>.inl (by subst hb; exact ⟨H.length,.cj { state:=.ready,pending:=none,fn,tmps:=a.tmps,params:=ps,assign,body,defers:=w.heap.size },_,by simp,rfl,x4,rfl⟩))) (fun b hb=>(HB b hb).1)
       ·rcases acv id b l (db id b hb).2 ho hl with h | h
        ·exact (HB _ h).1
        ·exact .inr (by have:=hi.kp.size; omega)
      by_cases Pf:r3.state=.busy
      ·rw [Pf] at h3; exact h3.elim
      ·have he:=run_endLoop (P:=P) HA Pf;generalize w3.putObj (w.heap.size+1) (.loop { r3 with state:=.exhausted })=w4 at DS he
       refine ⟨r3.pending,w4,he,?_⟩;clear he;have pick:∀ {X:Prop},(match r3.state,r3.pending with
        | .busy,_=>False
        | _,none=>kn t (H3.set H.length none)
        | _,some (.exit i)=>kx i t (H3.set H.length none)
        | _,some .ret=>kr t (H3.set H.length none)
        | _,_=>False)→(∀ s,(match (generalizing:=false) s,r3.pending with
        | LoopState.busy,_=>False
        | _,none=>kn t (H3.set H.length none)
        | _,some (.exit i)=>kx i t (H3.set H.length none)
        | _,some .ret=>kr t (H3.set H.length none)
        | _,_=>False)→X)→X:=fun h k=>k _ h
       refine pick h3 fun s h3=>?_
       cases hp:r3.pending with
       | none =>
        rw [hp] at h3;cases s <;> first | exact h3.elim | exact hn _ _ _ _ _ DS h3
       | some c =>
        rw [hp] at h3;cases c <;> cases s <;> first | exact h3.elim | exact wpIn_exit (hx _ _ _ _ _ _ DS h3) | exact wpIn_ret (hr _ _ _ _ _ DS h3)
     ·exact h3.elim
   ·exact h.elim
  ·exact h.elim
 | _=>exact fun _ _ _=>fun _ h _ _ _=>h.elim
def zz (tmps:Array Value):ResultVar→Sem Value
 | .tmp t=>pure (tmps.getD t undef)
 | .cell x t=>do loadVar t (← asAddr (tmps.getD x undef))
theorem S9 (fn:Func) (tmps:Array Value):results fn tmps=(do let vs ← fn.results.mapM (zz tmps); pure (if h:vs.size=1 then vs[0] else .tuple vs)):=rfl
theorem Ta (a:Addr):asAddr (.pointer (some a))=pure a:=rfl
theorem EB (hE:jX P E) {ν:Nu} {tmps:List Value} {H:ay} {a:Act} {w:World} (hi:bz F ν tmps H a w):∀ {l:List ResultVar} {k:List Value→Prop},wI E H tmps l k →
  ∃ vs gi,k vs∧bg ν vs gi∧(l.mapM (zz a.tmps)).run P w=.ok gi w
 | [],k,h=>⟨[],[],h,.nil ν,rfl⟩
 | .tmp t::l,k,h=>by
  obtain ⟨v,hv,h⟩:=oM h;obtain ⟨v',om,hr⟩:=hi.tm.get hv;obtain ⟨vs,gi,h1,J,h3⟩:=EB hE hi h;have e:a.tmps.getD t undef=v':=by
   have:a.tmps[t]?=some v':=by simpa using om
   simp [this]
  exact ⟨v::vs,v'::gi,h1,.cons hr J,by simp only [List.mapM_cons,zz,Sem.run_bind,Sem.run_pure,Result.andThen_ok,h3,e]⟩
 | .cell x t::l,k,h=>by
  obtain ⟨v,hv,h⟩:=oM h;obtain ⟨v',om,hr⟩:=hi.tm.get hv
  split at h
  ·rename_i id row sp;obtain ⟨ti,ht,h⟩:=cP h;obtain ⟨b,hb,h⟩:=gK h;obtain ⟨a8,h⟩:=LY h;obtain ⟨us,h,hl,s7⟩:=yo h;obtain ⟨lc,dI,hB⟩:=hi.hp.aI id b hb;obtain ⟨lc',P3,he⟩:=hr.oV;rw [dI] at P3; cases P3;obtain ⟨us',h1,J,h3⟩:=Lc hB a8 hl s7;obtain ⟨vs,gi,k1,k2,k3⟩:=EB hE hi h;have e:a.tmps.getD x undef=v':=by
    have:a.tmps[x]?=some v':=by simpa using om
    simp [this]
   refine ⟨_,_::gi,k1,.cons (Fl h1) k2,?_⟩;simp only [List.mapM_cons,zz,Sem.run_bind,Result.andThen_ok,e,he,Ta,Sem.run_pure,Ko (hE.ty _ _ ht) J h3,k3]
  ·exact h.elim
structure n8 (n0:Nat) (w w':World):Prop where
 os:w'.os=w.os
 tape:w'.tape=w.tape
 output:w'.output=w.output
 size:w'.heap.size=w.heap.size
 low:∀ q:Nat,q < n0→w'.heap[q]?=w.heap[q]?
 same:∀ (q:Nat) (o:Obj),(∀ c,o≠.deferred c)→w.heap[q]?=some o→w'.heap[q]?=some o
theorem n8.refl (n0:Nat) (w:World):n8 n0 w w:=⟨rfl,rfl,rfl,rfl,fun _ _=>rfl,fun _ _ _ h=>h⟩
theorem n8.trans {n0:Nat} {w w' QV:World} (h:n8 n0 w w') (k:n8 n0 w' QV):n8 n0 w QV :=
 ⟨k.os.trans h.os,k.tape.trans h.tape,k.output.trans h.output,k.size.trans h.size,fun q hq=>(k.low q hq).trans (h.low q hq),fun q o ho hq=>k.same q o ho (h.same q o ho hq)⟩
theorem VD {n0 D:Nat} {w:World} (hD:w.heap[D]?=some (Obj.deferred (some []))) (h0:n0≤D):n8 n0 w (w.putObj D (.deferred none)) :=
 ⟨rfl,rfl,rfl,by simp,fun q hq=>World.putObj_heap_other (by omega),fun q o ho hq=>(World.putObj_heap_other (fun e=>by subst e; rw [hD] at hq; cases hq; exact ho _ rfl)).trans hq⟩
theorem Kt {fn:Func} {tmps:Array Value} {R:Ending→World→Prop} {n0:Nat}:∀ (ds:List Deferred) (w:World),Marks n0 ds w→(∀ w',n8 n0 w w'→∃ v,(results fn tmps).run P w'=.ok v w'∧R (.returned v) w')→LeavesInM Fence.wide n P fn tmps R ds .returning w
 | [],w,_,h=>h w (n8.refl n0 w)
 | d::ds,w,hm,h=>by
  obtain ⟨D,rfl,h0,hD⟩:=hm.2 d (List.mem_cons_self ..);have fh:=List.nodup_cons.1 hm.1;refine ⟨by simp,.inl ⟨D,w.putObj D (.deferred none),rfl,run_takeDeferred hD,?_⟩⟩
  refine Kt ds _ ⟨fh.2,fun e he=>?_⟩ fun w' Jk=>h w' ((VD hD h0).trans Jk)
  obtain ⟨D',rfl,h1,Ao⟩:=hm.2 e (List.mem_cons_of_mem _ he);exact ⟨D',rfl,h1,(World.putObj_heap_other (fun e2=>fh.1 (by rw [← e2]; exact he))).trans Ao⟩
theorem bQ.shut {ν:Nu} {l:Loc} {b:ai} {n0:Nat} {w w':World} (h:bQ ν l b w) (hs:n8 n0 w w'):bQ ν l b w':=by
 refine ⟨h.ae,h.len,fun r hr j v hv=>?_,h.plain,h.one,fun ho hc=>?_,fun r hr=>hs.same _ _ (fun c=>by simp) (h.lr r hr),by rw [hs.size]; exact h.live⟩
 ·obtain ⟨v',h1,J⟩:=h.cell r hr j v hv;refine ⟨v',?_,J⟩;have h3:=h1;unfold World.cell? at h3;cases ho:w.heap[(l.at r j).block]? with
  | none=>simp [ho] at h3
  | some o =>
   have:∀ c,o≠Obj.deferred c:=fun c e=>by subst e; simp [ho] at h3
   rw [World.cell?_of_block (a:=l.at r j) ((hs.same _ _ this ho).trans ho.symm)];exact h1
 ·obtain ⟨cur,t,h1,J⟩:=h.own ho hc;exact ⟨cur,t,hs.same _ _ (fun c=>by simp) h1,J⟩
theorem bS.shut {ν:Nu} {H:ay} {n0:Nat} {w w':World} (h:bS ν H w) (hs:n8 n0 w w'):bS ν H w' :=
 ⟨fun id b hi=>let ⟨l,h1,J⟩:=h.aI id b hi; ⟨l,h1,J.shut hs⟩,h.sep⟩
def cD (E:Env) (D:Env→List Oper→List Value→ay→SK→Prop) (fn:Func) (args:List Value) (H:ay) (K:Value→ay→Prop):Prop :=
 match fn.body with
 | some c=>jz H fun n0=>qO args (List.replicate (fn.ntmps - args.length) undef) fun t0 =>
  vc { E with base:=n0 } D c t0 H (fun t H=>wI { E with base:=n0 } H t fn.results.toList fun vs=>Dj vs fun v=>K v H) (fun _ _ _=>False) (fun t H=>wI { E with base:=n0 } H t fn.results.toList fun vs=>Dj vs fun v=>K v H)
 | none=>False
theorem jX.at {E:Env} (hE:jX P E) (n0:Nat):jX P { E with base:=n0 }:=⟨⟨hE.ty,hE.eq,hE.fn,hE.ft⟩,hE.IX,hE.ys⟩
theorem yG (hE:jX P E) (hD:nz P D) {f:FuncId} {fn:Func} (hf:P.funcs[f]?=some fn) {args as:List Value} {H:ay} {ν:Nu} {w:World} {O:Nat→Prop} {K:Value→ay→Prop} {n:Nat}
  (h:cD E D fn args H K) (ha:bg ν args as) (hH:bS ν H w) (gz:∀ id,H.length≤id→ν id=none)
  (ky:∀ id b l,H[id]?=some (some b)→b.own=true→ν id=some l→O l.aI) (hnu:E.nu.le ν) {R:Ending→World→Prop}
  (hR:∀ aj v v' t H' a w',bz ⟨w,O,ν,H.length,gz⟩ aj t H' a w'→K v H'→ar aj v v'→R (.returned v') w'):CallsIn Fence.wide n P f ⟨as⟩ w R:=by
 unfold cD at h
 split at h
 ·rename_i c hc;have h:=wq (mn h);refine callsIn_of_wp_marks hf hc trivial ?_;have hi:bz ⟨w,O,ν,H.length,gz⟩ ν (args++List.replicate (fn.ntmps - args.length) undef) H { tmps:=(⟨as⟩:Array Value)++Array.replicate (fn.ntmps - (⟨as⟩:Array Value).size) undef,defers:=[] } w:=by
   refine ⟨?_,Marks.nil _ _,hH,gz,Kept.refl w,fun id b l h1 J h3=>.inl (ky id b l h1 J h3),ν.le_refl⟩
   have e:((⟨as⟩:Array Value)++Array.replicate (fn.ntmps - (⟨as⟩:Array Value).size) undef).toList=as++List.replicate (fn.ntmps - args.length) undef:=by
    simp [ha.1]
   rw [e];refine ha.append ⟨rfl,fun i x y hx hy=>?_⟩
   rw [hx] at hy; cases hy;have:=List.mem_of_getElem? hx;simp at this;rw [this.2]; exact .undef ν
  have QW:=hE.at H.length;have fin:∀ aj t H' a w',bz ⟨w,O,ν,H.length,gz⟩ aj t H' a w'→(wI { E with base:=H.length } H' t fn.results.toList fun vs=>Dj vs fun v=>K v H')→LeavesInM Fence.wide n P fn a.tmps R a.defers .returning w':=by
   intro aj t H' a w' gk h';refine Kt a.defers w' gk.df fun w2 hs=>?_
   have aR:bz ⟨w,O,ν,H.length,gz⟩ aj t H' { tmps:=a.tmps,defers:=[] } w2 :=
    ⟨gk.tm,Marks.nil _ _,gk.hp.shut hs,gk.fr,⟨hs.os.trans gk.kp.os,hs.tape.trans gk.kp.tape,hs.output.trans gk.kp.output,by rw [hs.size]; exact gk.kp.size,fun b h1 J=>(hs.low b h1).trans (gk.kp.aI b h1 J)⟩,gk.own,gk.mono⟩
   obtain ⟨vs,gi,h1,J,h3⟩:=EB QW aR h';have ad1:(fn.results.mapM (zz a.tmps)).run P w2=.ok ⟨gi⟩ w2:=by
    rw [Array.mapM_eq_mapM_toList];simp only [Sem.run_map,h3,Result.andThen_ok]
   rw [S9];simp only [Sem.run_bind,ad1,Result.andThen_ok,Sem.run_pure];refine ⟨_,rfl,?_⟩;unfold Dj at h1
   split at h1
   ·rename_i v;obtain ⟨y,ys,rfl,k1,k2⟩:=J.js;rw [k2.ja];exact hR _ _ _ _ _ _ _ aR h1 k1
   ·rename_i aJ;have hlen:¬ ((⟨gi⟩:Array Value).size=1):=by
     intro e;have:vs.length=1:=by rw [J.1]; exact e
     obtain ⟨v,rfl⟩:=List.length_eq_one_iff.1 this;exact aJ v rfl
    rw [dif_neg hlen];exact hR _ _ _ _ _ _ _ aR h1 (.tuple _ _ J.1 J.2)
  exact VC hD c (r:=none) (F:=⟨w,O,ν,H.length,gz⟩) QW ⟨Nat.le_refl _,hnu⟩ (fun _=>rfl) hi h (fun ν t H a w' aR h'=>fin ν t H a w' aR h') (fun _ _ _ _ _ _ _ h'=>h'.elim) (fun ν t H a w' aR h'=>fin ν t H a w' aR h')
 ·exact h.elim
theorem Cb {E:Env} {ν:Nu} (h:E.nu=fun _=>none):E.nu.le ν:=by rw [h]; exact fun _ _ h=>nomatch h
theorem bn {S:bF} (hE:EnvOk P E) (hD:nz P D) {f:FuncId} {fn:Func} (hf:P.funcs[f]?=some fn) (oj:∀ args w,(callFunc f args).run P w=.ok (.enter f args) w)
  (ha:∀ i,Bv (S.args i)=true) (hv:∀ i,CA (S.val i)=true) (h:∀ i,S.pre i→cD E D fn (S.args i) [] fun v _=>v=S.val i)
  (hI:iC P E:=by exact iC.none rfl) (hy:E.ys=[]:=by rfl) (hu:E.nu=(fun _=>none):=by rfl):bk P f S:=by
 refine ⟨oj,fun i hp ν as w n has=>?_⟩
 have e:=(EA (ha i)).2 ν as has;subst e;refine yG (O:=fun _=>False) (ν:=fun _=>none) (hE.x hI hy) hD hf (h i hp) ((EA (ha i)).1 _) ⟨fun id b hb=>by simp at hb,fun i j bi bj li lj hi=>by simp at hi⟩ (fun _ _=>rfl) (fun id b l hb=>by simp at hb) (Cb hu) ?_
 rintro aj v v' t H a w' hi rfl hr
 exact ⟨v',rfl,by rw [(Ba (hv i)).2 _ _ hr]; exact (Ba (hv i)).1 ν,⟨hi.kp.os,hi.kp.tape,hi.kp.output,hi.kp.size,fun k hk=>hi.kp.aI k hk (fun h=>h)⟩⟩
theorem jw (hE:EnvOk P E) (hD:nz P D) {f:FuncId} {fn:Func} (hf:P.funcs[f]?=some fn) (oj:∀ args w,(callFunc f args).run P w=.ok (.enter f args) w)
  (hI:iC P E:=by exact iC.none rfl) (hy:E.ys=[]:=by rfl) (hu:E.nu=(fun _=>none):=by rfl):gu P f (cD E D fn):=by
 refine ⟨oj,fun args H K h ν as w n O ha hH gz ky=>yG (hE.x hI hy) hD hf h ha hH gz ky (Cb hu) ?_⟩
 intro aj v v' t H' a w' hi hk hv;exact ⟨v,v',aj,H',rfl,hk,hv,hi.mono,hi.hp,hi.fr,hi.kp,hi.own⟩
theorem Pg (hE:EnvOk P E) (hD:nz P D) {f:FuncId} {fn:Func} (hf:P.funcs[f]?=some fn) (oj:∀ args w,(callFunc f args).run P w=.ok (.enter f args) w)
  (hI:iC P E:=by exact iC.none rfl):zN P f (fun l G nu=>cD { E with ys:=[(l,G)],nu:=nu } D fn):=by
 refine ⟨oj,fun l G bt hY args H K h ν as w n O hle ha hH gz ky=>?_⟩
 refine yG (E:={ E with ys:=[(l,G)],nu:=bt }) ⟨⟨hE.ty,hE.eq,hE.fn,hE.ft⟩,hI,fun l' G' r e=>by cases e; exact hY⟩ hD hf h ha hH gz ky hle ?_
 intro aj v v' t H' a w' hi hk hv;exact ⟨v,v',aj,H',rfl,hk,hv,hi.mono,hi.hp,hi.fr,hi.kp,hi.own⟩
end
open Go Go.RowKit
def Fw:Value→Bool
 | .bool _ | .int _ _ | .string _ | .pointer none | .nilFunc=>true
 | .slice none 0 0=>true
 | _=>false
theorem RU {v:Value} (h:Fw v=true):(∀ ν,ar ν v v)∧v.oneCell'=true:=by
 unfold Fw at h
 split at h
 ·exact ⟨fun ν=>.bool _,rfl⟩
 ·exact ⟨fun ν=>.int _ _,rfl⟩
 ·exact ⟨fun ν=>.str _,rfl⟩
 ·exact ⟨fun ν=>.mE,rfl⟩
 ·exact ⟨fun ν=>.mF,rfl⟩
 ·exact ⟨fun ν=>.iP,rfl⟩
 ·cases h
def Bn:List Value→Bool
 | []=>true
 | v::l=>Fw v && Bn l
theorem Kf:∀ {l:List Value},Bn l=true→(∀ ν,bg ν l l)∧∀ v∈l,v.oneCell'=true
 | [],_=>⟨fun ν=>.nil ν,fun v hv=>by simp at hv⟩
 | v::l,h=>by
  simp only [Bn,Bool.and_eq_true] at h;obtain ⟨h1,J⟩:=RU h.1;obtain ⟨h3,h4⟩:=Kf h.2;exact ⟨fun ν=>.cons (h1 ν) (h3 ν),fun u hu=>by
   rcases List.mem_cons.1 hu with e | e
   ·rw [e]; exact J
   ·exact h4 u e⟩
def wS (P:Program):List Field→List (Nat × Nat × Bool)→Bool
 | [],[]=>true
 | f::l,x::m=>Nat.beq f.offset x.1 && Nat.ble 1 x.2.1 && (match P.info? f.type with | some i=>Nat.beq i.size x.2.1 | none=>false) &&
  (match P.underlying f.type with | some d=>(uF d == x.2.2) | none=>false) && wS P l m
 | _,_=>false
theorem Ku {P:Program}:∀ {l:List Field} {m:List (Nat × Nat × Bool)},wS P l m=true→l.length=m.length∧∀ (i:Nat) f x,l[i]?=some f→m[i]?=some x→yS P f x
 | [],[],_=>⟨rfl,fun i f x h=>by simp at h⟩
 | f::l,x::m,h=>by
  simp only [wS,Bool.and_eq_true] at h;obtain ⟨⟨⟨⟨h1,J⟩,h3⟩,h4⟩,h5⟩:=h;obtain ⟨k1,k2⟩:=Ku h5;refine ⟨by simp [k1],fun i g y hg hy=>?_⟩
  cases i with
  | zero =>
   simp at hg hy;subst hg; subst hy;refine ⟨Nat.eq_of_beq_eq_true h1,Nat.le_of_ble_eq_true J,?_,?_⟩
   ·split at h3
    ·exact ⟨_,by assumption,Nat.eq_of_beq_eq_true h3⟩
    ·cases h3
   ·split at h4
    ·exact ⟨_,by assumption,by simpa using h4⟩
    ·cases h4
  | succ i=>exact k2 i g y (by simpa using hg) (by simpa using hy)
 | [],_::_,h=>by simp [wS] at h
 | _::_,[],h=>by simp [wS] at h
def HC (P:Program) (t:TypeId) (k:TK):Bool :=
 match k,P.underlying t with
 | .int q,some (.int q')=>decide (q=q')
 | .bool,some .bool=>true
 | .str,some .string=>true
 | .struct fs,some (.struct fields)=>wS P fields.toList fs
 | .slice e,some (.slice e')=>Nat.beq e e'
 | .array n e,some (.array n' e')=>Nat.beq n n' && Nat.beq e e'
 | .other,some d=>!uF d
 | _,_=>false
theorem Tb {P:Program} {t:TypeId} {k:TK} (h:HC P t k=true):∃ d,P.underlying t=some d∧DE P k d:=by
 unfold HC at h
 split at h
 ·exact ⟨_,by assumption,by rw [of_decide_eq_true h]; rfl⟩
 ·exact ⟨_,by assumption,rfl⟩
 ·exact ⟨_,by assumption,rfl⟩
 ·obtain ⟨h1,J⟩:=Ku h;exact ⟨_,by assumption,_,rfl,by simpa using h1,fun i f x hf hx=>J i f x (by simpa using hf) hx⟩
 ·exact ⟨_,by assumption,by rw [Nat.eq_of_beq_eq_true h]; rfl⟩
 ·simp only [Bool.and_eq_true] at h;exact ⟨_,by assumption,by rw [Nat.eq_of_beq_eq_true h.1,Nat.eq_of_beq_eq_true h.2]; rfl⟩
 ·exact ⟨_,by assumption,by simpa [DE] using h⟩
 ·cases h
def OD (ti:TI):Bool:=Bn ti.zero && Nat.beq ti.zero.length ti.size && Nat.ble 1 ti.size && Nat.ble 1 ti.bytes
theorem aM {P:Program} {t:TypeId} {ti:TI} (h1:(P.info? t).map (fun i=>(i.size,i.bytes,i.zero.map fun z=>z.cells.toList))=some (ti.size,ti.bytes,some ti.zero)) (J:HC P t ti.kind=true) (h3:OD ti=true):aC P t ti:=by
 obtain ⟨i,hi,he⟩:=Option.map_eq_some_iff.1 h1;simp only [Prod.mk.injEq] at he;obtain ⟨e1,e2,e3⟩:=he;obtain ⟨z,hz,ou⟩:=Option.map_eq_some_iff.1 e3;simp only [OD,Bool.and_eq_true] at h3;obtain ⟨⟨⟨k1,k2⟩,k3⟩,k4⟩:=h3;obtain ⟨k5,k6⟩:=Kf k1;exact ⟨⟨i,hi,e1,e2,z,hz,Array.ext' ou⟩,Tb J,k5,Nat.eq_of_beq_eq_true k2,k6,Nat.le_of_ble_eq_true k3,Nat.le_of_ble_eq_true k4⟩
inductive ET where
 | bool | int (k:IntKind) | str
 | struct (fs:List (Nat × ET))      -- each field's size and shape
open Go Go.RowKit
def iN:List Operand→List Tmp
 | []=>[]
 | .tmp t::l=>t::iN l
 | _::l=>iN l
theorem pT {t:Tmp}:∀ {l:List Operand},Operand.tmp t∈l→t∈iN l
 | .tmp u::l,h=>by
  rcases List.mem_cons.1 h with e | e
  ·cases e; simp [iN]
  ·simp [iN,pT e]
 | .const v::l,h=>by
  rcases List.mem_cons.1 h with e | e
  ·cases e
  ·simpa [iN] using pT e
 | .global v::l,h=>by
  rcases List.mem_cons.1 h with e | e
  ·cases e
  ·simpa [iN] using pT e
 | .func v::l,h=>by
  rcases List.mem_cons.1 h with e | e
  ·cases e
  ·simpa [iN] using pT e
def jq (ops:List Oper) (o:Oper):List Tmp :=
 iN o.op.operands.toList++(match o.guard with | some (j,_)=>(match (ops[j]?).bind (·.dst) with | some d=>[d] | none=>[]) | none=>[])
def Cc (ops:List Oper) (aU:List (List Nat)):Bool :=
 (List.range ops.length).all fun j=>match ops[j]? with
  | some o=>(aU.getD j []).all fun i=>i < j && o.after.toList.any fun e=>Region.binds .any e && (e.on == i || ((aU.getD e.on []).contains i && decide (e.on < j)))
  | none=>true
def CB (ops:List Oper) (m:Nat) (aU:List (List Nat)):Bool :=
 decide (m≤ops.length) && Cc ops aU &&
 (List.range ops.length).all (fun j=>match ops[j]? with
  | some o=>o.after.toList.all fun e=>!Region.binds .any e || decide (e.on < j)
  | none=>true) &&
 (List.range m).all (fun j=>match ops[j]? with
  | some o=>(List.range m).all fun i=>i == j || match ops[i]? with
   | some p=>match p.dst with
    | some d=>(o.dst != some d) && (!(jq ops o).contains d || (aU.getD j []).contains i || (aU.getD i []).contains j)
    | none=>true
   | none=>true
  | none=>true) &&
 (List.range ops.length).all (fun j=>decide (j < m) || (List.range j).all fun i=>(aU.getD j []).contains i)
def lI:List (Option ai)→Nat→List Nat→(List (Option ai)→Prop)→Prop
 | [],_,_,k=>k []
 | b::S,i,mask,k=>match mask with
  | m::ms=>match Nat.beq m i with
   | true=>lI S (i+1) ms fun S'=>k (b::S')
   | false=>lI S (i+1) (m::ms) fun S'=>k (none::S')
  | []=>lI S (i+1) [] fun S'=>k (none::S')
def nE:ay→List (Option ai)→(ay→Prop)→Prop
 | [],S,k=>k S
 | b::H,S,k=>nE H S fun G=>k (b::G)
theorem ue:∀ {H:ay} {S:List (Option ai)} {k:ay→Prop},nE H S k→k (H++S)
 | [],_,_,h=>h
 | _::H,S,k,h=>ue (H:=H) h
def jx:List (Option ai)→Option ai→(List (Option ai)→Prop)→Prop
 | [],b,k=>k [b]
 | c::S,b,k=>jx S b fun S'=>k (c::S')
theorem tV:∀ {S:List (Option ai)} {b:Option ai} {k:List (Option ai)→Prop},jx S b k→k (S++[b])
 | [],_,_,h=>h
 | _::S,b,k,h=>tV (S:=S) h
def lJ (E:Env) (ops:List Oper) (H:ay) (n0:Nat):List Oper→List (List Nat)→Nat→List Value→List (Option ai)→(List Value→List (Option ai)→Prop)→Prop
 | [],_,_,t,S,k=>k t S
 | o::l,mask::aU,j,t,S,k =>
  match o.guard with
  | none=>lI S 0 mask fun Sm=>nE H Sm fun G=>ld E o.op t G (n0+j) fun v nb=>dr t o.dst v fun t'=>jx S nb fun S'=>lJ E ops H n0 l aU (j+1) t' S' k
  | some (g,want)=>match (ops[g]?).bind (·.dst) with
   | some d=>qN t d fun v=>match v with
    | .bool b=>br (b == want)
      (lI S 0 mask fun Sm=>nE H Sm fun G=>ld E o.op t G (n0+j) fun v nb=>dr t o.dst v fun t'=>jx S nb fun S'=>lJ E ops H n0 l aU (j+1) t' S' k)
      (dr t o.dst undef fun t'=>jx S none fun S'=>lJ E ops H n0 l aU (j+1) t' S' k)
    | .tuple _=>dr t o.dst undef fun t'=>jx S none fun S'=>lJ E ops H n0 l aU (j+1) t' S' k
    | _=>False
   | none=>False
 | _::_,[],_,_,_,_=>False
def uV:List Oper→Nat→(List Oper→List Oper→Prop)→Prop
 | l,0,k=>k [] l
 | [],_+1,_=>False
 | o::l,m+1,k=>uV l m fun a b=>k (o::a) b
theorem yu:∀ {l:List Oper} {m:Nat} {k:List Oper→List Oper→Prop},uV l m k→m≤l.length∧k (l.take m) (l.drop m)
 | l,0,_,h=>⟨by simp,by simpa [uV] using h⟩
 | [],_+1,_,h=>h.elim
 | o::l,m+1,k,h=>by
  obtain ⟨h1,J⟩:=yu (l:=l) h;exact ⟨by simp; omega,by simpa using J⟩
def Ph (E:Env) (ops:List Oper) (t:List Value) (H:ay) (k:SK):Prop :=
 ∃ (m:Nat) (aU:List (List Nat)),CB ops m aU=true∧jz H fun n0=>uV ops m fun hd tl=>lJ E ops H n0 hd aU 0 t [] fun t' S=>nE H S fun G=>nq E ops tl t' G k
structure c6 where
 v:Value
 nb:Option ai
 run:Bool
def bT (ops:List Oper) (i:Nat):Option Tmp:=(ops[i]?).bind (·.dst)
def bd (ops:List Oper) (rs:List c6) (D:Nat→Bool) (t0:List Value):Nat→List Value
 | 0=>t0
 | i+1=>match D i,bT ops i,rs[i]? with
  | true,some d,some r=>(bd ops rs D t0 i).set d r.v
  | _,_,_=>bd ops rs D t0 i
def kQ (rs:List c6) (D:Nat→Bool) (m:Nat):List (Option ai):=(List.range m).map fun i=>if D i then (rs[i]?).bind (·.nb) else none
section
variable {ops:List Oper} {rs:List c6} {t0:List Value}
theorem rM (D:Nat→Bool):∀ m,(bd ops rs D t0 m).length=t0.length
 | 0=>rfl
 | m+1=>by
  unfold bd
  split
  ·rw [List.length_set]; exact rM D m
  ·exact rM D m
def xw (ops:List Oper) (m:Nat):Prop:=∀ i j d,i < m→j < m→bT ops i=some d→bT ops j=some d→i=j
theorem wx (D:Nat→Bool) {d:Tmp}:∀ m,(∀ i,i < m→D i=true→bT ops i=some d→rs[i]?=none)→(bd ops rs D t0 m)[d]?=t0[d]?
 | 0,_=>rfl
 | m+1,h=>by
  unfold bd
  split
  ·rename_i d' r hD hd hr;have aJ:d'≠d:=fun e=>by subst e; rw [h m (by omega) hD hd] at hr; cases hr
   rw [List.getElem?_set_ne aJ];exact wx D m (fun i hi=>h i (by omega))
  ·exact wx D m (fun i hi=>h i (by omega))
theorem uf (D:Nat→Bool) {d:Tmp} {i:Nat} {r:c6} (hd:bT ops i=some d) (hr:rs[i]?=some r) (hD:D i=true) (al:d < t0.length) :
  ∀ m,i < m→xw ops m→(bd ops rs D t0 m)[d]?=some r.v
 | 0,h,_=>by omega
 | m+1,h,ha=>by
  by_cases e:i=m
  ·subst e;unfold bd;rw [hD,hd,hr]
   dsimp only
   rw [List.getElem?_set_self];rw [rM]; exact al
  ·have ih:=uf D hd hr hD al m (by omega) (fun a b c h1 J=>ha a b c (by omega) (by omega))
   unfold bd
   split
   ·rename_i d' r' Ao cU iS;have aJ:d'≠d:=fun e'=>by subst e'; exact e (ha i m d' (by omega) (by omega) hd cU)
    rw [List.getElem?_set_ne aJ]; exact ih
   ·exact ih
theorem yw {D D':Nat→Bool} {d:Tmp} {m:Nat} (ha:xw ops m) (al:∀ i d,i < m→bT ops i=some d→d < t0.length) (h:∀ i,i < m→bT ops i=some d→D i=D' i) :
  (bd ops rs D t0 m)[d]?=(bd ops rs D' t0 m)[d]?:=by
 by_cases hex:∃ i r,i < m∧bT ops i=some d∧D i=true∧rs[i]?=some r
 ·obtain ⟨i,r,hi,hd,hD,hr⟩:=hex;rw [uf D hd hr hD (al i d hi hd) m hi ha,uf D' hd hr (by rw [← h i hi hd]; exact hD) (al i d hi hd) m hi ha]
 ·rw [wx D m,wx D' m]
  ·intro i hi hD hd;cases hr:rs[i]? with
   | none=>rfl
   | some r=>exact absurd ⟨i,r,hi,hd,by rw [h i hi hd]; exact hD,hr⟩ hex
  ·intro i hi hD hd;cases hr:rs[i]? with
   | none=>rfl
   | some r=>exact absurd ⟨i,r,hi,hd,hD,hr⟩ hex
theorem Lo {D D':Nat→Bool} {m j:Nat} (ha:xw ops m) (al:∀ i d,i < m→bT ops i=some d→d < t0.length) (hj:j < m) (hDj:D j=false) (Ao:∀ i,D' i=(D i || i == j)) {r:c6} (hr:rs[j]?=some r) :
  bd ops rs D' t0 m=match bT ops j with | some d=>(bd ops rs D t0 m).set d r.v | none=>bd ops rs D t0 m:=by
 apply List.ext_getElem?;intro x;have QX:∀ i,i≠j→D' i=D i:=fun i hi=>by rw [Ao i]; simp [hi]
 cases hd:bT ops j with
 | none =>
  dsimp only
  refine yw ha al (fun i hi gl=>QX i (fun e=>?_))
  subst e; rw [hd] at gl; cases gl
 | some d =>
  dsimp only
  by_cases e:d=x
  ·subst e;have hl:=al j d hj hd;rw [List.getElem?_set_self (by rw [rM]; exact hl)]
   exact uf D' hd hr (by rw [Ao j]; simp) hl m hj ha
  ·rw [List.getElem?_set_ne e];refine yw ha al (fun i hi gl=>QX i (fun e'=>?_))
   subst e'; rw [hd] at gl; cases gl; exact e rfl
theorem rQ {D:Nat→Bool} {m i:Nat} {b:ai}:(kQ rs D m)[i]?=some (some b)↔i < m∧D i=true∧(rs[i]?).bind (·.nb)=some b:=by
 unfold kQ;rw [List.getElem?_map];by_cases h:i < m
 ·simp only [List.getElem?_range h,Option.map_some,Option.some.injEq];cases D i <;> simp [h]
 ·rw [List.getElem?_eq_none (by simp; omega)]
  simp [h]
theorem Kv (D:Nat→Bool) (m:Nat):(kQ rs D m).length=m:=by simp [kQ]
end
def mr:Op→Bool
 | .move _=>true
 | .extract _ _=>true
 | .binOp _ _ _ _ _=>true
 | .slice _ _ _ _ _=>true
 | _=>false
def mu:Op→Bool
 | .load _ _=>true
 | .indexAddr _ _ _=>true
 | .call c=>match c.callee with
  | .builtin .len=>true
  | _=>false
 | _=>false
structure oX (P:Program) (ops:List Oper) (t0:List Value) (H:ay) (aU:List (List Nat)) (rs:List c6) (j:Nat):Prop where
 ok:∃ o r,ops[j]?=some o∧rs[j]?=some r∧(∀ d,o.dst=some d→d < t0.length) ∧
  ((∃ G:ay,(∀ id b,G[id]?=some (some b)→(id < H.length∧H[id]?=some (some b))∨(∃ i,id=H.length+i∧i < j∧i∈aU.getD j []∧(rs[i]?).bind (·.nb)=some b)) ∧
    (∀ (ν:Nu) (a:Act) (w:World) (q:Option Nat) (n:Nat),(∀ x∈o.op.operands,fk ν (bd ops rs (fun i=>decide (i < j)) t0 j) a x)→bS ν G w→ν (H.length+j)=none →
     ∀ next Q,(∀ v' w' aj,nc ν aj (H.length+j) w w' r.v v' r.nb→next (a.put o.dst v') w')→o.wpIn (WF q) n P a w next Q) ∧
    (o.guard=none∨∃ g want d b,o.guard=some (g,want)∧bT ops g=some d∧(bd ops rs (fun i=>decide (i < j)) t0 j)[d]?=some (.bool b)∧(b == want)=true)) ∨
    (r.v=undef∧r.nb=none∧∃ g want d v,o.guard=some (g,want)∧bT ops g=some d∧(bd ops rs (fun i=>decide (i < j)) t0 j)[d]?=some v∧((∃ b,v=.bool b∧(b == want)=false)∨∃ vs,v=.tuple vs)))
 mv:∀ o,ops[j]?=some o→(mr o.op || mu o.op)=true→o.guard=none→∃ r,rs[j]?=some r∧r.nb=none∧∃ G:ay,(∀ id b,G[id]?=some (some b)→(id < H.length∧H[id]?=some (some b))∨(∃ i,id=H.length+i∧i < j∧i∈aU.getD j []∧(rs[i]?).bind (·.nb)=some b)) ∧
  (mr o.op=true→∀ (bt:Nu) (w0:World),bS bt G w0→qD P bt o.op (bd ops rs (fun i=>decide (i < j)) t0 j) r.v)∧(mu o.op=true→∀ bt,nW P bt G o.op (bd ops rs (fun i=>decide (i < j)) t0 j) r.v)
theorem Tc {P:Program} {E:Env} (hE:EnvOk P E) {op:Op} {tmps:List Value} {H:ay} {aK:Nat} {k:QK} (h:ld E op tmps H aK k) :
  ∃ v nb,k v nb∧(∀ (o:Oper) (ν:Nu) (a:Act) (w:World) (r:Option Nat) (n:Nat),o.op=op→(∀ x∈op.operands,fk ν tmps a x)→bS ν H w→ν aK=none →
   ∀ next Q,(∀ v' w' aj,nc ν aj aK w w' v v' nb→next (a.put o.dst v') w')→o.wpIn (WF r) n P a w next Q) ∧
   (mr op=true→nb=none∧∀ (bt:Nu) (w0:World),bS bt H w0→qD P bt op tmps v)∧(mu op=true→nb=none∧∀ bt,nW P bt H op tmps v):=by
 have mk:mu op=false→∀ v,k v none→(∀ (bt:Nu) (w0:World),bS bt H w0→qD P bt op tmps v)→∃ v nb,k v nb∧(∀ (o:Oper) (ν:Nu) (a:Act) (w:World) (r:Option Nat) (n:Nat),o.op=op→(∀ x∈op.operands,fk ν tmps a x)→bS ν H w→ν aK=none →
   ∀ next Q,(∀ v' w' aj,nc ν aj aK w w' v v' nb→next (a.put o.dst v') w')→o.wpIn (WF r) n P a w next Q) ∧
   (mr op=true→nb=none∧∀ (bt:Nu) (w0:World),bS bt H w0→qD P bt op tmps v)∧(mu op=true→nb=none∧∀ bt,nW P bt H op tmps v):=by
  intro rj v hk hp;refine ⟨v,none,hk,fun o ν a w r n ho ha hH hn next Q hN=>?_,fun _=>⟨rfl,hp⟩,fun h=>by rw [rj] at h; cases h⟩
  obtain ⟨u,k1,k2⟩:=(hp ν w hH).2 o ν a w ν.le_refl ho ha;exact jK (v':=u) (w':=w) (by rw [ho]; exact (hp ν w hH).1) k2 next Q (hN _ _ ν ⟨ν.le_refl,fun _ _=>rfl,k1,Below.refl _ _,fun _=>rfl,(fun b hb=>by cases hb)⟩)
 by_cases hp:mr op=true
 ·cases op with
  | move x =>
   have h':CO tmps x k:=h;obtain ⟨v,hk,hv⟩:=cS h';exact mk rfl v hk fun bt w0 _=>⟨by simp,fun o ν a w hle ho ha=>⟨a.eval x,hv ν a (ha x (by simp [Op.operands])),by simp [execOp,ho]⟩⟩
  | extract x i =>
   have h':FQ tmps x i k:=h;obtain ⟨v0,h',hv⟩:=cS h'
   split at h'
   ·rename_i vs;obtain ⟨u,h1,J⟩:=oM h';refine mk rfl u J fun bt w0 _=>⟨by simp,fun o ν a w hle ho ha=>?_⟩
    obtain ⟨ys,he,hy⟩:=ar.nN (xs:=vs.toList) (hv ν a (ha x (by simp [Op.operands])))
    obtain ⟨u',h3,h4⟩:=hy.get h1;exact ⟨u',h4,by simp [execOp,ho,he,Instr.extract,h3]⟩
   ·exact h'.elim
  | binOp op t x y ty =>
   have h':De E.tt E.eqs tmps op t x y k:=h;obtain ⟨v,hk,hv⟩:=Ld hE.ty hE.eq (ty:=ty) h';exact mk rfl v hk fun bt _ _=>hv bt
  | slice t x lo hi mx =>
   obtain ⟨v,hk,hv⟩:=Kp hE.ty h;exact mk rfl v hk hv
  | _=>cases hp
 ·have hv:sM P op tmps H k→∃ v nb,k v nb∧(∀ (o:Oper) (ν:Nu) (a:Act) (w:World) (r:Option Nat) (n:Nat),o.op=op→(∀ x∈op.operands,fk ν tmps a x)→bS ν H w→ν aK=none →
   ∀ next Q,(∀ v' w' aj,nc ν aj aK w w' v v' nb→next (a.put o.dst v') w')→o.wpIn (WF r) n P a w next Q) ∧
   (mr op=true→nb=none∧∀ (bt:Nu) (w0:World),bS bt H w0→qD P bt op tmps v)∧(mu op=true→nb=none∧∀ bt,nW P bt H op tmps v):=fun ⟨v,hk,hv⟩ =>
   ⟨v,none,hk,fun o ν a w r n ho ha hH hn next Q hN=>by
    obtain ⟨u,k1,k2⟩:=(hv ν).2 o ν a w ν.le_refl ho ha hH;exact jK (v':=u) (w':=w) (by rw [ho]; exact (hv ν).1) k2 next Q (hN _ _ ν ⟨ν.le_refl,fun _ _=>rfl,k1,Below.refl _ _,fun _=>rfl,(fun b hb=>by cases hb)⟩),fun h=>absurd h hp,fun _=>⟨rfl,hv⟩⟩
  by_cases hh:mu op=true
  ·cases op with
   | load t x=>exact hv (NH hE.ty h)
   | indexAddr t x i=>exact hv (Kq hE.ty h)
   | call c =>
    cases hc:c.callee with
    | builtin b =>
     cases b with
     | len =>
      unfold ld at h;simp only [hc] at h
      split at h
      ·rename_i x t hx ht;exact hv (OA hE.ty hc (Array.ext' hx) (Array.ext' ht) h)
      ·exact h.elim
     | _=>simp [mu,hc] at hh
    | _=>simp [mu,hc] at hh
   | _=>cases hh
  ·obtain ⟨v,nb,hk,hq⟩:=Bt (P:=P) hE h;exact ⟨v,nb,hk,hq,fun h=>absurd h hp,fun h=>absurd h hh⟩
theorem wi:∀ {S:List (Option ai)} {i:Nat} {mask:List Nat} {k:List (Option ai)→Prop},lI S i mask k→∃ S',k S'∧S'.length=S.length∧∀ j b,S'[j]?=some (some b)→S[j]?=some (some b)∧(i+j)∈mask
 | [],i,mask,k,h=>⟨[],by simpa [lI] using h,rfl,fun j b hb=>by simp at hb⟩
 | c::S,i,[],k,h=>by
  obtain ⟨S',h1,J,h3⟩:=wi (S:=S) (i:=i+1) (mask:=[]) (by simpa [lI] using h)
  refine ⟨none::S',h1,by simp [J],fun j b hb=>?_⟩
  cases j with
  | zero=>simp at hb
  | succ j=>have:=h3 j b (by simpa using hb); simp at this
 | c::S,i,m::ms,k,h=>by
  unfold lI at h
  dsimp only at h
  split at h
  ·rename_i e;have e:=Nat.eq_of_beq_eq_true e;obtain ⟨S',h1,J,h3⟩:=wi (S:=S) h;refine ⟨c::S',h1,by simp [J],fun j b hb=>?_⟩
   cases j with
   | zero=>simp at hb; subst hb; exact ⟨by simp,by simp [e]⟩
   | succ j =>
    obtain ⟨k1,k2⟩:=h3 j b (by simpa using hb)
    exact ⟨by simpa using k1,by rw [show i+(j+1)=i+1+j by omega]; simp [k2]⟩
  ·obtain ⟨S',h1,J,h3⟩:=wi (S:=S) h;refine ⟨none::S',h1,by simp [J],fun j b hb=>?_⟩
   cases j with
   | zero=>simp at hb
   | succ j =>
    obtain ⟨k1,k2⟩:=h3 j b (by simpa using hb)
    exact ⟨by simpa using k1,by rw [show i+(j+1)=i+1+j by omega]; exact k2⟩
theorem E7 {ops:List Oper} {rs:List c6} {D:Nat→Bool} {t0:List Value} {m:Nat}:bd ops rs D t0 (m+1)=(match D m,bT ops m,rs[m]? with
  | true,some d,some r=>(bd ops rs D t0 m).set d r.v
  | _,_,_=>bd ops rs D t0 m):=rfl
theorem tR {ops:List Oper} {rs cg:List c6} {D:Nat→Bool} {t0:List Value}:∀ {m:Nat},(∀ i,i < m→rs[i]?=cg[i]?)→bd ops rs D t0 m=bd ops cg D t0 m
 | 0,_=>rfl
 | m+1,h=>by
  unfold bd;rw [h m (by omega),tR (m:=m) (fun i hi=>h i (by omega))]
theorem yj {ops:List Oper} {rs:List c6} {D D':Nat→Bool} {t0:List Value}:∀ {m:Nat},(∀ i,i < m→D i=D' i)→bd ops rs D t0 m=bd ops rs D' t0 m
 | 0,_=>rfl
 | m+1,h=>by
  unfold bd;rw [h m (by omega),yj (m:=m) (fun i hi=>h i (by omega))]
theorem wz {ops:List Oper} {rs:List c6} {D:Nat→Bool} {t0:List Value} {j:Nat}:∀ {m:Nat},j≤m→(∀ i,j≤i→i < m→D i=false)→bd ops rs D t0 m=bd ops rs D t0 j
 | 0,h,_=>by rw [Nat.le_zero.1 h]
 | m+1,h,hD=>by
  by_cases e:j=m+1
  ·rw [e]
  ·rw [E7,hD m (by omega) (by omega)]
   exact wz (m:=m) (by omega) (fun i h1 J=>hD i h1 (by omega))
theorem oX.more {P:Program} {ops:List Oper} {t0:List Value} {H:ay} {aU:List (List Nat)} {rs:List c6} {j:Nat} (h:oX P ops t0 H aU rs j) (hj:j < rs.length) (r:c6):oX P ops t0 H aU (rs++[r]) j:=by
 have he:∀ i,i≤j→(rs++[r])[i]?=rs[i]?:=fun i hi=>by rw [List.getElem?_append_left (by omega)]
 have hv:∀ D,bd ops (rs++[r]) D t0 j=bd ops rs D t0 j:=fun D=>tR (fun i hi=>he i (by omega))
 obtain ⟨o,q,h1,J,h3,h4⟩:=h.ok;refine ⟨⟨o,q,h1,by rw [he j (Nat.le_refl _)]; exact J,h3,?_⟩,fun o ho hx hg=>?_⟩
 rotate_left
 ·obtain ⟨r',k1,k2,k3⟩:=h.mv o ho hx hg;obtain ⟨G,g1,g2⟩:=k3;exact ⟨r',by rw [he j (Nat.le_refl _)]; exact k1,k2,G,fun id b hb=>(g1 id b hb).imp (fun x=>x) (fun ⟨i,q1,q2,q3,q4⟩=>⟨i,q1,q2,q3,by rw [he i (by omega)]; exact q4⟩),by rw [hv]; exact g2⟩
 rw [hv];rcases h4 with ⟨G,g1,g2,g3⟩ | h4
 ·exact .inl ⟨G,fun id b hb=>(g1 id b hb).imp (fun x=>x) (fun ⟨i,k1,k2,k3,k4⟩=>⟨i,k1,k2,k3,by rw [he i (by omega)]; exact k4⟩),g2,g3⟩
 ·exact .inr h4
theorem Fx {P:Program} {E:Env} (hE:EnvOk P E) {ops:List Oper} {t0:List Value} {H:ay} {aU:List (List Nat)} {k:List Value→List (Option ai)→Prop} :
  ∀ {l:List Oper} {ms:List (List Nat)} {j:Nat} {rs:List c6},rs.length=j→(∀ (i:Nat) o,l[i]?=some o→ops[j+i]?=some o)→(∀ i,i < l.length→ms.getD i []=aU.getD (j+i) []) →
  (∀ i,i < j→oX P ops t0 H aU rs i)→lJ E ops H H.length l ms j (bd ops rs (fun i=>decide (i < j)) t0 j) (rs.map (·.nb)) k →
  ∃ cg:List c6,cg.length=j+l.length∧(∀ i,i < j+l.length→oX P ops t0 H aU cg i)∧k (bd ops cg (fun i=>decide (i < j+l.length)) t0 (j+l.length)) (cg.map (·.nb))
 | [],ms,j,rs,hl,_,_,bf,h=>⟨rs,hl,bf,h⟩
 | o::l,[],j,rs,hl,_,_,bf,h=>h.elim
 | o::l,mask::ms,j,rs,hl,ho,hm,bf,h=>by
  have ov:ops[j]?=some o:=by have:=ho 0 o rfl; simpa using this
  have CX:mask=aU.getD j []:=by have:=hm 0 (by simp); simpa using this
  -- the next step, whatever this one's result
  have next:∀ (r:c6) t',(t'=match o.dst with | some d=>(bd ops rs (fun i=>decide (i < j)) t0 j).set d r.v | none=>bd ops rs (fun i=>decide (i < j)) t0 j) →
    (oX P ops t0 H aU (rs++[r]) j)→lJ E ops H H.length l ms (j+1) t' (rs.map (·.nb)++[r.nb]) k →
    ∃ cg:List c6,cg.length=j+(o::l).length∧(∀ i,i < j+(o::l).length→oX P ops t0 H aU cg i)∧k (bd ops cg (fun i=>decide (i < j+(o::l).length)) t0 (j+(o::l).length)) (cg.map (·.nb)):=by
   intro r t' jE hj h';have hv:bd ops (rs++[r]) (fun i=>decide (i < j+1)) t0 (j+1)=t':=by
    have hr:(rs++[r])[j]?=some r:=by rw [← hl]; simp
    have hd:bT ops j=o.dst:=by simp [bT,ov]
    have zC:bd ops (rs++[r]) (fun i=>decide (i < j+1)) t0 j=bd ops rs (fun i=>decide (i < j)) t0 j:=by
     rw [tR (cg:=rs) (fun i hi=>by rw [List.getElem?_append_left (by omega)])]
     exact yj (fun i hi=>by simp; omega)
    have Io:decide (j < j+1)=true:=by simp
    rw [jE,E7,hr,hd,zC,Io];cases o.dst <;> rfl
   rw [← hv] at h';have h'':lJ E ops H H.length l ms (j+1) (bd ops (rs++[r]) (fun i=>decide (i < j+1)) t0 (j+1)) ((rs++[r]).map (·.nb)) k:=by simpa using h'
   obtain ⟨cg,k1,k2,k3⟩:=Fx hE (l:=l) (ms:=ms) (j:=j+1) (rs:=rs++[r]) (by simp [hl]) (fun i p hp=>by have:=ho (i+1) p (by simpa using hp); rwa [show j+1+i=j+(i+1) by omega])
    (fun i hi=>by have:=hm (i+1) (by simp; omega); rw [show j+1+i=j+(i+1) by omega]; simpa using this)
    (fun i hi=>by
     by_cases e:i=j
     ·subst e; exact hj
     ·exact (bf i (by omega)).more (by omega) r) h''
   have e:j+1+l.length=j+(o::l).length:=by simp; omega
   rw [e] at k1 k2 k3;exact ⟨cg,k1,k2,k3⟩
  have ow:∀ r:c6,bd ops (rs++[r]) (fun i=>decide (i < j)) t0 j=bd ops rs (fun i=>decide (i < j)) t0 j:=fun r=>tR (fun i hi=>by rw [List.getElem?_append_left (by omega)])
  have tq:∀ r:c6,(rs++[r])[j]?=some r:=fun r=>by rw [← hl]; simp
  have run:(o.guard=none∨∃ g want d b,o.guard=some (g,want)∧bT ops g=some d∧(bd ops rs (fun i=>decide (i < j)) t0 j)[d]?=some (.bool b)∧(b == want)=true) →
    (lI (rs.map (·.nb)) 0 mask fun Sm=>nE H Sm fun G=>ld E o.op (bd ops rs (fun i=>decide (i < j)) t0 j) G (H.length+j) fun v nb=>dr (bd ops rs (fun i=>decide (i < j)) t0 j) o.dst v fun t'=>jx (rs.map (·.nb)) nb fun S'=>lJ E ops H H.length l ms (j+1) t' S' k) →
    ∃ cg:List c6,cg.length=j+(o::l).length∧(∀ i,i < j+(o::l).length→oX P ops t0 H aU cg i)∧k (bd ops cg (fun i=>decide (i < j+(o::l).length)) t0 (j+(o::l).length)) (cg.map (·.nb)):=by
   intro hg h;obtain ⟨Sm,h1,J,h3⟩:=wi h;have h1:=ue h1;obtain ⟨v,nb,hk,hq,ta⟩:=Tc (P:=P) hE h1;have lQ:∃ t',(t'=match o.dst with | some d=>(bd ops rs (fun i=>decide (i < j)) t0 j).set d v | none=>bd ops rs (fun i=>decide (i < j)) t0 j)∧(∀ d,o.dst=some d→d < t0.length)∧(jx (rs.map (·.nb)) nb fun S'=>lJ E ops H H.length l ms (j+1) t' S' k):=by
    cases hd:o.dst with
    | none=>rw [hd] at hk; exact ⟨_,rfl,(fun d hd=>by cases hd),hk⟩
    | some d =>
     rw [hd] at hk;obtain ⟨k1,k2⟩:=oN hk;rw [rM] at k1;exact ⟨_,rfl,(fun d' cU=>by cases cU; exact k1),k2⟩
   obtain ⟨t',e1,e2,e3⟩:=lQ;refine next ⟨v,nb,true⟩ t' e1 ⟨⟨o,⟨v,nb,true⟩,ov,tq _,e2,.inl ⟨H++Sm,fun id b hb=>?_,?_,?_⟩⟩,fun p hp hx QY=>?_⟩ (tV e3)
   rotate_right
   ·rw [ov] at hp; cases hp;have k1:nb=none:=by
     rcases Bool.or_eq_true_iff.1 hx with hx | hx
     ·exact (ta.1 hx).1
     ·exact (ta.2 hx).1
    refine ⟨_,tq _,k1,H++Sm,fun id b hb=>?_,fun hx=>by rw [ow]; exact (ta.1 hx).2,fun hx=>by rw [ow]; exact (ta.2 hx).2⟩
    rw [List.getElem?_append] at hb
    split at hb
    ·exact .inl ⟨by assumption,hb⟩
    ·rename_i eH;obtain ⟨q1,q2⟩:=h3 _ b hb;have al:id - H.length < rs.length:=by
      have:=(List.getElem?_eq_some_iff.1 q1).1
      simpa using this
     refine .inr ⟨id - H.length,by omega,by omega,by rw [← CX]; simpa using q2,?_⟩
     rw [List.getElem?_append_left al];rw [List.getElem?_map] at q1;cases hr:rs[id - H.length]? with
     | none=>rw [hr] at q1; cases q1
     | some r=>rw [hr] at q1; simpa using q1
   ·rw [List.getElem?_append] at hb
    split at hb
    ·exact .inl ⟨by assumption,hb⟩
    ·rename_i eH;obtain ⟨q1,q2⟩:=h3 _ b hb;have al:id - H.length < rs.length:=by
      have:=(List.getElem?_eq_some_iff.1 q1).1
      simpa using this
     refine .inr ⟨id - H.length,by omega,by omega,by rw [← CX]; simpa using q2,?_⟩
     rw [List.getElem?_append_left al];rw [List.getElem?_map] at q1;cases hr:rs[id - H.length]? with
     | none=>rw [hr] at q1; cases q1
     | some r=>rw [hr] at q1; simpa using q1
   ·rw [ow];exact fun ν a w q n ha hH hn next Q hN=>hq o ν a w q n rfl ha hH hn next Q hN
   ·rw [ow]; exact hg
  have skip:(∃ g want d v,o.guard=some (g,want)∧bT ops g=some d∧(bd ops rs (fun i=>decide (i < j)) t0 j)[d]?=some v∧((∃ b,v=.bool b∧(b == want)=false)∨∃ vs,v=.tuple vs)) →
    (dr (bd ops rs (fun i=>decide (i < j)) t0 j) o.dst undef fun t'=>jx (rs.map (·.nb)) none fun S'=>lJ E ops H H.length l ms (j+1) t' S' k) →
    ∃ cg:List c6,cg.length=j+(o::l).length∧(∀ i,i < j+(o::l).length→oX P ops t0 H aU cg i)∧k (bd ops cg (fun i=>decide (i < j+(o::l).length)) t0 (j+(o::l).length)) (cg.map (·.nb)):=by
   intro hg hk;have lQ:∃ t',(t'=match o.dst with | some d=>(bd ops rs (fun i=>decide (i < j)) t0 j).set d undef | none=>bd ops rs (fun i=>decide (i < j)) t0 j)∧(∀ d,o.dst=some d→d < t0.length)∧(jx (rs.map (·.nb)) none fun S'=>lJ E ops H H.length l ms (j+1) t' S' k):=by
    cases hd:o.dst with
    | none=>rw [hd] at hk; exact ⟨_,rfl,(fun d hd=>by cases hd),hk⟩
    | some d =>
     rw [hd] at hk;obtain ⟨k1,k2⟩:=oN hk;rw [rM] at k1;exact ⟨_,rfl,(fun d' cU=>by cases cU; exact k1),k2⟩
   obtain ⟨t',e1,e2,e3⟩:=lQ;refine next ⟨undef,none,false⟩ t' e1 ⟨⟨o,⟨undef,none,false⟩,ov,tq _,e2,.inr ⟨rfl,rfl,by rw [ow]; exact hg⟩⟩,fun p hp hx QY=>?_⟩ (tV e3)
   rw [ov] at hp; cases hp;obtain ⟨g,want,d,v,k1,_⟩:=hg;rw [QY] at k1; cases k1
  unfold lJ at h
  split at h
  ·exact run (.inl (by assumption)) h
  ·rename_i g want hg
   split at h
   ·rename_i d hd;obtain ⟨v,hv,h⟩:=oM h
    split at h
    ·rename_i b;cases hb:(b == want) with
     | true=>exact run (.inr ⟨g,want,d,b,hg,hd,hv,hb⟩) (B7 h hb)
     | false=>exact skip ⟨g,want,d,_,hg,hd,hv,.inl ⟨b,rfl,hb⟩⟩ (BJ h hb)
    ·exact skip ⟨g,want,d,_,hg,hd,hv,.inr ⟨_,rfl⟩⟩ h
    ·exact h.elim
   ·exact h.elim
open Go Go.RowKit
structure Order (ops:List Oper) (aU:List (List Nat)):Prop where
 mask:∀ j o,ops[j]?=some o→∀ i∈aU.getD j [],i < j∧∃ e∈o.after,Region.binds .any e=true∧(e.on=i∨(i∈aU.getD e.on []∧e.on < j))
 back:∀ j o,ops[j]?=some o→∀ e∈o.after,Region.binds .any e=true→e.on < j
structure Z4 (ops:List Oper) (m:Nat) (aU:List (List Nat)):Prop extends Order ops aU where
 le:m≤ops.length
 apart:∀ j o i p d,j < m→i < m→i≠j→ops[j]?=some o→ops[i]?=some p→p.dst=some d→o.dst≠some d∧(d ∉ jq ops o∨i∈aU.getD j []∨j∈aU.getD i [])
 tail:∀ j,j < ops.length→m≤j→∀ i,i < j→i∈aU.getD j []
theorem KT {ops:List Oper} {m:Nat} {aU:List (List Nat)} (h:CB ops m aU=true):Z4 ops m aU:=by
 unfold CB at h;simp only [Bool.and_eq_true,decide_eq_true_eq] at h;obtain ⟨⟨⟨⟨h1,J⟩,h3⟩,h4⟩,h5⟩:=h;have lt:∀ {j:Nat} {o:Oper},ops[j]?=some o→j∈List.range ops.length:=fun hj=>List.mem_range.2 (List.getElem?_eq_some_iff.1 hj).1
 refine ⟨⟨fun j o hj i hi=>?_,fun j o hj e he hb=>?_⟩,h1,fun j o i p d hj hi aJ ho hp hd=>?_,fun j hj hm i hi=>?_⟩
 ·unfold Cc at J;have:=List.all_eq_true.1 J j (lt hj);rw [hj] at this;have:=List.all_eq_true.1 this i hi;simp only [Bool.and_eq_true,decide_eq_true_eq,List.any_eq_true,Bool.or_eq_true,beq_iff_eq,List.contains_iff_mem] at this;obtain ⟨k1,e,k2,k3,k4⟩:=this;exact ⟨k1,e,by simpa using k2,k3,k4⟩
 ·have:=List.all_eq_true.1 h3 j (lt hj);rw [hj] at this;have:=List.all_eq_true.1 this e (by simpa using he)
  simp only [hb,Bool.not_true,Bool.false_or,decide_eq_true_eq] at this;exact this
 ·have:=List.all_eq_true.1 h4 j (List.mem_range.2 hj);rw [ho] at this;have:=List.all_eq_true.1 this i (List.mem_range.2 hi);rw [hp] at this;have hb:(i == j)=false:=by simp [aJ]
  rw [hb,Bool.false_or] at this
  dsimp only at this
  rw [hd] at this;simp only [Bool.and_eq_true,bne_iff_ne,Bool.or_eq_true,Bool.not_eq_true',List.contains_iff_mem,or_assoc] at this;refine ⟨this.1,this.2.imp (fun k=>?_) (fun k=>k)⟩
  intro gV;rw [List.contains_iff_mem.2 gV] at k;cases k
 ·have:=List.all_eq_true.1 h5 j (List.mem_range.2 hj);simp only [Bool.or_eq_true,decide_eq_true_eq,List.all_eq_true,List.mem_range,List.contains_iff_mem] at this;rcases this with h | h
  ·omega
  ·exact h i hi
def DB (aE:Array Bool):Nat→Bool:=fun i=>aE.getD i false
theorem CC {aE:Array Bool} {j:Nat} (hj:j < aE.size) (i:Nat):DB (aE.setIfInBounds j true) i=(DB aE i || i == j):=by
 unfold DB;by_cases e:j=i
 ·subst e; simp [hj]
 ·rw [getD_set_ne false e];have:(i == j)=false:=by simp; exact fun h=>e h.symm
  rw [this,Bool.or_false]
theorem uu {aE:Array Bool} {i:Nat} (hi:i < aE.size) (d:Bool):aE.getD i d=DB aE i:=by
 unfold DB; simp [hi]
def oY (ops:List Oper) (D:Nat→Bool):Prop:=∀ j o,D j=true→ops[j]?=some o→∀ e∈o.after,Region.binds .any e=true→D e.on=true
theorem tS {ops:List Oper} {aU:List (List Nat)} (hc:Order ops aU) {D:Nat→Bool} (hD:oY ops D):∀ (j:Nat) o,ops[j]?=some o→(∀ e∈o.after,Region.binds .any e=true→D e.on=true)→∀ i∈aU.getD j [],D i=true:=by
 intro j
 induction j using Nat.strongRecOn with
 | _ j ih =>
  intro o ho he i hi;obtain ⟨_,e,h1,J,h3⟩:=hc.mask j o ho i hi;rcases h3 with rfl | ⟨h3,h4⟩
  ·exact he e h1 J
  ·have kE:=he e h1 J;cases ox:ops[e.on]? with
   | none=>rw [List.getElem?_eq_none_iff] at ox; have:=(List.getElem?_eq_some_iff.1 ho).1; omega
   | some p=>exact ih e.on h4 p ox (hD e.on p kE ox) i h3
def gF (D:Nat→Bool) (n:Nat):Nat:=((List.range n).filter fun i=>!D i).length
theorem Bb (D:Nat→Bool) (n:Nat):gF D (n+1)=gF D n+if D n then 0 else 1:=by
 unfold gF;rw [List.range_succ,List.filter_append,List.length_append];cases hd:D n <;> simp [hd]
theorem Bo {D D':Nat→Bool} {j:Nat} (h:∀ i,D' i=(D i || i == j)) (hj:D j=false):∀ n,gF D' n+(if j < n then 1 else 0)=gF D n
 | 0=>by simp [gF]
 | n+1=>by
  have ih:=Bo h hj n;rw [Bb,Bb,h n];by_cases e:n=j
  ·subst e;simp only [Nat.lt_irrefl,if_false,Nat.add_zero] at ih;rw [hj]; simp; omega
  ·have:(n == j)=false:=by simp [e]
   rw [this,Bool.or_false];by_cases al:j < n
   ·have e1:(if j < n+1 then 1 else 0)=1:=if_pos (by omega)
    rw [if_pos al] at ih; rw [e1]; generalize (if D n=true then 0 else 1)=z; omega
   ·have e1:(if j < n+1 then 1 else 0)=0:=if_neg (by omega)
    rw [if_neg al] at ih; rw [e1]; generalize (if D n=true then 0 else 1)=z; omega
theorem E8 {D:Nat→Bool} {n i:Nat} (hi:i < n) (hD:D i=false):0 < gF D n:=by
 unfold gF;exact List.length_pos_of_mem (List.mem_filter.2 ⟨List.mem_range.2 hi,by simp [hD]⟩)
theorem A0 {ops:List Oper} {o:Oper} {g:Nat} {want:Bool} {d:Tmp} (hg:o.guard=some (g,want)) (hd:bT ops g=some d):d∈jq ops o:=by
 have cU:(ops[g]?).bind (fun x=>x.dst)=some d:=hd
 unfold jq;refine List.mem_append_right _ ?_;rw [hg]
 dsimp only
 rw [cU];simp
section
variable {P:Program} {E:Env} {r:Option Nat} {n:Nat} {F:Fr} {ops:Array Oper} {Q:Exit→Act→World→Prop} {m:Nat} {aU:List (List Nat)} {k:SK}
theorem Bc (hc:Order ops.toList aU) {aE:Array Bool} (hs:aE.size=ops.size) {j:Nat} (hj:j < ops.size) (h0:DB aE j=false) (h1:∀ i,i < j→DB aE i=true):j∈Region.ready .any ops aE:=by
 rw [mem_ready];refine ⟨by rw [uu (by omega)]; exact h0,ops[j],Array.getElem?_eq_getElem hj,fun e he hb=>?_⟩
 exact h1 _ (hc.back j ops[j] (by simp [hj]) e he hb)
theorem Fy (hE:jX P E) (bO:lf F E) (hc:Order ops.toList aU) (acw:∀ j,j < ops.toList.length→m≤j→∀ i,i < j→i∈aU.getD j []) (hk:∀ ν t' H' a' w',bz F ν t' H' a' w'→k t' H'→Q .normal a' w') :
  ∀ (fuel:Nat) (aE:Array Bool) (j0:Nat) (ν:Nu) (t:List Value) (H:ay) (a:Act) (w:World),aE.size=ops.size→(∀ i,DB aE i=decide (i < j0))→m≤j0→j0≤ops.size →
  bz F ν t H a w→nq E ops.toList (ops.toList.drop j0) t H k→ops.size≤j0+fuel→wpAnyIn (WF r) n P .any ops Q fuel aE a w:=by
 intro fuel
 induction fuel with
 | zero =>
  intro aE j0 ν t H a w hs hD hm hle hi h hf;have e:j0=ops.size:=by omega
  subst e;rw [List.drop_eq_nil_of_le (by simp)] at h
  refine ⟨?_,hk _ _ _ _ _ hi h⟩;rw [List.eq_nil_iff_forall_not_mem];intro j hj;rw [mem_ready] at hj;obtain ⟨h1,o,ho,_⟩:=hj;have al:j < ops.size:=(Array.getElem?_eq_some_iff.1 ho).1;rw [uu (by omega),hD j] at h1
  simp at h1; omega
 | succ fuel ih =>
  intro aE j0 ν t H a w hs hD hm hle hi h hf;by_cases e:j0=ops.size
  ·subst e;rw [List.drop_eq_nil_of_le (by simp)] at h
   refine ⟨fun _=>hk _ _ _ _ _ hi h,fun j hj=>?_⟩
   rw [mem_ready] at hj;obtain ⟨h1,o,ho,_⟩:=hj;have al:j < ops.size:=(Array.getElem?_eq_some_iff.1 ho).1;rw [uu (by omega),hD j] at h1
   simp at h1; omega
  ·have al:j0 < ops.size:=by omega
   have hr:=Bc hc hs al (by rw [hD]; simp) (fun i hi=>by rw [hD]; simpa using hi)
   refine ⟨fun hn=>?_,fun j hj=>?_⟩
   ·rw [hn] at hr; cases hr
   ·rw [mem_ready] at hj;obtain ⟨h1,o,ho,he⟩:=hj;have nF:j < ops.size:=(Array.getElem?_eq_some_iff.1 ho).1;rw [uu (by omega),hD j] at h1
    have eH:j0≤j:=by simpa using h1
    have gm:ops.toList[j]?=some o:=by simpa using ho
    have kJ:j=j0:=by
     rcases Nat.lt_or_ge j0 j with qR | aeQ
     ·have gV:=acw j (by simpa using nF) (by omega) j0 qR
      have eY:oY ops.toList (DB aE):=fun i p aR hp e' gn bB=>by
       rw [hD] at aR ⊢;have:=hc.back i p hp e' gn bB;simp at aR ⊢; omega
      have:=tS hc eY j o gm (fun e' gn bB=>he e' gn bB) j0 gV
      rw [hD] at this; simp at this
     ·omega
    subst kJ;have HD:ops.toList.drop j=o::ops.toList.drop (j+1):=by
     rw [List.drop_eq_getElem_cons (by simpa using nF)]
     congr 1
     have:=List.getElem?_eq_getElem (l:=ops.toList) (i:=j) (by simpa using nF)
     rw [gm] at this; exact (Option.some.inj this).symm
    rw [HD] at h;unfold wpOpIn;rw [ho];refine E6 hE bO hi (Mc h) (fun ν t' H' a' w' aR h'=>?_)
    refine ih _ (j+1) ν t' H' a' w' (by simp [hs]) (fun i=>?_) (by omega) (by omega) aR h' (by omega)
    rw [CC (by omega),hD i]
    by_cases e':i=j
    ·subst e'; simp
    ·have:(i == j)=false:=by simp [e']
     rw [this,Bool.or_false];simp; omega
theorem EE {D:Nat→Bool} {m:Nat} (hD:∀ i,D i=decide (i < m)):∀ q,m≤q→gF D q=q - m:=by
 intro q
 induction q with
 | zero=>intro h; simp [gF]
 | succ q ihq =>
  intro h;rw [Bb,hD q];by_cases e:m=q+1
  ·subst e;have:∀ q',q'≤q+1→gF D q'=0:=by
    intro q'
    induction q' with
    | zero=>intro _; simp [gF]
    | succ q' ih'=>intro h'; rw [Bb,ih' (by omega),hD q']; simp; omega
   rw [this q (by omega)]; simp
  ·rw [ihq (by omega)]
   have:¬ (q < m):=by omega
   simp [this]; omega
theorem EF {D:Nat→Bool} {i:Nat} (h:D i=false):∃ j,j≤i∧D j=false∧∀ q,q < j→D q=true:=by
 induction i using Nat.strongRecOn with
 | _ i ihi =>
  by_cases cZ:∀ j,j < i→D j=true
  ·exact ⟨i,Nat.le_refl _,h,cZ⟩
  ·have:∃ j,j < i∧D j=false:=by
    refine Classical.byContradiction fun aJ=>cZ fun j hj=>?_
    cases hd:D j with
    | true=>rfl
    | false=>exact absurd ⟨j,hj,hd⟩ aJ
   obtain ⟨j,h3,h4⟩:=this;obtain ⟨q,k1,k2,k3⟩:=ihi j h3 h4;exact ⟨q,by omega,k2,k3⟩
theorem Mf (hc:Order ops.toList aU) (uP:m≤ops.size)
  (y5:∀ j o i p d,j < m→i < m→i≠j→ops.toList[j]?=some o→ops.toList[i]?=some p→p.dst=some d→o.dst≠some d∧(d ∉ jq ops.toList o∨i∈aU.getD j []∨j∈aU.getD i []))
  {fl:List Nat} (CY:∀ j,j < ops.size→m≤j→∀ i,i < m→i ∉ fl→i∈aU.getD j [])
  {t0:List Value} {H:ay} {rs:List c6} (hh:∀ i,i < m→oX P ops.toList t0 H aU rs i)
  (pk:∀ (fuel:Nat) (aE:Array Bool) (ν:Nu) (a:Act) (w:World),aE.size=ops.size→oY ops.toList (DB aE)→(∀ i,DB aE i=true→i < m)→(∀ i,i < m→i ∉ fl→DB aE i=true) →
   bz F ν (bd ops.toList rs (DB aE) t0 m) (H++kQ rs (DB aE) m) a w→gF (DB aE) ops.size≤fuel→wpAnyIn (WF r) n P .any ops Q fuel aE a w) :
  ∀ (fuel:Nat) (aE:Array Bool) (ν:Nu) (a:Act) (w:World),aE.size=ops.size→oY ops.toList (DB aE)→(∀ i,DB aE i=true→i < m) →
  bz F ν (bd ops.toList rs (DB aE) t0 m) (H++kQ rs (DB aE) m) a w→(∀ i,i < m→DB aE i=false→ν (H.length+i)=none)→gF (DB aE) ops.size≤fuel →
  wpAnyIn (WF r) n P .any ops Q fuel aE a w:=by
 have lQ:∀ i d,i < m→bT ops.toList i=some d→d < t0.length:=by
  intro i d hi hd;obtain ⟨o,q,h1,J,h3,_⟩:=(hh i hi).ok;unfold bT at hd;rw [h1] at hd;exact h3 d hd
 have pH:xw ops.toList m:=by
  intro i j d hi hj h1 J;rcases Nat.decEq i j with aJ | he
  ·obtain ⟨o,q,k1,_⟩:=(hh i hi).ok;obtain ⟨p,q',k2,_⟩:=(hh j hj).ok;unfold bT at h1 J;rw [k1] at h1; rw [k2] at J;exact absurd h1 (y5 i o j p d hi hj (Ne.symm aJ) k1 k2 J).1
  ·exact he
 intro fuel
 induction fuel with
 | zero =>
  intro aE ν a w hs eY al hi gz hu;have cZ:∀ i,i < ops.size→DB aE i=true:=fun i aR=>by
   cases hd:DB aE i with
   | true=>rfl
   | false=>have:=E8 aR hd; omega
  exact pk 0 aE ν a w hs eY al (fun i aR _=>cZ i (by omega)) hi hu
 | succ fuel ih =>
  intro aE ν a w hs eY al hi gz hu;by_cases o8:∀ i,i < m→i ∉ fl→DB aE i=true
  ·exact pk (fuel+1) aE ν a w hs eY al o8 hi hu
  ·-- something of the head has not gone: the least such one may go
   have hex:∃ i,i < m∧i ∉ fl∧DB aE i=false:=by
    refine Classical.byContradiction fun aJ=>o8 fun i aR hf=>?_
    cases hd:DB aE i with
    | true=>rfl
    | false=>exact absurd ⟨i,aR,hf,hd⟩ aJ
   obtain ⟨i1,DT,Jl,gp⟩:=hex;obtain ⟨i0,P4,fJ,jm⟩:=EF gp;have gk:i0 < m:=by omega
   have hr:=Bc hc hs (by omega:i0 < ops.size) fJ jm
   refine ⟨(fun hn=>by rw [hn] at hr; cases hr),fun j hj=>?_⟩
   rw [mem_ready] at hj;obtain ⟨h1,o,ho,he⟩:=hj;have nF:j < ops.size:=(Array.getElem?_eq_some_iff.1 ho).1;rw [uu (by omega)] at h1
   have gm:ops.toList[j]?=some o:=by simpa using ho
   have l8:=tS hc eY j o gm (fun e' gn bB=>he e' gn bB)
   have mQ:j < m:=by
    rcases Nat.lt_or_ge j m with h | h
    ·exact h
    ·have:=l8 i1 (CY j nF h i1 DT Jl);rw [gp] at this; cases this
   obtain ⟨o',q,g1,g2,g3,g4⟩:=(hh j mQ).ok;rw [gm] at g1; cases g1;have Jm:bT ops.toList j=o.dst:=by simp [bT,gm]
   -- what it reads stands as the text's order has it
   have HE:∀ d,d∈jq ops.toList o→(bd ops.toList rs (DB aE) t0 m)[d]?=(bd ops.toList rs (fun i=>decide (i < j)) t0 j)[d]?:=by
    intro d hd;rw [← wz (j:=j) (m:=m) (by omega) (fun i h1 J=>by simp; omega)]
    refine yw pH lQ (fun i aR gl=>?_)
    by_cases e:i=j
    ·subst e; rw [h1]; simp
    ·obtain ⟨p,q',k1,_⟩:=(hh i aR).ok;have Jn:p.dst=some d:=by unfold bT at gl; rw [k1] at gl; exact gl
     rcases (y5 j o i p d mQ aR e gm k1 Jn).2 with h | h | h
     ·exact absurd hd h
     ·rw [l8 i h];have:=(hc.mask j o gm i h).1;simp [this]
     ·have hji:=(hc.mask i p k1 j h).1;have:DB aE i=false:=by
       cases cU:DB aE i with
       | false=>rfl
       | true =>
        have:=tS hc eY i p k1 (eY i p cU k1) j h;rw [h1] at this; cases this
      rw [this]; simp; omega
   have db:∀ i,DB (aE.setIfInBounds j true) i=(DB aE i || i == j):=fun i=>CC (by omega) i
   have xN:oY ops.toList (DB (aE.setIfInBounds j true)):=by
    intro i p aR hp e' gn bB;rw [db] at aR ⊢;by_cases e:i=j
    ·subst e;rw [gm] at hp; cases hp;have:DB aE e'.on=true:=he e' gn bB;rw [this]; rfl
    ·have e2:(i == j)=false:=by simp [e]
     rw [e2,Bool.or_false] at aR;rw [eY i p aR hp e' gn bB]; rfl
   have qR:∀ i,DB (aE.setIfInBounds j true) i=true→i < m:=fun i aR=>by
    rw [db] at aR;by_cases e:i=j
    ·subst e; exact mQ
    ·have e2:(i == j)=false:=by simp [e]
     rw [e2,Bool.or_false] at aR;exact al i aR
   have s9:gF (DB (aE.setIfInBounds j true)) ops.size≤fuel:=by
    have:=Bo db h1 ops.size;rw [if_pos nF] at this; omega
   have uU:=Lo (D:=DB aE) (D':=DB (aE.setIfInBounds j true)) pH lQ mQ h1 db g2;rw [Jm] at uU;have fG:∀ (id:Nat) (c:ai),(H++kQ rs (DB (aE.setIfInBounds j true)) m)[id]?=some (some c) ↔
     (H++kQ rs (DB aE) m)[id]?=some (some c)∨(id=H.length+j∧q.nb=some c):=by
    intro id c;by_cases bo:id < H.length
    ·rw [List.getElem?_append_left bo,List.getElem?_append_left bo];constructor
     ·exact .inl
     ·rintro (h | ⟨h,_⟩)
      ·exact h
      ·omega
    ·rw [List.getElem?_append_right (by omega),List.getElem?_append_right (by omega),rQ,rQ]
     constructor
     ·rintro ⟨k1,k2,k3⟩
      rw [db] at k2;by_cases e:id - H.length=j
      ·refine .inr ⟨by omega,?_⟩
       rw [e,g2] at k3; exact k3
      ·have e2:(id - H.length == j)=false:=by simp [e]
       rw [e2,Bool.or_false] at k2;exact .inl ⟨k1,k2,k3⟩
     ·rintro (⟨k1,k2,k3⟩ | ⟨k1,k2⟩)
      ·exact ⟨k1,by rw [db,k2]; rfl,k3⟩
      ·have e:id - H.length=j:=by omega
       rw [e];exact ⟨mQ,by rw [db]; simp,by rw [g2]; exact k2⟩
   have nf:ν (H.length+j)=none:=gz j mQ h1;have HF:(H++kQ rs (DB aE) m).length=H.length+m:=by rw [List.length_append,Kv]
   have G6:(H++kQ rs (DB (aE.setIfInBounds j true)) m).length=H.length+m:=by rw [List.length_append,Kv]
   -- the state behind it
   have after:∀ v' w' aj,nc ν aj (H.length+j) w w' q.v v' q.nb→wpAnyIn (WF r) n P .any ops Q fuel (aE.setIfInBounds j true) (a.put o.dst v') w':=by
    intro v' w' aj hp;have hb:=hp.below;refine ih _ aj _ w' (by simp [hs]) xN qR ⟨?_,?_,?_,fun id bo=>?_,hi.kp.below hb,fun id c lc cF oo dI=>?_,Nu.le_trans hi.mono hp.le⟩ (fun i aR cU=>?_) s9
    ·rw [uU];cases hd:o.dst with
     | none=>exact hi.tm.mono hp.le
     | some d=>rw [rT]; exact (hi.tm.mono hp.le).set hp.val d
    ·cases o.dst <;> exact hi.df.below hb
    ·cases bJ:q.nb with
     | none =>
      have:=hp.z6 bJ;subst this;refine (hi.hp.below hb).sA (fun id c cF=>?_)
      rcases (fG id c).1 cF with h | ⟨_,h⟩
      ·exact h
      ·rw [bJ] at h; cases h
     | some b =>
      obtain ⟨l,hl,hB,hle⟩:=hp.ig b bJ;have kW:aj=ν.add (H.length+j) l:=by
       funext id
       by_cases e:id=H.length+j
       ·subst e; rw [hl,Nu.add_same]
       ·rw [hp.only id e,Nu.jb e]
      subst kW;refine hi.hp.push hb nf _ (fun id c cF=>?_) hle hB
      rcases (fG id c).1 cF with h | ⟨h3,h4⟩
      ·by_cases e:id=H.length+j
       ·obtain ⟨l',cE,_⟩:=hi.hp.aI id c h;rw [e,nf] at cE; cases cE
       ·exact .inr ⟨e,h⟩
      ·rw [bJ] at h4; cases h4;exact .inl ⟨h3,rfl⟩
    ·rw [G6] at bo;rw [hp.only id (by omega)]
     exact hi.fr id (by rw [HF]; exact bo)
    ·rcases (fG id c).1 cF with h | ⟨h3,h4⟩
     ·have aJ:id≠H.length+j:=fun e=>by
       obtain ⟨l',cE,_⟩:=hi.hp.aI id c h;rw [e,nf] at cE; cases cE
      rw [hp.only id aJ] at dI;exact hi.own id c lc h oo dI
     ·obtain ⟨l,hl,_,hle⟩:=hp.ig c h4;rw [h3,hl] at dI; cases dI;exact .inr (Nat.le_trans hi.kp.size hle)
    ·have aJ:i≠j:=fun e=>by subst e; rw [db] at cU; simp at cU
     rw [hp.only _ (by omega)]
     refine gz i aR ?_;rw [db] at cU;simp only [Bool.or_eq_false_iff] at cU;exact cU.1
   unfold wpOpIn;rw [ho]
   dsimp only
   have fI:∀ d,d∈jq ops.toList o→∀ v,(bd ops.toList rs (fun i=>decide (i < j)) t0 j)[d]?=some v→∃ v',a.tmps[d]?=some v'∧ar ν v v':=by
    intro d hd v hv;rw [← HE d hd] at hv;obtain ⟨v',k1,k2⟩:=hi.tm.get hv;exact ⟨v',by simpa using k1,k2⟩
   rcases g4 with ⟨G,q1,q2,q3⟩ | ⟨q1,q2,g,want,d,v,q3,q4,q5,q6⟩
   ·have hw:Region.wanted o (yielded ops a.tmps)=true:=by
     rcases q3 with hg | ⟨g,want,d,b,hg,hd,hv,hb⟩
     ·simp [Region.wanted,hg]
     ·obtain ⟨v',k1,k2⟩:=fI d (A0 hg hd) _ hv;rw [k2.kg] at k1;have hy:=yt (ops:=ops) (tmps:=a.tmps) (j:=g) (d:=d) (by simpa [bT] using hd)
      rw [k1] at hy;simp only [Region.wanted,hg,hy];rw [← hb];cases b <;> cases want <;> rfl
    rw [if_pos hw];refine q2 ν a w r n (fun x hx t ht v hv=>fI t ?_ v hv) (hi.hp.sA fun id b hb=>?_) nf _ Q after
    ·unfold jq;exact List.mem_append_left _ (pT (by rw [ht] at hx; simpa using hx))
    ·rcases q1 id b hb with ⟨h3,h4⟩ | ⟨i,h3,h4,h5,h6⟩
     ·rw [List.getElem?_append_left h3]; exact h4
     ·subst h3;rw [List.getElem?_append_right (by omega)]
      rw [show H.length+i - H.length=i by omega,rQ]
      exact ⟨by omega,l8 i h5,h6⟩
   ·have hw:Region.wanted o (yielded ops a.tmps)=false:=by
     obtain ⟨v',k1,k2⟩:=fI d (A0 q3 q4) _ q5;have hy:=yt (ops:=ops) (tmps:=a.tmps) (j:=g) (d:=d) (by simpa [bT] using q4)
     rw [k1] at hy;rcases q6 with ⟨b,rfl,hb⟩ | ⟨vs,rfl⟩
     ·rw [k2.kg] at hy;simp only [Region.wanted,q3,hy];rw [← hb];cases b <;> cases want <;> rfl
     ·obtain ⟨ys,rfl,_⟩:=ar.nN (xs:=vs.toList) k2;simp only [Region.wanted,q3,hy]
      rfl
    rw [if_neg (by rw [hw]; simp)]
    refine ⟨fun _ _=>trivial,after undef w ν ⟨ν.le_refl,fun _ _=>rfl,by rw [q1]; exact .undef ν,Below.refl _ _,fun _=>rfl,(fun b hb=>by rw [q2] at hb; cases hb)⟩⟩
theorem VE (hm:P.follows .mixedOrders=true):nz P Ph:=by
 intro E hE r n F bO ops Q id ν tmps H a w k hi h hk;obtain ⟨m,aU,bf,h⟩:=h;have h:=mn h;obtain ⟨P5,h⟩:=yu h;have hc:=KT bf;obtain ⟨rs,iU,km,gw⟩:=Fx (P:=P) hE.toEnvOk (ops:=ops.toList) (t0:=tmps) (H:=H) (aU:=aU) (l:=ops.toList.take m) (ms:=aU) (j:=0) (rs:=[]) rfl
  (fun i o ho=>by
   rw [List.getElem?_take] at ho
   split at ho
   ·simpa using ho
   ·cases ho)
  (fun i _=>by simp) (fun i hi=>by omega) h
 have gw:=ue gw;have hlen:0+(ops.toList.take m).length=m:=by rw [List.length_take]; omega
 rw [hlen] at iU km gw;refine wpIn_region_any hm ?_;have hD:DB (Array.replicate ops.size false)=fun _=>false:=by
  funext i
  unfold DB;by_cases h:i < ops.size <;> simp [h]
 refine Mf (F:=F) (fl:=[]) hc.toOrder (by have:=hc.le; simpa using this) hc.apart (fun j hj hm i hi _=>hc.tail j (by simpa using hj) hm i (by omega)) km ?_ ops.size _ ν a _ (by simp) (fun j o hj=>by rw [hD] at hj; cases hj) (fun i aR=>by rw [hD] at aR; cases aR) ?_ (fun i _ _=>hi.fr _ (by omega)) ?_
 ·intro fuel aE ν a w hs eY al cZ hi hu;have hle:m≤ops.size:=by have:=hc.le; simpa using this
  have hD:∀ i,DB aE i=decide (i < m):=fun i=>by
   by_cases h:i < m
   ·rw [cZ i h (by simp)]; simp [h]
   ·cases hd:DB aE i with
    | true=>exact absurd (al i hd) h
    | false=>simp [h]
  have e1:bd ops.toList rs (DB aE) tmps m=bd ops.toList rs (fun i=>decide (i < m)) tmps m:=yj (fun i _=>hD i)
  have e2:kQ rs (DB aE) m=rs.map (·.nb):=by
   unfold kQ;apply List.ext_getElem?;intro i;rw [List.getElem?_map,List.getElem?_map];by_cases h:i < m
   ·rw [List.getElem?_range h,List.getElem?_eq_getElem (by omega:i < rs.length)]
    simp only [Option.map_some,hD i,h,decide_true,if_true];rw [List.getElem?_eq_getElem (by omega:i < rs.length)]; rfl
   ·rw [List.getElem?_eq_none (by simp; omega),List.getElem?_eq_none (by omega)]; rfl
  rw [e1,e2] at hi;exact Fy hE bO hc.toOrder hc.tail hk fuel aE m ν _ _ a w hs hD (Nat.le_refl _) hle hi gw (by
   have:=EE hD ops.size hle; omega)
 ·rw [hD];have e1:bd ops.toList rs (fun _=>false) tmps m=tmps:=wz (j:=0) (by omega) (fun _ _ _=>rfl)
  rw [e1];have kR:Below w.heap.size w { w with drawn:=w.drawn+1 }:=⟨rfl,rfl,rfl,Nat.le_refl _,fun _ _=>rfl⟩
  refine ⟨hi.tm,hi.df.below kR,(hi.hp.below kR).sA (fun id c cF=>?_),fun id bo=>hi.fr id (by rw [List.length_append] at bo; omega),hi.kp.below kR,fun id c lc cF oo dI=>?_,hi.mono⟩
  ·rw [List.getElem?_append] at cF
   split at cF
   ·exact cF
   ·have:=(rQ.1 cF).2.1; cases this
  ·rw [List.getElem?_append] at cF
   split at cF
   ·exact hi.own id c lc cF oo dI
   ·have:=(rQ.1 cF).2.1; cases this
 ·unfold gF;have:=List.length_filter_le (fun i=>!DB (Array.replicate ops.size false) i) (List.range ops.size)
  simpa using this
end
open Go Go.RowKit
def Ip (E:Env) (o:Oper) (t:List Value) (H:ay) (k:SK):Prop :=
 match o.op with
 | .store ty x y=>Cz E t H ty x y fun t' H'=>dr t' o.dst undef fun vB=>k vB H'
 | .call c=>match c.callee with
  | .builtin .append=>match c.args.toList,c.argTypes.toList with
   | [x,y],[ty,ty']=>match Nat.beq ty ty' with
    | true=>bZ t x fun xv=>bZ t y fun yv=>match BM xv with
     | true=>Gu E [] H ty xv yv fun v _ H'=>dr t o.dst v fun t'=>k t' H'
     | false=>False
    | false=>False
   | _,_=>False
  | .builtin .copy=>match c.args.toList,c.argTypes.toList with
   | [x,y],[ty,_]=>bZ t x fun xv=>bZ t y fun yv=>Gv E H ty xv yv fun v H'=>dr t o.dst v fun t'=>k t' H'
   | _,_=>False
  | _=>jz H fun aK=>ld E o.op t H aK fun v nb=>dr t o.dst v fun t'=>vi H nb fun H'=>k t' H'
 | _=>jz H fun aK=>ld E o.op t H aK fun v nb=>dr t o.dst v fun t'=>vi H nb fun H'=>k t' H'
def P6:Option Nat→ay→ay→Prop→Prop
 | none,_,_,k=>k
 | some n,H,H',k=>H'.take n=H.take n∧k
def CZ (E:Env) (fz:Option Nat):List Oper→List Value→ay→SK→Prop
 | [],t,H,k=>k t H
 | o::l,t,H,k=>Ip E o t H fun t' H'=>P6 fz H H' (CZ E fz l t' H' k)
theorem Mg {fz:Option Nat} {H H':ay} {k:Prop} (h:P6 fz H H' k):k∧∀ n,fz=some n→H'.take n=H.take n:=by
 cases fz with
 | none=>exact ⟨h,fun n e=>by cases e⟩
 | some m=>exact ⟨h.2,fun n e=>by cases e; exact h.1⟩
def Iq (ops:List Oper) (fl:List Nat) (n:Nat):Option Nat:=match fl.all fun f=>match ops[f]? with | some o=>mr o.op | none=>true with
 | true=>none
 | false=>some n
def Gz (ops:List Oper) (m q:Nat) (aU:List (List Nat)) (fl:List Nat):Bool :=
 decide (m+q≤ops.length) && Cc ops aU &&
 (List.range ops.length).all (fun j=>match ops[j]? with
  | some o=>o.after.toList.all fun e=>!Region.binds .any e || decide (e.on < j)
  | none=>true) &&
 (List.range m).all (fun j=>match ops[j]? with
  | some o=>(List.range m).all fun i=>i == j || match ops[i]? with
   | some p=>match p.dst with
    | some d=>(o.dst != some d) && (!(jq ops o).contains d || (aU.getD j []).contains i || (aU.getD i []).contains j)
    | none=>true
   | none=>true
  | none=>true) &&
 fl.all (fun f=>decide (f < m) && match ops[f]? with
  | some o=>o.guard.isNone && ((mr o.op || (mu o.op && (aU.getD f []).all fun i=>fl.contains i)) && ((match o.dst with | some d=>!(iN o.op.operands.toList).contains d | none=>false) && (List.range (m+q)).all fun i=>i == f || (match bT ops i with
   | none=>true
   | some e=>(o.dst != some e) && (!(iN o.op.operands.toList).contains e || (decide (i < m) && (aU.getD f []).contains i)))))
  | none=>false) &&
 (List.range (m+q)).all (fun j=>decide (j < m) || match ops[j]? with
  | some o=>o.guard.isNone && ((List.range j).all fun i=>(aU.getD j []).contains i || fl.contains i) && fl.all fun f=>(aU.getD j []).contains f || match bT ops f with | some d=>!(jq ops o).contains d | none=>false
  | none=>true) &&
 (List.range ops.length).all (fun j=>decide (j < m+q) || (List.range j).all fun i=>(aU.getD j []).contains i)
structure NN (ops:List Oper) (m q:Nat) (aU:List (List Nat)) (fl:List Nat):Prop extends Order ops aU where
 le:m+q≤ops.length
 apart:∀ j o i p d,j < m→i < m→i≠j→ops[j]?=some o→ops[i]?=some p→p.dst=some d→o.dst≠some d∧(d ∉ jq ops o∨i∈aU.getD j []∨j∈aU.getD i [])
 rk:∀ f∈fl,f < m∧∃ o d,ops[f]?=some o∧o.guard=none∧(mr o.op=true∨(mu o.op=true∧∀ i∈aU.getD f [],i∈fl))∧o.dst=some d∧d ∉ iN o.op.operands.toList∧∀ i e,i < m+q→i≠f→bT ops i=some e→e≠d∧(e∈iN o.op.operands.toList→i < m∧i∈aU.getD f [])
 mid:∀ j o,m≤j→j < m+q→ops[j]?=some o→o.guard=none∧(∀ i,i < j→i∈aU.getD j []∨i∈fl)∧∀ f∈fl,f∈aU.getD j []∨∀ d,bT ops f=some d→d ∉ jq ops o
 tail:∀ j,j < ops.length→m+q≤j→∀ i,i < j→i∈aU.getD j []
theorem Sb {ops:List Oper} {m q:Nat} {aU:List (List Nat)} {fl:List Nat} (h:Gz ops m q aU fl=true):NN ops m q aU fl:=by
 unfold Gz at h;simp only [Bool.and_eq_true,decide_eq_true_eq] at h;obtain ⟨⟨⟨⟨⟨⟨h1,J⟩,h3⟩,h4⟩,h5⟩,h6⟩,h7⟩:=h;have lt:∀ {j:Nat} {o:Oper},ops[j]?=some o→j∈List.range ops.length:=fun hj=>List.mem_range.2 (List.getElem?_eq_some_iff.1 hj).1
 refine ⟨⟨fun j o hj i hi=>?_,fun j o hj e he hb=>?_⟩,h1,fun j o i p d hj hi aJ ho hp hd=>?_,fun f hf=>?_,fun j o hm hj ho=>?_,fun j hj hm i hi=>?_⟩
 ·unfold Cc at J;have:=List.all_eq_true.1 J j (lt hj);rw [hj] at this;have:=List.all_eq_true.1 this i hi;simp only [Bool.and_eq_true,decide_eq_true_eq,List.any_eq_true,Bool.or_eq_true,beq_iff_eq,List.contains_iff_mem] at this;obtain ⟨k1,e,k2,k3,k4⟩:=this;exact ⟨k1,e,by simpa using k2,k3,k4⟩
 ·have:=List.all_eq_true.1 h3 j (lt hj);rw [hj] at this;have:=List.all_eq_true.1 this e (by simpa using he)
  simp only [hb,Bool.not_true,Bool.false_or,decide_eq_true_eq] at this;exact this
 ·have:=List.all_eq_true.1 h4 j (List.mem_range.2 hj);rw [ho] at this;have:=List.all_eq_true.1 this i (List.mem_range.2 hi);rw [hp] at this;have hb:(i == j)=false:=by simp [aJ]
  rw [hb,Bool.false_or] at this
  dsimp only at this
  rw [hd] at this;simp only [Bool.and_eq_true,bne_iff_ne,Bool.or_eq_true,Bool.not_eq_true',List.contains_iff_mem,or_assoc] at this;refine ⟨this.1,this.2.imp (fun k=>?_) (fun k=>k)⟩
  intro gV;rw [List.contains_iff_mem.2 gV] at k;cases k
 ·have:=List.all_eq_true.1 h5 f hf;simp only [Bool.and_eq_true,decide_eq_true_eq] at this;obtain ⟨k1,k2⟩:=this;refine ⟨k1,?_⟩
  split at k2
  ·rename_i o ho;simp only [Bool.and_eq_true,Bool.or_eq_true,Option.isNone_iff_eq_none] at k2;obtain ⟨k2,hx,k3,k4⟩:=k2;cases hd:o.dst with
   | none=>rw [hd] at k3; cases k3
   | some d =>
   rw [hd] at k3;have Hw:d ∉ iN o.op.operands.toList:=fun hm=>by
    have k3:(!(iN o.op.operands.toList).contains d)=true:=k3;rw [List.contains_iff_mem.2 hm] at k3; cases k3
   refine ⟨o,d,ho,k2,hx.imp id (fun h=>⟨h.1,fun i hi=>by simpa using List.all_eq_true.1 h.2 i hi⟩),hd,Hw,fun i e hi aJ he=>?_⟩
   have:=List.all_eq_true.1 k4 i (List.mem_range.2 hi);have hb:(i == f)=false:=by simp [aJ]
   rw [hb,Bool.false_or,he,hd] at this;simp only [Bool.or_eq_true,Bool.and_eq_true,bne_iff_ne,decide_eq_true_eq,List.contains_iff_mem,Bool.not_eq_true'] at this;obtain ⟨h1,J⟩:=this;refine ⟨fun e'=>h1 (by rw [e']),fun e'=>?_⟩
   rcases J with J | J
   ·rw [List.contains_iff_mem.2 e'] at J; cases J
   ·exact J
  ·cases k2
 ·have:=List.all_eq_true.1 h6 j (List.mem_range.2 hj);have hd:decide (j < m)=false:=by simp; omega
  rw [hd,Bool.false_or,ho] at this;simp only [Bool.and_eq_true,Option.isNone_iff_eq_none,List.all_eq_true,List.mem_range,Bool.or_eq_true,List.contains_iff_mem] at this;obtain ⟨⟨k1,k2⟩,k3⟩:=this;refine ⟨k1,k2,fun f hf=>(k3 f hf).imp (fun h=>h) (fun h d hd=>?_)⟩
  rw [hd] at h;simp only [Bool.not_eq_true'] at h;intro gV;rw [List.contains_iff_mem.2 gV] at h;cases h
 ·have:=List.all_eq_true.1 h7 j (List.mem_range.2 hj);simp only [Bool.or_eq_true,decide_eq_true_eq,List.all_eq_true,List.mem_range,List.contains_iff_mem] at this;rcases this with h | h
  ·omega
  ·exact h i hi
def Pj (E:Env) (ops:List Oper) (t:List Value) (H:ay) (k:SK):Prop :=
 ∃ (m q:Nat) (aU:List (List Nat)) (fl:List Nat),Gz ops m q aU fl=true∧jz H fun n0=>uV ops m fun hd tl=>uV tl q fun md tl2 =>
  lJ E ops H n0 hd aU 0 t [] fun t' S=>nE H S fun G=>CZ E (Iq ops fl n0) md t' G fun t2 G2=>nq E ops tl2 t2 G2 k
structure vk (fz:Option Nat) (P:Program) (F:Fr) (bt:Nu) (ops:List Oper) (fl:List Nat) (D:Nat→Bool) (ν:Nu) (t:List Value) (H:ay) (a:Act) (w:World):Prop where
 len:t.length=a.tmps.toList.length
 tm:∀ (d:Nat) v,t[d]?=some v→(∀ f∈fl,D f=false→bT ops f≠some d)→∃ v',a.tmps.toList[d]?=some v'∧ar ν v v'
 un:∀ f∈fl,D f=false→∀ o d,ops[f]?=some o→o.dst=some d→∃ v G,t[d]?=some v∧nW P bt G o.op t v∧∀ id b,G[id]?=some (some b)→H[id]?=some (some b)∧∃ n,fz=some n∧id < n
 le:bt.le ν
 rest:bz F ν [] H { a with tmps:=#[] } w
theorem NO:∀ {l:List Value} {n:Nat} {v:Value} {k:List Value→Prop},n < l.length→k (l.set n v)→xH l n v k
 | [],_,_,_,h,_=>absurd h (Nat.not_lt_zero _)
 | _::l,0,v,k,_,h=>h
 | x::l,n+1,v,k,h,hk=>NO (l:=l) (by simpa using h) hk
theorem nW.same {P:Program} {bt:Nu} {G:ay} {op:Op} {t t':List Value} {v:Value} (h:nW P bt G op t v) (hs:∀ s∈iN op.operands.toList,t'[s]?=t[s]?):nW P bt G op t' v :=
 ⟨h.1,fun o ν a w hle ho ha=>h.2 o ν a w hle ho fun x hx s nD u hu=>ha x hx s nD u (by rw [hs s (pT (by rw [← nD]; simpa using hx))]; exact hu)⟩
theorem qD.heap {P:Program} {bt:Nu} {op:Op} {t:List Value} {v:Value} (h:qD P bt op t v) (G:ay):nW P bt G op t v:=⟨h.1,fun o ν a w hle ho ha _=>h.2 o ν a w hle ho ha⟩
theorem Mh {fz:Option Nat} {G H H':ay} (h:∀ id b,G[id]?=some (some b)→H[id]?=some (some b)∧∃ n,fz=some n∧id < n) (hf:∀ n,fz=some n→H'.take n=H.take n) :
  ∀ id b,G[id]?=some (some b)→H'[id]?=some (some b)∧∃ n,fz=some n∧id < n:=fun id b hb=>by
 obtain ⟨h1,n,J,h3⟩:=h id b hb;refine ⟨?_,n,J,h3⟩;have:=congrArg (fun l=>l[id]?) (hf n J)
 simp only [List.getElem?_take,if_pos h3] at this;rw [this]; exact h1
theorem BN {op:Op} {C:Prop} (h:mr op=true∨(mu op=true∧C)):(mr op || mu op)=true:=by
 rcases h with h | ⟨h,_⟩
 ·rw [h]; rfl
 ·rw [h]; simp
theorem F0 {t:List Value} {o:Option Tmp} {v:Value} {k:List Value→Prop} {C:Prop} (h:dr t o v k) (hk:∀ t,k t→C):C:=by
 cases o with
 | none=>exact hk _ h
 | some d=>exact hk _ (oN h).2
theorem vk.put {fz:Option Nat} {P:Program} {F:Fr} {bt:Nu} {ops:List Oper} {fl:List Nat} {D D':Nat→Bool} {ν aj:Nu} {t:List Value} {H H':ay} {a:Act} {w w':World} (h:vk fz P F bt ops fl D ν t H a w) (Jo:∀ n,fz=some n→H'.take n=H.take n) (hle:ν.le aj)
  (hD:∀ f∈fl,D' f=D f) {v v':Value} (hv:ar aj v v') {o:Option Tmp} (ho:∀ d,o=some d→∀ f∈fl,∀ p e,ops[f]?=some p→p.dst=some e→d≠e∧d ∉ iN p.op.operands.toList)
  {k:List Value→Prop} (hk:dr t o v k) (hr:bz F aj [] H' { a with tmps:=#[] } w'):∃ t',k t'∧vk fz P F bt ops fl D' aj t' H' (a.put o v') w':=by
 cases o with
 | none =>
  refine ⟨t,hk,h.len,fun d u hu hn=>?_,fun f l9 hd p e h1 J=>?_,Nu.le_trans h.le hle,hr⟩
  ·obtain ⟨u',k1,k2⟩:=h.tm d u hu (fun f l9 hd=>hn f l9 (by rw [hD f l9]; exact hd))
   exact ⟨u',k1,k2.mono hle⟩
  ·obtain ⟨u,G,q1,q2,q3⟩:=h.un f l9 (by rw [← hD f l9]; exact hd) p e h1 J
   exact ⟨u,G,q1,q2,Mh q3 Jo⟩
 | some d0 =>
  obtain ⟨h1,J⟩:=oN hk;refine ⟨_,J,?_,fun d u hu hn=>?_,fun f l9 hd p e k1 k2=>?_,Nu.le_trans h.le hle,hr⟩
  ·rw [rT,List.length_set,List.length_set]; exact h.len
  ·rw [rT];by_cases e:d0=d
   ·subst e;rw [List.getElem?_set_self h1] at hu;cases hu;exact ⟨v',by rw [List.getElem?_set_self (by rw [← h.len]; exact h1)],hv⟩
   ·rw [List.getElem?_set_ne e] at hu ⊢;obtain ⟨u',k1,k2⟩:=h.tm d u hu (fun f l9 hd=>hn f l9 (by rw [hD f l9]; exact hd))
    exact ⟨u',k1,k2.mono hle⟩
  ·obtain ⟨aJ,hns⟩:=ho d0 rfl f l9 p e k1 k2;obtain ⟨u,G,q1,q2,q3⟩:=h.un f l9 (by rw [← hD f l9]; exact hd) p e k1 k2
   exact ⟨u,G,by rw [List.getElem?_set_ne aJ]; exact q1,q2.same fun s hs=>by rw [List.getElem?_set_ne (fun e:d0=s=>hns (by rw [e]; exact hs))],Mh q3 Jo⟩
section
variable {fz:Option Nat} {P:Program} {E:Env} {r:Option Nat} {n:Nat} {F:Fr} {ops:Array Oper} {Q:Exit→Act→World→Prop} {m q:Nat} {aU:List (List Nat)} {fl:List Nat} {k:SK}
theorem VF (hE:jX P E) (bO:lf F E) {bt:Nu} {o:Oper} {D D':Nat→Bool} {ν:Nu} {t:List Value} {H:ay} {a:Act} {w:World} (h:vk fz P F bt ops.toList fl D ν t H a w) {k:SK} (Ap:∀ t' H',k t' H'→∀ n,fz=some n→H'.take n=H.take n)
  (hD:∀ f∈fl,D' f=D f)
  (fI:∀ f∈fl,D f=false→∀ d,bT ops.toList f=some d→d ∉ jq ops.toList o)
  (ho:∀ d,o.dst=some d→∀ f∈fl,∀ p e,ops.toList[f]?=some p→p.dst=some e→d≠e∧d ∉ iN p.op.operands.toList)
  (hk:Ip E o t H k) {next:Act→World→Prop} {Q:Exit→Act→World→Prop}
  (hn:∀ aj t' H' a' w',vk fz P F bt ops.toList fl D' aj t' H' a' w'→k t' H'→next a' w'):o.wpIn (WF r) n P a w next Q:=by
 have ox:∀ x∈o.op.operands,fk ν t a x:=fun x hx s hs v hv=>by
  obtain ⟨v',k1,k2⟩:=h.tm s v hv (fun f l9 hd eT=>fI f l9 hd s eT (by unfold jq; exact List.mem_append_left _ (pT (by rw [hs] at hx; simpa using hx))))
  exact ⟨v',by simpa using k1,k2⟩
 have quiet:(jz H fun aK=>ld E o.op t H aK fun v nb=>dr t o.dst v fun t'=>vi H nb fun H'=>k t' H')→o.wpIn (WF r) n P a w next Q:=by
  intro hk;have hk:=mn hk;obtain ⟨v,nb,rh,hq⟩:=Bt (P:=P) hE.toEnvOk hk;refine hq o ν a w r n rfl ox h.rest.hp (h.rest.fr _ (Nat.le_refl _)) next Q (fun v' w' aj hp=>?_)
  cases hd:o.dst with
  | none =>
   rw [hd] at rh ho;obtain ⟨H',h1,J⟩:=h.rest.quiet hp rh;obtain ⟨t',k1,k2⟩:=h.put (D':=D') (o:=none) (Ap _ _ h1) hp.le hD hp.val (fun d hd=>by cases hd) (k:=fun t'=>t'=t) rfl J
   subst k1;exact hn _ _ _ _ _ k2 h1
  | some d =>
   rw [hd] at rh ho;obtain ⟨h1,J⟩:=oN rh;obtain ⟨H',h3,h4⟩:=h.rest.quiet hp J;obtain ⟨t',k1,k2⟩:=h.put (D':=D') (o:=some d) (Ap _ _ h3) hp.le hD hp.val ho (k:=fun t'=>k t' H') (by
    show xH t d v _
    exact NO h1 h3) h4
   exact hn _ _ _ _ _ k2 k1
 unfold Ip at hk
 split at hk
 ·rename_i ty x y aw;have hx:fk ν t a x:=ox x (by rw [aw]; simp [Op.operands])
  have hy:fk ν t a y:=ox y (by rw [aw]; simp [Op.operands])
  obtain ⟨w',H',bE,aR,J⟩:=Le hE.toEnvOk aw h.rest hx hy hk;obtain ⟨t',k1,k2⟩:=h.put (D':=D') (o:=o.dst) (F0 J fun t hk=>Ap t _ hk) ν.le_refl hD (.undef ν) ho J aR
  refine ⟨fun _ _=>trivial,?_⟩
  rw [Oper.semAt_eq _ _ _ (by simp [aw]),bE]
  exact hn _ _ _ _ _ k2 k1
 ·rename_i c aw
  split at hk
  ·rename_i hc
   split at hk
   ·rename_i x y t1 t2 rl DU
    split at hk
    ·rename_i hb;have hb:t1=t2:=Nat.eq_of_beq_eq_true hb;subst hb;have vG:c.args=#[x,y]:=Array.ext' rl;have Aa:c.argTypes=#[t1,t1]:=Array.ext' DU;obtain ⟨xv,jD,vz⟩:=kN hk (ox x (by rw [aw]; simp [Op.operands,Call.operands,vG]))
     obtain ⟨yv,Aq,vA⟩:=kN jD (ox y (by rw [aw]; simp [Op.operands,Call.operands,vG]))
     split at Aq
     ·rename_i hex;obtain ⟨v,v',aj,t',H',w',h1,J,h3,h4,h5⟩:=KR hE.toEnvOk bO h.rest vz vA Aq o.type;obtain rfl:t'=[]:=List.eq_nil_of_length_eq_zero (by have:=h3.tm.1; simpa using this)
      obtain ⟨t2,k1,k2⟩:=h.put (D':=D') (F0 h1 fun t hk=>Ap t _ hk) (h5 hex) hD J ho h1 h3
      exact jK (by simp [aw]) (by simp [execOp,aw,resolve,hc,vG,Aa,invoke,builtin,h4]) next Q (hn _ _ _ _ _ k2 k1)
     ·exact Aq.elim
    ·exact hk.elim
   ·exact hk.elim
  ·rename_i hc
   split at hk
   ·rename_i x y t1 t2 rl DU;have vG:c.args=#[x,y]:=Array.ext' rl;have Aa:c.argTypes=#[t1,t2]:=Array.ext' DU;obtain ⟨xv,jD,vz⟩:=kN hk (ox x (by rw [aw]; simp [Op.operands,Call.operands,vG]))
    obtain ⟨yv,Aq,vA⟩:=kN jD (ox y (by rw [aw]; simp [Op.operands,Call.operands,vG]))
    obtain ⟨v,H',w',h1,J,h3,h4⟩:=Lj hE.toEnvOk h.rest vz vA Aq t2 o.type;obtain ⟨t2,k1,k2⟩:=h.put (D':=D') (F0 h1 fun t hk=>Ap t _ hk) ν.le_refl hD J ho h1 h3
    exact jK (by simp [aw]) (by simp [execOp,aw,resolve,hc,vG,Aa,invoke,builtin,h4]) next Q (hn _ _ _ _ _ k2 k1)
   ·exact hk.elim
  ·exact quiet hk
 ·exact quiet hk
theorem VG (hE:jX P E) (bO:lf F E) (hc:NN ops.toList m q aU fl) (hk:∀ ν t' H' a' w',bz F ν t' H' a' w'→k t' H'→Q .normal a' w') :
  ∀ (fuel:Nat) (aE:Array Bool) (j0:Nat) (bt ν:Nu) (t:List Value) (H:ay) (a:Act) (w:World),aE.size=ops.size→oY ops.toList (DB aE)→m≤j0→j0≤m+q →
  (∀ i,i < j0→i ∉ fl→DB aE i=true)→(∀ i,DB aE i=true→i < j0)→vk fz P F bt ops.toList fl (DB aE) ν t H a w →
  CZ E fz ((ops.toList.take (m+q)).drop j0) t H (fun t' H'=>nq E ops.toList (ops.toList.drop (m+q)) t' H' k)→gF (DB aE) ops.size≤fuel→wpAnyIn (WF r) n P .any ops Q fuel aE a w:=by
 have hle:m+q≤ops.size:=by have:=hc.le; simpa using this
 have xK:∀ (i:Nat) (d:Tmp),i < m+q→m≤i→bT ops.toList i=some d→∀ f∈fl,f≠i→∀ p e,ops.toList[f]?=some p→p.dst=some e→d≠e∧d ∉ iN p.op.operands.toList:=by
  intro i d hi CY hd f hf aJ p e h1 h3;obtain ⟨_,o,d',k1,k2,k3,k4,_,k5⟩:=hc.rk f hf;rw [h1] at k1; cases k1;rw [h3] at k4; cases k4;obtain ⟨q1,q2⟩:=k5 i d hi (Ne.symm aJ) hd;exact ⟨q1,fun e'=>by have:=(q2 e').1; omega⟩
 have finish:∀ (fuel:Nat) (aE:Array Bool) (j0:Nat) (bt ν:Nu) (t:List Value) (H:ay) (a:Act) (w:World),aE.size=ops.size→m≤j0→j0≤m+q→(∀ i,DB aE i=true→i < j0)→vk fz P F bt ops.toList fl (DB aE) ν t H a w →
   CZ E fz ((ops.toList.take (m+q)).drop j0) t H (fun t' H'=>nq E ops.toList (ops.toList.drop (m+q)) t' H' k)→gF (DB aE) ops.size≤fuel→(∀ i,i < m+q→DB aE i=true)→wpAnyIn (WF r) n P .any ops Q fuel aE a w:=by
  intro fuel aE j0 bt ν t H a w hs hm kJ al hi h hu cZ;have e:j0=m+q:=by
   rcases Nat.lt_or_ge j0 (m+q) with h' | h'
   ·have:=al j0 (cZ j0 h'); omega
   ·omega
  subst e;rw [List.drop_eq_nil_of_le (by simp; omega)] at h
  have hD:∀ i,DB aE i=decide (i < m+q):=fun i=>by
   by_cases h:i < m+q
   ·rw [cZ i h]; simp [h]
   ·cases hd:DB aE i with
    | true=>exact absurd (al i hd) h
    | false=>simp [h]
  have aR:bz F ν t H a w:=⟨⟨hi.len,fun d x y hx hy=>by
   obtain ⟨y',k1,k2⟩:=hi.tm d x hx (fun f hf hd=>by have:=(hc.rk f hf).1; rw [cZ f (by omega)] at hd; cases hd)
   rw [hy] at k1; cases k1; exact k2⟩,hi.rest.df,hi.rest.hp,hi.rest.fr,hi.rest.kp,hi.rest.own,hi.rest.mono⟩
  exact Fy hE bO hc.toOrder (m:=m+q) hc.tail hk fuel aE (m+q) ν t H a w hs hD (Nat.le_refl _) hle aR h (by
   have:=EE hD ops.size hle; omega)
 intro fuel
 induction fuel with
 | zero =>
  intro aE j0 bt ν t H a w hs eY hm kJ o8 al hi h hu;exact finish 0 aE j0 bt ν t H a w hs hm kJ al hi h hu (fun i aR=>by
   cases hd:DB aE i with
   | true=>rfl
   | false=>have:=E8 (n:=ops.size) (by omega:i < ops.size) hd; omega)
 | succ fuel ih =>
  intro aE j0 bt ν t H a w hs eY hm kJ o8 al hi h hu;by_cases cZ:∀ i,i < m+q→DB aE i=true
  ·exact finish (fuel+1) aE j0 bt ν t H a w hs hm kJ al hi h hu cZ
  ·have hex:∃ i,i < m+q∧DB aE i=false:=by
    refine Classical.byContradiction fun aJ=>cZ fun i aR=>?_
    cases hd:DB aE i with
    | true=>rfl
    | false=>exact absurd ⟨i,aR,hd⟩ aJ
   obtain ⟨i1,DT,gp⟩:=hex;obtain ⟨i0,P4,fJ,jm⟩:=EF gp;have hr:=Bc hc.toOrder hs (by omega:i0 < ops.size) fJ jm
   refine ⟨(fun hn=>by rw [hn] at hr; cases hr),fun j hj=>?_⟩
   rw [mem_ready] at hj;obtain ⟨h1,o,ho,he⟩:=hj;have nF:j < ops.size:=(Array.getElem?_eq_some_iff.1 ho).1;rw [uu (by omega)] at h1
   have gm:ops.toList[j]?=some o:=by simpa using ho
   have l8:=tS hc.toOrder eY j o gm (fun e' gn bB=>he e' gn bB)
   have db:∀ i,DB (aE.setIfInBounds j true) i=(DB aE i || i == j):=fun i=>CC (by omega) i
   have xN:oY ops.toList (DB (aE.setIfInBounds j true)):=by
    intro i p aR hp e' gn bB;rw [db] at aR ⊢;by_cases e:i=j
    ·subst e;rw [gm] at hp; cases hp;have:DB aE e'.on=true:=he e' gn bB;rw [this]; rfl
    ·have e2:(i == j)=false:=by simp [e]
     rw [e2,Bool.or_false] at aR;rw [eY i p aR hp e' gn bB]; rfl
   have s9:gF (DB (aE.setIfInBounds j true)) ops.size≤fuel:=by
    have:=Bo db h1 ops.size;rw [if_pos nF] at this; omega
   by_cases Ar:j∈fl
   ·-- a floating move
    obtain ⟨mQ,o',d,g1,g2,g3,g4,g6,g5⟩:=hc.rk j Ar;rw [gm] at g1; cases g1;obtain ⟨v,G,mc,Ji,hGH⟩:=hi.un j Ar h1 o d gm g4;obtain ⟨vu,DV,acx⟩:=Ji.2 o ν a w hi.le rfl (fun x hx s nD u hu=>by
     have rm:s∈iN o.op.operands.toList:=pT (by rw [← nD]; simpa using hx)
     obtain ⟨u',r1,r2⟩:=hi.tm s u hu (fun f hf hd eT=>by
      have As:=(hc.rk f hf).1;by_cases e:f=j
      ·subst e;have:bT ops.toList f=some d:=by simp [bT,gm,g4]
       rw [this] at eT; cases eT;exact g6 rm
      ·have:=((g5 f s (by omega) e eT).2 rm).2
       rw [l8 f this] at hd; cases hd)
     exact ⟨u',by simpa using r1,r2⟩) (hi.rest.hp.sA fun id b hb=>(hGH id b hb).1)
    unfold wpOpIn;rw [ho]
    dsimp only
    rw [if_pos (by simp [Region.wanted,g2])]
    refine jK (v':=vu) (w':=w) Ji.1 acx _ Q ?_;rw [g4];refine ih _ j0 bt ν t H _ w (by simp [hs]) xN hm kJ (fun i aR hf=>by rw [db,o8 i aR hf]; rfl) (fun i aR=>?_) ⟨?_,fun e u tv bR=>?_,fun f hf hd p e k1 k2=>?_,hi.le,hi.rest⟩ h s9
    ·rw [db] at aR;by_cases e:i=j
     ·omega
     ·have e2:(i == j)=false:=by simp [e]
      rw [e2,Bool.or_false] at aR;exact al i aR
    ·rw [rT,List.length_set]; exact hi.len
    ·rw [rT];by_cases e':d=e
     ·subst e';rw [mc] at tv; cases tv;have:d < t.length:=(List.getElem?_eq_some_iff.1 mc).1;exact ⟨vu,by rw [List.getElem?_set_self (by rw [← hi.len]; exact this)],DV⟩
     ·rw [List.getElem?_set_ne e'];refine hi.tm e u tv (fun f hf hd=>?_)
      by_cases e3:f=j
      ·subst e3;intro cU;have:bT ops.toList f=some d:=by simp [bT,gm,g4]
       rw [this] at cU; exact e' (Option.some.inj cU)
      ·exact bR f hf (by rw [db,hd]; simp [e3])
    ·have aJ:f≠j:=fun e3=>by subst e3; rw [db] at hd; simp at hd
     have bU:DB aE f=false:=by
      rw [db] at hd;simp only [Bool.or_eq_false_iff] at hd;exact hd.1
     exact hi.un f hf bU p e k1 k2
   ·have eH:j0≤j:=by
     rcases Nat.lt_or_ge j j0 with h' | h'
     ·rw [o8 j h' Ar] at h1; cases h1
     ·exact h'
    have Jp:j < m+q:=by
     rcases Nat.lt_or_ge j (m+q) with h' | h'
     ·exact h'
     ·have:=l8 i1 (hc.tail j (by simpa using nF) h' i1 (by omega))
      rw [gp] at this; cases this
    obtain ⟨c1,c2,c3⟩:=hc.mid j o (by omega) Jp gm
    have hjj:j=j0:=by
     rcases Nat.lt_or_ge j0 j with h' | h'
     ·rcases c2 j0 h' with J | J
      ·have:=al j0 (l8 j0 J); omega
      ·have:=(hc.rk j0 J).1; omega
     ·omega
    subst hjj;have HD:(ops.toList.take (m+q)).drop j=o::(ops.toList.take (m+q)).drop (j+1):=by
     have hl:j < (ops.toList.take (m+q)).length:=by simp; omega
     rw [List.drop_eq_getElem_cons hl]
     congr 1
     have:=List.getElem?_eq_getElem hl;rw [List.getElem?_take,if_pos Jp,gm] at this;exact (Option.some.inj this).symm
    rw [HD] at h;unfold wpOpIn;rw [ho]
    dsimp only
    rw [if_pos (by simp [Region.wanted,c1])]
    refine VF hE bO (D':=DB (aE.setIfInBounds j true)) hi (fun t' H' h'=>(Mg h').2) (fun f hf=>?_) (fun f hf hd d cU=>?_) (fun d hd f hf=>?_) h (fun aj t' H' a' w' aR h'=>?_)
    ·have:f≠j:=fun e=>Ar (e ▸ hf)
     rw [db]; simp [this]
    ·rcases c3 f hf with J | J
     ·rw [l8 f J] at hd; cases hd
     ·exact J d cU
    ·exact xK j d Jp (by omega) (by simp [bT,gm,hd]) f hf (fun e=>Ar (e ▸ hf))
    ·refine ih _ (j+1) bt aj t' H' a' w' (by simp [hs]) xN (by omega) (by omega) (fun i ik hf=>?_) (fun i ik=>?_) aR (Mg h').1 s9
     ·rw [db];by_cases e:i=j
      ·simp [e]
      ·rw [o8 i (by omega) hf]; rfl
     ·rw [db] at ik;by_cases e:i=j
      ·omega
      ·have e2:(i == j)=false:=by simp [e]
       rw [e2,Bool.or_false] at ik;have:=al i ik; omega
theorem VH (hm:P.follows .mixedOrders=true):nz P Pj:=by
 intro E hE r n F bO ops Q id ν tmps H a w k hi h hk;obtain ⟨m,q,aU,fl,bf,h⟩:=h;have h:=mn h;obtain ⟨P5,h⟩:=yu h;obtain ⟨aeR,h⟩:=yu h;have hc:=Sb bf;obtain ⟨rs,iU,km,gw⟩:=Fx (P:=P) hE.toEnvOk (ops:=ops.toList) (t0:=tmps) (H:=H) (aU:=aU) (l:=ops.toList.take m) (ms:=aU) (j:=0) (rs:=[]) rfl
  (fun i o ho=>by
   rw [List.getElem?_take] at ho
   split at ho
   ·simpa using ho
   ·cases ho)
  (fun i _=>by simp) (fun i hi=>by omega) h
 have gw:=ue gw;have hlen:0+(ops.toList.take m).length=m:=by rw [List.length_take]; omega
 rw [hlen] at iU km gw;have hD:DB (Array.replicate ops.size false)=fun _=>false:=by
  funext i
  unfold DB;by_cases h:i < ops.size <;> simp [h]
 have hmd:(ops.toList.drop m).take q=(ops.toList.take (m+q)).drop m:=by
  rw [List.drop_take]; congr 1; omega
 have htl:(ops.toList.drop m).drop q=ops.toList.drop (m+q):=by rw [List.drop_drop]
 rw [hmd,htl] at gw;have bm:m+q≤ops.size:=by have:=hc.le; simpa using this
 refine wpIn_region_any hm ?_;refine Mf (F:=F) (fl:=fl) hc.toOrder (by omega) hc.apart (fun j hj hm i hi hf=>?_) km ?_ ops.size _ ν a _ (by simp) (fun j o hj=>by rw [hD] at hj; cases hj) (fun i aR=>by rw [hD] at aR; cases aR) ?_ (fun i _ _=>hi.fr _ (by omega)) ?_
 ·by_cases h':j < m+q
  ·rcases (hc.mid j ops[j] hm h' (by simp [hj])).2.1 i (by omega) with h | h
   ·exact h
   ·exact absurd h hf
  ·exact hc.tail j (by simpa using hj) (by omega) i (by omega)
 ·intro fuel aE ν a w hs eY al cZ hi hu;have lQ:∀ i d,i < m→bT ops.toList i=some d→d < tmps.length:=by
   intro i d hi hd;obtain ⟨o,q,h1,J,h3,_⟩:=(km i hi).ok;unfold bT at hd;rw [h1] at hd;exact h3 d hd
  have pH:xw ops.toList m:=by
   intro i j d hi hj h1 J;rcases Nat.decEq i j with aJ | he
   ·obtain ⟨o,q,k1,_⟩:=(km i hi).ok;obtain ⟨p,q',k2,_⟩:=(km j hj).ok;unfold bT at h1 J;rw [k1] at h1; rw [k2] at J;exact absurd h1 (hc.apart i o j p d hi hj (Ne.symm aJ) k1 k2 J).1
   ·exact he
  have e2:kQ rs (DB aE) m=rs.map (·.nb):=by
   unfold kQ;apply List.ext_getElem?;intro i;rw [List.getElem?_map,List.getElem?_map];by_cases h:i < m
   ·rw [List.getElem?_range h,List.getElem?_eq_getElem (by omega:i < rs.length)]
    simp only [Option.map_some];rw [List.getElem?_eq_getElem (by omega:i < rs.length)]
    cases gl:DB aE i with
    | true=>rfl
    | false =>
     have hf:i∈fl:=Classical.byContradiction fun hn=>by rw [cZ i h hn] at gl; cases gl
     obtain ⟨_,o,d,g1,g2,g3,g4,_⟩:=hc.rk i hf;obtain ⟨r',k1,k2,_⟩:=(km i h).mv o g1 (BN g3) g2;rw [List.getElem?_eq_getElem (by omega:i < rs.length)] at k1
     cases k1;rw [k2]; rfl
   ·rw [List.getElem?_eq_none (by simp; omega),List.getElem?_eq_none (by omega)]; rfl
  have gk:=hi.hp;rw [e2] at hi;refine VG hE bO hc hk fuel aE m ν ν _ _ a w hs eY (Nat.le_refl _) (by omega) cZ al ⟨?_,fun d u tv bR=>?_,fun f hf hd o d k1 k3=>?_,ν.le_refl,⟨.nil ν,hi.df,hi.hp,hi.fr,hi.kp,hi.own,hi.mono⟩⟩ gw hu
  ·have:=hi.tm.1;rw [rM] at this ⊢;exact this
  ·have HG:(bd ops.toList rs (DB aE) tmps m)[d]?=(bd ops.toList rs (fun i=>decide (i < m)) tmps m)[d]?:=by
    refine yw pH lQ (fun i aR gl=>?_)
    have:DB aE i=true:=by
     by_cases hf:i∈fl
     ·cases P7:DB aE i with
      | true=>rfl
      | false=>exact absurd gl (bR i hf P7)
     ·exact cZ i aR hf
    rw [this]; simp [aR]
   rw [← HG] at tv;exact hi.tm.get tv
  ·obtain ⟨As,o',d',g1,g2,g3,g4,g6,g5⟩:=hc.rk f hf;rw [k1] at g1; cases g1;rw [k3] at g4; cases g4;obtain ⟨r',q1,q2,G,qG,q3⟩:=(km f As).mv o k1 (BN g3) g2;have pF:∀ (id:Nat) (b:ai),G[id]?=some (some b)→(H++rs.map (·.nb))[id]?=some (some b)∧(H++kQ rs (DB aE) m)[id]?=some (some b):=by
    intro id b hb;rcases qG id b hb with ⟨h1,J⟩ | ⟨i,h1,J,h3,h4⟩
    ·rw [List.getElem?_append_left h1,List.getElem?_append_left h1]; exact ⟨J,J⟩
    ·subst h1;have At:i < m:=by omega
     have gl:DB aE i=true:=Classical.byContradiction fun hn=>by
      have DW:i∈fl:=Classical.byContradiction fun bR=>hn (cZ i At bR)
      obtain ⟨_,o2,d2,y1,y2,y3,y4,_⟩:=hc.rk i DW;obtain ⟨r2,z1,z2,_⟩:=(km i At).mv o2 y1 (BN y3) y2;rw [z1] at h4;simp [z2] at h4
     rw [List.getElem?_append_right (by omega),List.getElem?_append_right (by omega)]
     rw [show H.length+i - H.length=i by omega]
     refine ⟨?_,rQ.2 ⟨At,gl,h4⟩⟩;rw [List.getElem?_map];cases hr:rs[i]? with
     | none=>rw [hr] at h4; cases h4
     | some r2=>rw [hr] at h4; simpa using h4
   have hG:bS ν G w:=⟨fun id b hb=>gk.aI id b (pF id b hb).2,fun x y bx bY lx ly hx hy aJ ho e1 e2=>gk.sep x y bx bY lx ly (pF x bx hx).2 (pF y bY hy).2 aJ ho e1 e2⟩
   have hV:∃ G2,nW P ν G2 o.op (bd ops.toList rs (fun i=>decide (i < f)) tmps f) r'.v∧∀ id b,G2[id]?=some (some b)→(H++rs.map (·.nb))[id]?=some (some b)∧∃ n,Iq ops.toList fl H.length=some n∧id < n:=by
    cases hp:mr o.op with
    | true=>exact ⟨[],(q3.1 hp ν w hG).heap [],fun id b hb=>by simp at hb⟩
    | false =>
     obtain ⟨hh,l8⟩:=g3.resolve_left (by rw [hp]; simp)
     refine ⟨G,q3.2 hh ν,fun id b hb=>?_⟩
     rcases qG id b hb with ⟨h1,J⟩ | ⟨i,h1,J,h3,h4⟩
     ·refine ⟨by rw [List.getElem?_append_left h1]; exact J,H.length,?_,h1⟩
      unfold Iq;have:(fl.all fun f=>match ops.toList[f]? with | some o=>mr o.op | none=>true)=false:=by
       rw [List.all_eq_false];exact ⟨f,hf,by rw [k1]; simp [hp]⟩
      rw [this]
     ·obtain ⟨_,o2,d2,y1,y2,y3,y4,_⟩:=hc.rk i (l8 i h3);obtain ⟨r2,z1,z2,_⟩:=(km i (by omega)).mv o2 y1 (BN y3) y2
      rw [z1] at h4;simp [z2] at h4
   obtain ⟨G2,q3,qg⟩:=hV;have Jq:bT ops.toList f=some d:=by simp [bT,k1,k3]
   refine ⟨r'.v,G2,uf _ Jq q1 (by simp [As]) (lQ f d As Jq) m As pH,q3.same fun s hs=>?_,qg⟩
   by_cases hex:∃ i,i < m∧i≠f∧bT ops.toList i=some s
   ·obtain ⟨i,h1,J,h3⟩:=hex;obtain ⟨_,k5⟩:=g5 i s (by omega) J h3
    obtain ⟨_,k7⟩:=k5 hs;have DW:=(hc.mask f o k1 i k7).1;obtain ⟨o2,r2,w1,w2,_⟩:=(km i h1).ok;rw [uf _ h3 w2 (by simp [DW]) (lQ i s h1 h3) f DW (fun a b c h4 h5=>pH a b c (by omega) (by omega)),uf _ h3 w2 (by simp [h1]) (lQ i s h1 h3) m h1 pH]
   ·have rj:∀ i,i < m→bT ops.toList i=some s→i=f:=fun i h1 J=>Classical.byContradiction fun h3=>hex ⟨i,h1,h3,J⟩
    by_cases QZ:s=d
    ·subst QZ;exact absurd hs g6
    ·rw [wx _ f (fun i aR _ gl=>by have:=rj i (by omega) gl; omega),wx _ m (fun i aR P7 gl=>by
      have:=rj i aR gl;subst this;rw [Jq] at gl; exact absurd (Option.some.inj gl).symm QZ)]
 ·rw [hD];have e1:bd ops.toList rs (fun _=>false) tmps m=tmps:=wz (j:=0) (by omega) (fun _ _ _=>rfl)
  rw [e1];have kR:Below w.heap.size w { w with drawn:=w.drawn+1 }:=⟨rfl,rfl,rfl,Nat.le_refl _,fun _ _=>rfl⟩
  refine ⟨hi.tm,hi.df.below kR,(hi.hp.below kR).sA (fun id c cF=>?_),fun id bo=>hi.fr id (by rw [List.length_append] at bo; omega),hi.kp.below kR,fun id c lc cF oo dI=>?_,hi.mono⟩
  ·rw [List.getElem?_append] at cF
   split at cF
   ·exact cF
   ·have:=(rQ.1 cF).2.1; cases this
  ·rw [List.getElem?_append] at cF
   split at cF
   ·exact hi.own id c lc cF oo dI
   ·have:=(rQ.1 cF).2.1; cases this
 ·unfold gF;have:=List.length_filter_le (fun i=>!DB (Array.replicate ops.size false) i) (List.range ops.size)
  simpa using this
end
open Go Go.RowKit
def isApp (op:Op):Option (TypeId × Operand × Operand):=match op with
 | .call c=>match c.callee with
  | .builtin .append=>match c.args.toList,c.argTypes.toList with
   | [x,y],[t,t']=>match Nat.beq t t' with
    | true=>some (t,x,y)
    | false=>none
   | _,_=>none
  | _=>none
 | _=>none
theorem Td {op:Op} {t:TypeId} {x y:Operand} (h:isApp op=some (t,x,y)):∃ c,op=.call c∧c.callee=.builtin .append∧c.args=#[x,y]∧c.argTypes=#[t,t]:=by
 unfold isApp at h
 split at h
 ·rename_i c
  split at h
  ·rename_i hc
   split at h
   ·rename_i x' y' t1 t2 hx ht
    split at h
    ·rename_i hb;cases h;have hb:=Nat.eq_of_beq_eq_true hb;subst hb;exact ⟨c,rfl,hc,Array.ext' hx,Array.ext' ht⟩
    ·cases h
   ·cases h
  ·cases h
 ·cases h
def P8 (E:Env) (tmps:List Value) (G:ay) (n0 aK:Nat) (t:TypeId) (x y:Operand) (k:Value→Option Nat→Option ai→Prop):Prop :=
 bZ tmps x fun xv=>bZ tmps y fun yv=>cK E.tt t fun ti=>match ti.kind with
  | .slice e=>cK E.tt e fun te=>zQ G te.size yv fun s=>match xv with
   | .slice none 0 0=>match s.m with
    | 0=>k (.slice none 0 0) none none
    | m+1=>((m+1)*te.bytes≤140737488355328)∧k (.slice (some ⟨aK,0,none⟩) (m+1) aO) none (some (oW te.size s))
   | .slice (some ⟨id,0,none⟩) n c=>gR G id fun b=>match Nat.beq b.ae te.size && Nat.ble n0 id with
    | true=>(n=b.n∧(n+s.m)*te.bytes≤140737488355328)∧wR b s fun b'=>k (.slice (some ⟨aK,0,none⟩) (n+s.m) aO) (some (id - n0)) (some b')
    | false=>False
   | _=>False
  | _=>False
structure EPost (ν aj:Nu) (aK:Nat) (iT:Option Loc) (w w':World) (v v':Value) (nb:Option ai):Prop where
 le:ν.le aj
 only:∀ id,id≠aK→aj id=ν id
 val:ar aj v v'
 DX:Below w.heap.size w w'∨∃ l,iT=some l∧(∃ cur t,w.heap[l.aI]?=some (.cells cur t (0,0)))∧(∀ q,q≠l.aI→w'.heap[q]?=w.heap[q]?)∧w.heap.size≤w'.heap.size∧w'.os=w.os∧w'.tape=w.tape∧w'.output=w.output
 z6:nb=none→aj=ν
 ig:∀ b,nb=some b→∃ l,aj aK=some l∧bQ aj l b w'∧(w.heap.size≤l.aI∨∃ lo,iT=some lo∧l.aI=lo.aI)
theorem nc.e {ν aj:Nu} {aK:Nat} {w w':World} {v v':Value} {nb:Option ai} (h:nc ν aj aK w w' v v' nb) (iT:Option Loc):EPost ν aj aK iT w w' v v' nb :=
 ⟨h.le,h.only,h.val,.inl h.below,h.z6,fun b hb=>let ⟨l,h1,J,h3⟩:=h.ig b hb; ⟨l,h1,J,.inl h3⟩⟩
section
variable {P:Program} {E:Env}
theorem Uz (hE:EnvOk P E) {tmps:List Value} {G:ay} {n0 aK:Nat} {t:TypeId} {x y:Operand} {k:Value→Option Nat→Option ai→Prop} (h:P8 E tmps G n0 aK t x y k) :
  ∃ v gA nb,k v gA nb∧(∀ i,gA=some i→∃ b,G[n0+i]?=some (some b)∧b.own=true) ∧
   ∀ (ν:Nu) (a:Act) (w:World) (ty:TypeId),fk ν tmps a x→fk ν tmps a y→bS ν G w→ν aK=none →
    ∃ v' w' aj,(Builtin.append_ #[t,t] ty #[a.eval x,a.eval y]).run P w=.ok v' w'∧EPost ν aj aK (gA.bind fun i=>ν (n0+i)) w w' v v' nb:=by
 obtain ⟨xv,J,vE⟩:=cS h;clear h;obtain ⟨yv,h,Ak⟩:=cS J;clear J;obtain ⟨ti,ht,J⟩:=cP h;clear h;obtain ⟨d,hu,hd⟩:=(hE.ty _ _ ht).under
 split at J
 ·rename_i e hk;rw [hk] at hd;have hd:d=.slice e:=hd;subst hd;obtain ⟨te,he,h⟩:=cP J;clear J;have bf:=hE.ty _ _ he;obtain ⟨i,iQ,gJ,ny,z,hz,iF⟩:=bf.info;obtain ⟨s,J,xZ,hs⟩:=Fs h;clear h;have jB:z.cells.size=te.size:=by rw [iF]; simpa using bf.len
  have adU:=bf.bit;have small:∀ q,q*te.bytes≤140737488355328→q≤140737488355328:=fun q hq=>by
   have:q*1≤q*te.bytes:=Nat.mul_le_mul_left _ (by omega)
   omega
  split at J
  ·-- onto nil
   split at J
   ·rename_i hm;refine ⟨_,_,_,J,(fun i hi=>by cases hi),fun ν a w ty vH Au hH hn=>?_⟩
    have hx:=(vE ν a vH).p7;obtain ⟨oy,cy,L,kH,kI,hC,j6⟩:=hs ν w _ hH (Ak ν a Au);have hL:L.length=s.m*i.size:=by rw [gJ]; exact hC.len
    refine ⟨_,w,ν,?_,⟨ν.le_refl,fun _ _=>rfl,.iP,.inl (Below.refl _ _),fun _=>rfl,(fun b hb=>by cases hb)⟩⟩
    rw [hx,kH];have:=rN (P:=P) (w:=w) (ty:=ty) hu iQ (A:=none) (oy:=oy) (n:=0) (c:=0) (m:=s.m) (cy:=cy) (L:=L) hL j6 kI (by omega) (w2:=w) (fun a ha=>by cases ha) (fun _=>rfl)
    rw [hm] at this ⊢
    simpa using this
   ·rename_i m hm;obtain ⟨hB,h⟩:=J;refine ⟨_,_,_,h,(fun i hi=>by cases hi),fun ν a w ty vH Au hH hn=>?_⟩
    have hx:=(vE ν a vH).p7;obtain ⟨oy,cy,L,kH,kI,hC,j6⟩:=hs ν w _ hH (Ak ν a Au);have hL:L.length=s.m*i.size:=by rw [gJ]; exact hC.len
    have qQ:s.kv=true→∀ r,r < s.m→∀ v∈s.get r,cH v=true:=fun h r hr v hv=>xZ h r hr ν w hH v hv
    have bE:=A2 (P:=P) (w:=w) (ty:=ty) hu iQ hz (A:=none) (oy:=oy) (n:=0) (c:=0) (m:=s.m) (cy:=cy) (O:=[]) (L:=L) (by simp) (fun a ha=>by cases ha) (fun _=>⟨rfl,rfl⟩) hL j6 kI (by omega) (by omega) (by rw [ny,hm]; simpa using hB) (by have:=small _ hB; omega)
    have dS:Ext (oW te.size s) te.size (fun _=>[]) 0 s.get s.m s.kv:=by
     cases s with
     | fl m g=>exact ⟨rfl,rfl,by simp [oW,ai.n,Src.m],fun r hr=>by rw [gD (by omega)]; rfl,fun _=>rfl⟩
     | ex L=>exact ⟨rfl,rfl,by simp [oW,ai.n,Src.m],fun r hr=>by rw [gD (by omega)]; rfl,fun h=>by simp [oW,ai.jc] at h⟩
    have xY:=hC.mono (Nu.ki (l:=⟨w.heap.size,0,te.size,grownCap w (0+s.m) 0 e⟩) hn);have iG:=wh (CR.nil _ te.size (fun _=>[])) xY dS (fun h=>⟨fun r hr=>absurd hr (by omega),qQ h⟩) (w:=w) jB (iT:=0) (e:=e)
    have eH:=grownCap_ge w (0+s.m) 0 e;have cC:ar (ν.add aK ⟨w.heap.size,0,te.size,grownCap w (0+s.m) 0 e⟩) (.slice (some ⟨aK,0,none⟩) (m+1) aO) (.slice (some ⟨w.heap.size,0,none⟩) (0+s.m) (grownCap w (0+s.m) 0 e)):=by
     have:=ar.slice (ν:=ν.add aK ⟨w.heap.size,0,te.size,grownCap w (0+s.m) 0 e⟩) aK 0 (0+s.m) aO (grownCap w (0+s.m) 0 e) _ Nu.add_same (.inr rfl) eH (by simp)
     rw [show m+1=0+s.m by omega]
     simpa [Loc.at] using this
    have hq:=mY hn iG (wb w _ _ _ _) (Nat.le_refl _) cC;refine ⟨_,_,_,?_,hq.e _⟩;rw [hx,kH]
    simpa using bE
  ·rename_i id n c;obtain ⟨b,hb,h⟩:=gK J;clear J
   split at h
   ·rename_i dv;rw [Bool.and_eq_true] at dv;obtain ⟨dv,P9⟩:=dv;have dv:b.ae=te.size:=Nat.eq_of_beq_eq_true dv;have P9:n0≤id:=Nat.le_of_ble_eq_true P9;obtain ⟨⟨gj,l6⟩,h⟩:=h;obtain ⟨b',h,ho,dS⟩:=A3 h;have bo:n0+(id - n0)=id:=by omega
    refine ⟨_,_,_,h,(fun i hi=>by cases hi; rw [bo]; exact ⟨b,hb,(ai.cY ho).1⟩),fun ν a w ty vH Au hH hn=>?_⟩
    have hx:=vE ν a vH;obtain ⟨oy,cy,L,kH,kI,hC,j6⟩:=hs ν w _ hH (Ak ν a Au);have hL:L.length=s.m*i.size:=by rw [gJ]; exact hC.len
    have qQ:s.kv=true→∀ r,r < s.m→∀ v∈s.get r,cH v=true:=fun h r hr v hv=>xZ h r hr ν w hH v hv
    obtain ⟨l,hl,hB⟩:=hH.aI id b hb;rw [← dv] at hC jB;have aJ:id≠aK:=fun e=>by rw [e,hn] at hl; cases hl
    have hold:(some (id - n0)).bind (fun i=>ν (n0+i))=some l:=by
     show ν (n0+(id - n0))=some l
     rw [bo]; exact hl
    rw [hold];have I6:∃ A c',a.eval x=.slice (some A) n c'∧n≤c'∧((A=l.at 0 0∧c'≤l.cap)∨(n=0∧c'=0)):=by
     rcases hx.ub with ⟨l',c',cE,h1,J,h3,e⟩ | ⟨h1,J,bb,e⟩
     ·rw [hl] at cE; cases cE;exact ⟨_,c',e,J,.inl ⟨rfl,by omega⟩⟩
     ·exact ⟨bb,0,by rw [e,h1],by omega,.inr ⟨h1,rfl⟩⟩
    obtain ⟨A,c',cA,fo,hA⟩:=I6;have hO:∃ O,CR ν b.ae b.row n O∧∀ (j:Nat) u,O[j]?=some u→w.cell? (A.add j)=some u:=by
     rcases hA with ⟨rfl,_⟩ | ⟨h0,_⟩
     ·obtain ⟨O,h1,J⟩:=CR.G3 hB (row:=0) (m:=n) (by omega)
      exact ⟨O,h1.congr (fun r hr=>by simp),J⟩
     ·subst h0;exact ⟨[],CR.nil _ _ _,fun j u hu=>by simp at hu⟩
    obtain ⟨O,hO,re⟩:=hO;have tb:b.o7=true→∀ r,r < b.n→∀ v∈b.row r,cH v=true:=fun h r hr v hv=>by
     cases b with
     | flat o n e g=>exact hB.plain rfl r hr v hv
     | aS o e rows =>
      have h:rows.all jM=true:=h;have hr:r < rows.length:=hr;have hv:v∈rows.getD r []:=hv;rw [List.getD_eq_getElem?_getD,List.getElem?_eq_getElem hr] at hv;exact yi (List.all_eq_true.1 h _ (List.getElem_mem hr)) v hv
     | cj r=>cases h
    have mI:(b.o7 && s.kv)=true→(∀ r,r < b.n→∀ v∈b.row r,cH v=true)∧∀ r,r < s.m→∀ v∈s.get r,cH v=true:=fun h=>by
     rw [Bool.and_eq_true] at h; exact ⟨tb h.1,qQ h.2⟩
    by_cases cQ:n+s.m≤c'
    ·-- in its place
     obtain ⟨cur,tt,jY,bm,acy⟩:=hB.own (ai.cY ho).1 (ai.cY ho).2;have hle:=Nu.ki (l:=l) hn;rcases hA with ⟨rfl,gg⟩ | ⟨h0,ot⟩
     ·obtain ⟨h1,J⟩:=hB.extend (P:=P) ho (Nat.le_refl _) hC dS mI (by omega)
      refine ⟨_,w.setCells l.aI (l.base+b.n*l.ae) L,ν.add aK l,?_,⟨hle,fun j hj=>Nu.jb hj,.slice _ _ _ _ _ l Nu.add_same (.inr rfl) cQ (by omega),.inr ⟨l,rfl,⟨cur,tt,jY⟩,fun q hq=>rK _ _ _ _ _ hq,by rw [oJ]; exact Nat.le_refl _,(wa _ _ _ _).1,(wa _ _ _ _).2.1,(wa _ _ _ _).2.2⟩,(fun h=>by cases h),fun b2 c4=>by cases c4; exact ⟨l,Nu.add_same,J.mono hle,.inr ⟨l,rfl,rfl⟩⟩⟩⟩
      rw [cA,kH];refine rN (P:=P) hu iQ hL j6 kI cQ (fun A' tc=>?_) (fun h=>by cases h)
      cases tc;have:(l.at 0 0).add (n*i.size)=l.at b.n 0:=by
       rw [Loc.jO]; unfold Loc.at; congr 1;rw [hB.ae,gJ,dv,gj]; omega
      rw [this]; exact h1
     ·have kG:s.m=0:=by omega
      have x0:L=[]:=List.eq_nil_of_length_eq_zero (by rw [hL,kG]; simp)
      refine ⟨.slice (some A) (n+s.m) c',w,ν.add aK l,?_,⟨hle,fun j hj=>Nu.jb hj,?_,.inl (Below.refl _ _),(fun h=>by cases h),fun b2 c4=>by
       cases c4;have vI:b'.n=b.n:=by rw [dS.num,kG]; rfl
       have a8:∀ r,r < b.n→b'.row r=b.row r:=fun r hr=>by rw [dS.row r (by omega),jo hr]
       refine ⟨l,Nu.add_same,bQ.mono hle ⟨by rw [dS.ae]; exact hB.ae,fun r hr=>by rw [vI] at hr; rw [a8 r hr,dS.ae]; exact hB.len r hr,
        fun r hr j v hv=>by rw [vI] at hr; rw [a8 r hr] at hv; exact hB.cell r hr j v hv,
        fun h r hr v hv=>by rw [vI] at hr; rw [a8 r hr] at hv; exact (mI (dS.flat h)).1 r hr v hv,
        fun r hr v hv=>by rw [vI] at hr; rw [a8 r hr] at hv; exact hB.one r hr v hv,
        fun _ _=>⟨cur,tt,jY,bm,by rw [vI]; exact acy⟩,(fun r h=>by rw [(ai.cY dS.own).2] at h; cases h),hB.live⟩,.inr ⟨l,rfl,rfl⟩⟩⟩⟩
      ·rw [cA,kH];exact rN (P:=P) hu iQ hL j6 kI cQ (fun A' tc=>by rw [x0]; rfl) (fun h=>by cases h)
      ·subst ot;rw [show n+s.m=0 by omega]
       exact .void _ _ _ _ (.inr rfl)
    ·have bE:(Builtin.append_ #[t,t] ty #[a.eval x,a.eval y]).run P w=.ok (.slice (some ⟨w.heap.size,0,none⟩) (n+s.m) (grownCap w (n+s.m) c' e)) (w.drew.alloc (ud (O++L).toArray z (grownCap w (n+s.m) c' e - (n+s.m)) e)):=by
      rw [cA,kH];exact A2 (P:=P) (w:=w) (ty:=ty) hu iQ hz (by rw [hO.len,gJ,dv]) (fun a ha=>by cases ha; exact re) (fun h=>by cases h) hL j6 kI fo (by omega) (by rw [ny]; exact l6) (small _ l6)
     have kY:=Nu.ki (l:=⟨w.heap.size,0,b.ae,grownCap w (n+s.m) c' e⟩) hn;have Ic:Ext b' b.ae b.row n s.get s.m (b.o7 && s.kv):=by rw [gj]; exact dS
     have iG:=wh (hO.mono kY) (hC.mono kY) Ic (fun h=>⟨fun r hr v hv=>(mI h).1 r (by omega) v hv,(mI h).2⟩) (w:=w) jB (iT:=c') (e:=e)
     have eH:=grownCap_ge w (n+s.m) c' e;have cC:ar (ν.add aK ⟨w.heap.size,0,b.ae,grownCap w (n+s.m) c' e⟩) (.slice (some ⟨aK,0,none⟩) (n+s.m) aO) (.slice (some ⟨w.heap.size,0,none⟩) (n+s.m) (grownCap w (n+s.m) c' e)):=by
      have:=ar.slice (ν:=ν.add aK ⟨w.heap.size,0,b.ae,grownCap w (n+s.m) c' e⟩) aK 0 (n+s.m) aO (grownCap w (n+s.m) c' e) _ Nu.add_same (.inr rfl) eH (by simp)
      simpa [Loc.at] using this
     have hq:=mY hn iG (wb w _ _ _ _) (Nat.le_refl _) cC;exact ⟨_,_,_,bE,hq.e _⟩
   ·exact h.elim
  ·exact J.elim
 ·exact J.elim
end
end Go.Ae
