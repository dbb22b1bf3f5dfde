import Derived.RangeFuncLeaves
import Derived.RangeFuncRecord
import Derived.KernelRfl
import Derived.Test.YtlapbjdhekcipaaGreatVA
set_option linter.unusedVariables false
set_option linter.unusedSimpArgs false
namespace Go.Ae
open Go Go.RowKit
def oY (ae:Nat):Src→ah
 | .fl m g=>.flat true m ae g
 | .ex L=>.aL true ae L
def ah.pf:ah→Bool
 | .flat _ _ _ _=>true
 | .aL _ _ rows=>rows.all jP
 | .b9 _=>false
def wJ (b:ah) (s:Src) (k:ah→Prop):Prop :=
 match b,s with
 | .flat true n ae get,.fl m news=>k (.flat true (n+m) ae (iD get n news))
 | .aL true ae rows,.ex L=>sN rows L fun l=>k (.aL true ae l)
 | .aL true ae rows,.fl m news=>match Nat.ble 2 ae && rows.all jP with
  | true=>k (.flat true (rows.length+m) ae (iD (fun j=>rows.getD j []) rows.length news))
  | false=>xm news 0 m fun L=>sN rows L fun l=>k (.aL true ae l)
 | _,_=>False
def Cm (b:ah) (row n:Nat) (s:Src) (k:ah→Prop):Prop :=
 match b,s with
 | .flat _ _ ae get,.fl m news=>k (.flat true (n+m) ae (iD (fun j=>get (eX row j)) n news))
 | .aL _ ae rows,.ex L=>sA rows row n fun L0=>sN L0 L fun l=>k (.aL true ae l)
 | .aL _ ae rows,.fl m news=>match Nat.ble 2 ae && rows.all jP with
  | true=>k (.flat true (n+m) ae (iD (fun j=>rows.getD (eX row j) []) n news))
  | false=>sA rows row n fun L0=>xm news 0 m fun L=>sN L0 L fun l=>k (.aL true ae l)
 | _,_=>False
structure Ext (b':ah) (ae:Nat) (g:Nat→List Value) (n:Nat) (h:Nat→List Value) (m:Nat) (fl:Bool):Prop where
 own:b'.n7=true
 ae:b'.ae=ae
 num:b'.n=n+m
 row:∀ r,r < n+m→b'.row r=iD g n h r
 flat:b'.jR=true→fl=true
theorem QR {l m:List (List Value)} {r:Nat} (h:r < l.length):(l++m).getD r []=l.getD r []:=by
 simp [List.getD,List.getElem?_append_left h]
theorem QS {l m:List (List Value)} {r:Nat} (h:l.length≤r):(l++m).getD r []=m.getD (r - l.length) []:=by
 simp [List.getD,List.getElem?_append_right h]
theorem Bl {ae:Nat} {L0 L:List (List Value)} {g h:Nat→List Value} {n m:Nat} (h0:L0.length=n) (h1:L.length=m) (hg:∀ r,r < n→L0.getD r []=g r) (hh:∀ r,r < m→L.getD r []=h r) (fl:Bool) :
  Ext (.aL true ae (L0++L)) ae g n h m fl:=by
 refine ⟨rfl,rfl,by simp [ah.n,h0,h1],fun r hr=>?_,fun h=>by simp [ah.jR] at h⟩
 show (L0++L).getD r []=_
 by_cases ak:r < n
 ·rw [QR (by omega),jh ak,hg r ak]
 ·rw [QS (by omega),gr (by omega),h0,hh _ (by omega)]
theorem AG {b:ah} {s:Src} {k:ah→Prop} (h:wJ b s k):∃ b',k b'∧b.n7=true∧Ext b' b.ae b.row b.n s.get s.m (b.pf && s.kA):=by
 cases b with
 | flat o n e g =>
  cases o with
  | false=>cases s <;> exact h.elim
  | true =>
   cases s with
   | fl m news=>exact ⟨_,h,rfl,rfl,rfl,rfl,fun r _=>rfl,fun _=>rfl⟩
   | ex L=>exact h.elim
 | aL o e rows =>
  cases o with
  | false=>cases s <;> exact h.elim
  | true =>
   cases s with
   | fl m news =>
    have h:match Nat.ble 2 e && rows.all jP with
     | true=>k (.flat true (rows.length+m) e (iD (fun j=>rows.getD j []) rows.length news))
     | false=>xm news 0 m fun L=>sN rows L fun l=>k (.aL true e l):=h
    split at h
    ·rename_i hs;rw [Bool.and_eq_true] at hs;exact ⟨_,h,rfl,rfl,rfl,rfl,fun r _=>rfl,fun _=>by show (rows.all jP && true)=true; rw [hs.2]; rfl⟩
    obtain ⟨L,h,h1,J⟩:=Ev h;have h:=yi h;exact ⟨_,h,rfl,Bl rfl h1 (fun _ _=>rfl) (fun r hr=>by rw [J r hr]; simp [Src.get]) _⟩
   | ex L =>
    have h:=yi h;exact ⟨_,h,rfl,Bl rfl rfl (fun _ _=>rfl) (fun r hr=>rfl) _⟩
 | b9 r=>cases s <;> exact h.elim
theorem KG {b:ah} {row n:Nat} {s:Src} {k:ah→Prop} (h:Cm b row n s k):∃ b',k b'∧Ext b' b.ae (fun j=>b.row (row+j)) n s.get s.m (b.pf && s.kA):=by
 cases b with
 | flat o N e g =>
  cases s with
  | fl m news=>exact ⟨_,h,rfl,rfl,rfl,fun r hr=>by simp [ah.row,ax,Src.get,Src.m],fun _=>rfl⟩
  | ex L=>exact h.elim
 | aL o e rows =>
  have aX:∀ (L0:List (List Value)),(L0.length=n∧row+n≤rows.length)→(∀ (j:Nat) v,L0[j]?=some v→rows[row+j]?=some v)→∀ r,r < n→L0.getD r []=(ah.aL o e rows).row (row+r):=by
   intro L0 h0 h1 r hr;have ak:r < L0.length:=by omega
   have:=h1 r _ (List.getElem?_eq_getElem ak);simp [ah.row,List.getD,this,List.getElem?_eq_getElem ak]
  cases s with
  | fl m news =>
   have h:match Nat.ble 2 e && rows.all jP with
    | true=>k (.flat true (n+m) e (iD (fun j=>rows.getD (eX row j) []) n news))
    | false=>sA rows row n fun L0=>xm news 0 m fun L=>sN L0 L fun l=>k (.aL true e l):=h
   split at h
   ·rename_i hs;rw [Bool.and_eq_true] at hs;exact ⟨_,h,rfl,rfl,rfl,fun r hr=>by simp [ah.row,ax,Src.get,Src.m],fun _=>by show (rows.all jP && true)=true; rw [hs.2]; rfl⟩
   obtain ⟨L0,h,h0,h3⟩:=yd h;obtain ⟨L,h,h1,J⟩:=Ev h;have h:=yi h;exact ⟨_,h,Bl h0.1 h1 (aX L0 h0 h3) (fun r hr=>by rw [J r hr]; simp [Src.get]) _⟩
  | ex L =>
   obtain ⟨L0,h,h0,h3⟩:=yd h;have h:=yi h;exact ⟨_,h,Bl h0.1 rfl (aX L0 h0 h3) (fun r hr=>rfl) _⟩
 | b9 r=>cases s <;> exact h.elim
def jQ (g:Nat→List Value) (q:Nat) (h:Nat→List Value) (m:Nat):Nat→List Value:=fun j=>bif Nat.blt j q then g j else bif Nat.blt j (q+m) then h (j - q) else g j
theorem G1 {a b:Nat} (h:b≤a):Nat.blt a b=false:=by
 cases e:Nat.blt a b with
 | false=>rfl
 | true=>rw [Nat.blt_eq] at e; omega
theorem R1 {g h:Nat→List Value} {q m j:Nat} (hj:j < q):jQ g q h m j=g j:=by
 have:Nat.blt j q=true:=by rw [Nat.blt_eq]; exact hj
 simp [jQ,this]
theorem R4 {g h:Nat→List Value} {q m j:Nat} (h1:q≤j) (J:j < q+m):jQ g q h m j=h (j - q):=by
 have:Nat.blt j (q+m)=true:=by rw [Nat.blt_eq]; exact J
 simp [jQ,this,G1 h1]
theorem R5 {g h:Nat→List Value} {q m j:Nat} (hj:q+m≤j):jQ g q h m j=g j:=by
 simp [jQ,G1 hj,G1 (show q≤j by omega)]
def FZ (E:Env) (tmps:List Value) (H:aw) (t:TypeId) (xv yv:Value) (k:Value→List Value→aw→Prop):Prop :=
 cJ E.tt t fun ti=>match ti.kind with
  | .slice e=>cJ E.tt e fun te=>zl H te.size yv fun s=>match xv with
   | .slice none 0 0=>match s.m with
    | 0=>k (.slice none 0 0) tmps H
    | m+1=>((m+1)*te.bytes≤140737488355328)∧jw H fun aE=>o8 H (some (oY te.size s)) fun H'=>k (.slice (some ⟨aE,0,none⟩) (m+1) aK) tmps H'
   | .slice (some ⟨id,row,none⟩) n c=>gG H id fun b=>match Nat.beq b.ae te.size with
    | true=>match decide (c=aK) with
     | false=>br (Nat.ble (n+s.m) c)
      (row+n=b.n∧wJ b s fun b'=>jv H id (some b') fun H'=>k (.slice (some ⟨id,row,none⟩) (n+s.m) c) tmps H')
      ((row+n≤b.n∧(n+s.m)*te.bytes≤140737488355328)∧Cm b row n s fun b'=>jw H fun aE=>o8 H (some b') fun H'=>k (.slice (some ⟨aE,0,none⟩) (n+s.m) aK) tmps H')
     | true=>match E.ig with
      | true=>match row with
       | 0=>(E.base≤id∧(n≤b.n∧b.n7=true)∧(n+s.m)*te.bytes≤140737488355328)∧Cm b 0 n s fun b1=>yZ id b1 fun b'=>∃ aa,∀ a:Nat→Value,uA a id aa 0 tmps fun y5=>xl id H fun H1=>jv H1 id (some b') fun H'=>k (.slice (some ⟨id,0,none⟩) (n+s.m) aK) y5 H'
       | _=>False
      | false=>match Nat.ble E.base id with
       | true=>match row with
        | 0=>(E.base≤id∧n=b.n∧(n+s.m)*te.bytes≤140737488355328)∧wJ b s fun b1=>yZ id b1 fun b'=>∃ aa,∀ a:Nat→Value,uA a id aa 0 tmps fun y5=>xl id H fun H1=>jv H1 id (some b') fun H'=>k (.slice (some ⟨id,0,none⟩) (n+s.m) aK) y5 H'
        | _=>False
       | false=>match row with
        | 0=>(n=b.n∧(n+s.m)*te.bytes≤140737488355328)∧wJ b s fun b'=>jv H id none fun H1=>jw H1 fun aE=>o8 H1 (some b') fun H'=>k (.slice (some ⟨aE,0,none⟩) (n+s.m) aK) tmps H'
        | _=>False
    | false=>False
   | .slice (some ⟨id,row,some b0⟩) n c=>gG H id fun b=>match Nat.beq b.ae te.size with
    | true=>match b,s with
     | .flat true N ae get,.fl m news=>(n+m≤b0∧row+(n+m)≤N)∧jv H id (some (.flat true N ae (jQ get (eX row n) news m))) fun H'=>k (.slice (some ⟨id,row,some b0⟩) (n+m) c) tmps H'
     | _,_=>False
    | false=>False
   | _=>False
  | _=>False
def NG (E:Env) (tmps:List Value) (H:aw) (t:TypeId) (x:Operand) (k:aw→Prop):Prop :=
 bT tmps x fun xv=>cJ E.tt t fun ti=>match ti.kind with
  | .slice e=>cJ E.tt e fun te=>match xv with
   | .slice (some ⟨id,row,_⟩) n _=>gG H id fun b=>match Nat.beq b.ae te.size with
    | true=>match b with
     | .flat true N ae get=>(row+n≤N∧mF te.zero=true)∧jv H id (some (.flat true N ae (jQ get row (fun _=>te.zero) n))) k
     | _=>False
    | false=>False
   | _=>False
  | _=>False
def F0 (E:Env) (H:aw) (t:TypeId) (xv yv:Value) (k:Value→aw→Prop):Prop :=
 cJ E.tt t fun ti=>match ti.kind with
  | .slice e=>cJ E.tt e fun te=>zl H te.size yv fun s=>match s,xv with
   | .fl m news,.slice (some ⟨id,row,_⟩) n _=>gG H id fun b=>match Nat.beq b.ae te.size with
    | true=>match b with
     | .flat true N ae get=>row+n≤N∧jv H id (some (.flat true N ae (jQ get row news (Nat.min m n)))) fun H'=>k (.int .i64 (Nat.min m n)) H'
     | _=>False
    | false=>False
   | _,_=>False
  | _=>False
def MY (E:Env) (tmps:List Value) (H:aw) (t:TypeId) (x y:Operand) (k:Value→List Value→aw→Prop):Prop :=
 bT tmps x fun xv=>bT tmps y fun yv=>FZ E tmps H t xv yv k
def Bm:Value→Bool
 | .slice (some _) _ c=>!decide (c=aK)
 | _=>true
section
variable {P:Program} {E:Env} {F:Fr}
theorem DS (z:Array Value) (n:Nat):(Builtin.zeroCells z n).size=n*z.size:=by simp [Builtin.zeroCells]
theorem Ry {O L:List Value} {z:Value} {k q:Nat} (hq:q < (O++L).length):((O++L).toArray++Builtin.zeroCells z.cells k)[q]?=(O++L)[q]?:=by
 rw [Array.getElem?_append_left (by simpa using hq)]
 simp
theorem bP.extend {ν:Nu} {l:Loc} {b b':ah} {w:World} (hB:bP ν l b w) (ho:b.n7=true) {n m:Nat} (dw:n≤b.n) {news:Nat→List Value} {L:List Value} {fl:Bool}
  (hC:CR ν b.ae news m L) (hx:Ext b' b.ae b.row n news m fl) (sZ:fl=true→(∀ r,r < b.n→∀ v∈b.row r,cG v=true)∧∀ r,r < m→∀ v∈news r,cG v=true) (fM:n+m≤l.cap) :
  (storeCells (l.at n 0) L).run P w=.ok () (w.setCells l.aG (l.base+n*l.ae) L)∧bP ν l b' (w.setCells l.aG (l.base+n*l.ae) L):=by
 obtain ⟨cur,t,j5,aU,_⟩:=hB.own (ah.cU ho).1 (ah.cU ho).2;have he:=hB.ae;have xE:l.base+n*l.ae+L.length≤cur.size:=by
  rw [hC.len,he];have:(n+m)*b.ae≤l.cap*b.ae:=Nat.mul_le_mul_right _ fM;rw [Nat.add_mul] at this;rw [he] at aU;omega
 have sB:∀ j,j < L.length→(w.cell? ⟨l.aG,l.base+n*l.ae+j,none⟩).isSome=true:=by
  intro j hj;simp only [World.cell?];rw [j5];simp;omega
 refine ⟨?_,?_⟩
 ·have:=run_storeCells_cells (P:=P) l.aG (l.base+n*l.ae) L 0 w (by simpa using sB) (fun j hj=>by simp [World.frozen?,j5]) hC.one
  simpa [Loc.at] using this
 ·obtain ⟨pr,J,h3⟩:=AB l.aG L (l.base+n*l.ae) w cur t j5;refine ⟨by rw [hx.ae]; exact he,fun r hr=>?_,fun r hr j v hv=>?_,fun h r hr v hv=>?_,fun r hr v hv=>?_,fun _ _=>⟨pr,t,J,by rw [h3]; exact aU,by rw [hx.num]; exact fM⟩,(fun r h=>by rw [(ah.cU hx.own).2] at h; cases h),by rw [oM]; exact hB.live⟩
  ·rw [hx.num] at hr;rw [hx.row r hr,hx.ae];by_cases h:r < n
   ·rw [jh h]; exact hB.len r (by omega)
   ·rw [gr (by omega)]; exact hC.row _ (by omega)
  ·rw [hx.num] at hr;rw [hx.row r hr] at hv;by_cases h:r < n
   ·rw [jh h] at hv;obtain ⟨v',h4,h5⟩:=hB.cell r (by omega) j v hv
    have hj:j < b.ae:=by rw [← hB.len r (by omega)]; exact (List.getElem?_eq_some_iff.1 hv).1
    refine ⟨v',?_,h5⟩;rw [World.cell?_setCells_out l.aG _ _ _ _ (fun _ _=>?_)]
    ·exact h4
    ·left
     simp only [Loc.at,he];have:(r+1)*b.ae≤n*b.ae:=Nat.mul_le_mul_right _ h;rw [Nat.add_mul] at this; omega
   ·rw [gr (by omega)] at hv
    obtain ⟨v',h4,h5⟩:=hC.cell (r - n) (by omega) j v hv
    have ak:=(List.getElem?_eq_some_iff.1 h4).1;refine ⟨v',?_,h5⟩;have:=World.cell?_setCells_in l.aG L (l.base+n*l.ae) w sB _ ak;have e:l.at r j=⟨l.aG,l.base+n*l.ae+((r - n)*b.ae+j),none⟩:=by
     unfold Loc.at
     congr 1
     rw [he];have:r*b.ae=n*b.ae+(r - n)*b.ae:=by rw [← Nat.add_mul]; congr 1; omega
     omega
    rw [e,this,← h4,List.getElem?_eq_getElem ak]
  ·rw [hx.num] at hr;rw [hx.row r hr] at hv;obtain ⟨h6,h7⟩:=sZ (hx.flat h);by_cases h:r < n
   ·rw [jh h] at hv; exact h6 r (by omega) v hv
   ·rw [gr (by omega)] at hv; exact h7 _ (by omega) v hv
  ·rw [hx.num] at hr;rw [hx.row r hr] at hv;by_cases h:r < n
   ·rw [jh h] at hv; exact hB.one r (by omega) v hv
   ·rw [gr (by omega)] at hv; exact hC.sM _ (by omega) v hv
theorem Kept.setCells {O:Nat→Prop} {W w:World} (h:Kept O W w) {b:Nat} (hb:O b∨W.heap.size≤b) (o:Nat) (L:List Value):Kept O W (w.setCells b o L):=by
 obtain ⟨o1,o2,o3⟩:=vT b L o w;refine ⟨o1.trans h.os,o2.trans h.tape,o3.trans h.output,by rw [oM]; exact h.size,fun q h1 J=>?_⟩
 rw [rH]
 ·exact h.aG q h1 J
 ·intro e;subst e;rcases hb with h' | h'
  ·exact J h'
  ·omega
theorem vZ {ν:Nu} {ae n m:Nat} {g h:Nat→List Value} {O L:List Value} {b':ah} {fl:Bool} (hO:CR ν ae g n O) (hC:CR ν ae h m L) (hx:Ext b' ae g n h m fl)
  (sZ:fl=true→(∀ r,r < n→∀ v∈g r,cG v=true)∧∀ r,r < m→∀ v∈h r,cG v=true) {w:World} {z:Value} (hz:z.cells.size=ae) {iI:Nat} {e:TypeId} :
  bP ν ⟨w.heap.size,0,ae,grownCap w (n+m) iI e⟩ b' (w.drew.alloc (tQ (O++L).toArray z (grownCap w (n+m) iI e - (n+m)) e)):=by
 have dZ:=grownCap_ge w (n+m) iI e;have PD:=hO.append hC;refine V7 PD hx.row hx.num hx.ae (fun hf r hr v hv=>?_) (C:=(O++L).toArray++Builtin.zeroCells z.cells (grownCap w (n+m) iI e - (n+m))) (t:=e) ?_ (fun q hq=>Ry hq) dZ ?_ (ah.cU hx.own).2
 ·obtain ⟨h1,J⟩:=sZ (hx.flat hf);by_cases h:r < n
  ·rw [jh h] at hv; exact h1 r h v hv
  ·rw [gr (by omega)] at hv; exact J _ (by omega) v hv
 ·show (w.heap.push _)[w.heap.size]?=_
  simp [tQ]
 ·rw [Array.size_append,DS,hz];simp only [List.size_toArray];rw [PD.len,← Nat.add_mul];apply Nat.le_of_eq
  congr 1
  omega
theorem vU (w:World) (C:Array Value) (z:Value) (k:Nat) (e:TypeId):Below w.heap.size w (w.drew.alloc (tQ C z k e)):=((Below.refl _ w).drew).alloc (Nat.le_refl _) _
theorem bP.ig {ν:Nu} {l:Loc} {N ae:Nat} {get:Nat→List Value} {w:World} (hB:bP ν l (.flat true N ae get) w) {q m:Nat} (hq:q+m≤N) {news:Nat→List Value} {L:List Value}
  (hC:CR ν ae news m L) (hs:∀ r,r < m→∀ v∈news r,cG v=true) :
  (storeCells (l.at q 0) L).run P w=.ok () (w.setCells l.aG (l.base+q*l.ae) L)∧bP ν l (.flat true N ae (jQ get q news m)) (w.setCells l.aG (l.base+q*l.ae) L):=by
 obtain ⟨cur,t,j5,aU,fM⟩:=hB.own rfl rfl;have fM:N≤l.cap:=fM;have he:l.ae=ae:=hB.ae;have xE:l.base+q*l.ae+L.length≤cur.size:=by
  rw [hC.len,he];have:(q+m)*ae≤l.cap*ae:=Nat.mul_le_mul_right _ (by omega)
  rw [Nat.add_mul] at this;rw [he] at aU;omega
 have sB:∀ j,j < L.length→(w.cell? ⟨l.aG,l.base+q*l.ae+j,none⟩).isSome=true:=by
  intro j hj;simp only [World.cell?];rw [j5];simp;omega
 refine ⟨?_,?_⟩
 ·have:=run_storeCells_cells (P:=P) l.aG (l.base+q*l.ae) L 0 w (by simpa using sB) (fun j hj=>by simp [World.frozen?,j5]) hC.one
  simpa [Loc.at] using this
 ·obtain ⟨pr,J,h3⟩:=AB l.aG L (l.base+q*l.ae) w cur t j5;have rows:∀ r,r < N→(jQ get q news m r=get r∧(r < q∨q+m≤r))∨(jQ get q news m r=news (r - q)∧q≤r∧r < q+m):=fun r _=>by
   by_cases h:r < q
   ·exact .inl ⟨R1 h,.inl h⟩
   ·by_cases h':r < q+m
    ·exact .inr ⟨R4 (by omega) h',by omega,h'⟩
    ·exact .inl ⟨R5 (by omega),.inr (by omega)⟩
  refine ⟨he,fun r hr=>?_,fun r hr j v hv=>?_,fun _ r hr v hv=>?_,fun r hr v hv=>?_,fun _ _=>⟨pr,t,J,by rw [h3]; exact aU,fM⟩,(fun r h=>by cases h),by rw [oM]; exact hB.live⟩
  ·have hr:r < N:=hr;show (jQ get q news m r).length=ae
   rcases rows r hr with ⟨e,_⟩ | ⟨e,h1,J⟩
   ·rw [e]; exact hB.len r hr
   ·rw [e]; exact hC.row _ (by omega)
  ·have hr:r < N:=hr;have hv:(jQ get q news m r)[j]?=some v:=hv;rcases rows r hr with ⟨e,h1⟩ | ⟨e,h1,J⟩
   ·rw [e] at hv;obtain ⟨v',h4,h5⟩:=hB.cell r hr j v hv;have hj:j < ae:=by have e':(get r).length=ae:=hB.len r hr; rw [← e']; exact (List.getElem?_eq_some_iff.1 hv).1
    refine ⟨v',?_,h5⟩;rw [World.cell?_setCells_out l.aG _ _ _ _ (fun _ _=>?_)]
    ·exact h4
    ·rcases h1 with h | h
     ·left
      simp only [Loc.at,he];have:(r+1)*ae≤q*ae:=Nat.mul_le_mul_right _ h;rw [Nat.add_mul] at this; omega
     ·right
      simp only [Loc.at,he,hC.len];have:(q+m)*ae≤r*ae:=Nat.mul_le_mul_right _ h;rw [Nat.add_mul] at this; omega
   ·rw [e] at hv;obtain ⟨v',h4,h5⟩:=hC.cell (r - q) (by omega) j v hv
    have ak:=(List.getElem?_eq_some_iff.1 h4).1;refine ⟨v',?_,h5⟩;have:=World.cell?_setCells_in l.aG L (l.base+q*l.ae) w sB _ ak;have e:l.at r j=⟨l.aG,l.base+q*l.ae+((r - q)*ae+j),none⟩:=by
     unfold Loc.at
     congr 1
     rw [he];have:r*ae=q*ae+(r - q)*ae:=by rw [← Nat.add_mul]; congr 1; omega
     omega
    rw [e,this,← h4,List.getElem?_eq_getElem ak]
  ·have hr:r < N:=hr;have hv:v∈jQ get q news m r:=hv;rcases rows r hr with ⟨e,_⟩ | ⟨e,h1,J⟩
   ·rw [e] at hv; exact hB.plain rfl r hr v hv
   ·rw [e] at hv; exact hs _ (by omega) v hv
  ·have hr:r < N:=hr;have hv:v∈jQ get q news m r:=hv;rcases rows r hr with ⟨e,_⟩ | ⟨e,h1,J⟩
   ·rw [e] at hv; exact hB.one r hr v hv
   ·rw [e] at hv; exact hC.sM _ (by omega) v hv
theorem bw.ig {ν:Nu} {tmps:List Value} {H:aw} {a:Act} {w:World} (hi:bw F ν tmps H a w) {id N ae:Nat} {get:Nat→List Value} (hb:H[id]?=some (some (.flat true N ae get))) {l:Loc} (hl:ν id=some l)
  {q m:Nat} (hq:q+m≤N) {news:Nat→List Value} {L:List Value} (hC:CR ν ae news m L) (hs:∀ r,r < m→∀ v∈news r,cG v=true) :
  (storeCells (l.at q 0) L).run P w=.ok () (w.setCells l.aG (l.base+q*l.ae) L)∧bw F ν tmps (H.set id (some (.flat true N ae (jQ get q news m)))) a (w.setCells l.aG (l.base+q*l.ae) L):=by
 obtain ⟨l0,eG,hB⟩:=hi.hp.aG id _ hb;rw [hl] at eG; cases eG;obtain ⟨h1,iu⟩:=hB.ig (P:=P) hq hC hs;have ak:id < H.length:=(List.getElem?_eq_some_iff.1 hb).1;have n9:∀ q',q'≠l.aG→(w.setCells l.aG (l.base+q*l.ae) L).heap[q']?=w.heap[q']?:=fun q' Iq=>rH _ _ _ _ _ Iq
 have pJ:w.heap.size≤(w.setCells l.aG (l.base+q*l.ae) L).heap.size:=by rw [oM]; exact Nat.le_refl _
 refine ⟨h1,hi.tm,(let ⟨_,_,uC,_⟩:=hB.own rfl rfl; hi.df.gx uC n9),?_,fun j hj=>hi.fr j (by simpa using hj),hi.kp.setCells (hi.own id _ l hb rfl hl) _ _,fun j bj lj hj om cY=>?_,hi.mono⟩
 ·refine hi.hp.gx (id:=id) (fun _ _=>rfl) (fun j bj hj aH=>?_) (fun bj hj=>?_)
  ·rw [List.getElem?_set_ne (Ne.symm aH)] at hj;refine ⟨bj,hj,rfl,fun lj cY q9=>q9.same (n9 _ ?_) pJ⟩
   exact Ne.symm (hi.hp.sep id j _ bj l lj hb hj (Ne.symm aH) rfl hl cY)
  ·rw [List.getElem?_set_self ak] at hj;cases hj;exact ⟨l,hl,iu,fun j lj bj aH hj cY=>Ne.symm (hi.hp.sep id j _ bj l lj hb hj (Ne.symm aH) rfl hl cY)⟩
 ·by_cases e':j=id
  ·subst e'; rw [hl] at cY; cases cY; exact hi.own j _ l hb rfl hl
  ·rw [List.getElem?_set_ne (Ne.symm e')] at hj; exact hi.own j bj lj hj om cY
theorem CR.abg {ν:Nu} {z:Value} {zs:List Value} (hz:z.cells=⟨zs⟩) (G3:bc ν zs zs) (qO:∀ v∈zs,v.oneCell'=true) (h0:0 < zs.length) (n:Nat):CR ν zs.length (fun _=>zs) n (Builtin.zeroCells z.cells n).toList:=by
 have aU:z.cells.size=zs.length:=by rw [hz]; rfl
 have lh:∀ j,j < n*zs.length→(Builtin.zeroCells z.cells n)[j]?=zs[j % zs.length]?:=fun j hj=>by
  rw [JN _ _ _ (by rw [aU]; exact hj) (by rw [aU]; exact h0),aU,hz]; simp
 refine ⟨by simp [DS,aU],fun _ _=>rfl,fun r hr j v hv=>?_,fun u hu=>?_,fun _ _ v hv=>qO v hv⟩
 ·have hj:=(List.getElem?_eq_some_iff.1 hv).1;have ak:r*zs.length+j < n*zs.length:=by
   have:(r+1)*zs.length≤n*zs.length:=Nat.mul_le_mul_right _ hr;rw [Nat.add_mul] at this; omega
  refine ⟨v,?_,G3.2 j v v hv hv⟩;rw [Array.getElem?_toList,lh _ ak,Nat.mul_comm,Nat.mul_add_mod,Nat.mod_eq_of_lt hj]; exact hv
 ·obtain ⟨j,hj,rfl⟩:=List.getElem_of_mem hu;have gk:j < n*zs.length:=by simpa [DS,aU] using hj
  have h1:=lh j gk;rw [← Array.getElem?_toList,List.getElem?_eq_getElem hj] at h1;exact qO _ (List.mem_of_getElem? h1.symm)
theorem Rz (hE:EnvOk P E) {ν:Nu} {tmps:List Value} {H:aw} {a:Act} {w:World} (hi:bw F ν tmps H a w) {t:TypeId} {x:Operand} {k:aw→Prop}
  (h:NG E tmps H t x k) (ty:TypeId):∃ H' w',k H'∧bw F ν tmps H' a w'∧(Builtin.clear_ #[t] ty #[a.eval x]).run P w=.ok (.tuple #[]) w':=by
 obtain ⟨xv,J,hx⟩:=kQ h (hi.mB x);clear h;obtain ⟨ti,ht,h⟩:=cN J;clear J;obtain ⟨d,hu,hd⟩:=(hE.ty _ _ ht).under
 split at h
 ·rename_i e hk;rw [hk] at hd;have hd:d=.slice e:=hd;subst hd;obtain ⟨te,he,J⟩:=cN h;clear h;have ba:=hE.ty _ _ he
  split at J
  ·rename_i id row sp n c;obtain ⟨b,hb,h⟩:=gB J;clear J
   split at h
   ·rename_i di;have di:b.ae=te.size:=Nat.eq_of_beq_eq_true di
    split at h
    ·rename_i N ae get _;have di:ae=te.size:=di;obtain ⟨⟨hN,cW⟩,h⟩:=h;obtain ⟨ak,h⟩:=mq h;obtain ⟨l,hl,hB⟩:=hi.hp.aG id _ hb;obtain ⟨i,iG,gy,nE,z,hz,im⟩:=ba.info;have xO:=CR.abg (ν:=ν) im (ba.self ν) ba.one (by rw [ba.len]; exact ba.bit.1) n
     rw [ba.len,← di] at xO;have hsc:∀ r,r < n→∀ v∈te.zero,cG v=true:=fun _ _ v hv=>dz cW v hv
     have xn:n=0∨(0 < n∧∃ c',a.eval x=.slice (some (l.at row 0)) n c'):=by
      rcases hx.BW with ⟨l',c',cB,_,_,e⟩ | ⟨h0,_⟩
      ·rw [hl] at cB; cases cB;rcases Nat.eq_zero_or_pos n with h | h
       ·exact .inl h
       ·exact .inr ⟨h,c',e⟩
      ·exact .inl h0
     rcases xn with h0 | ⟨lU,c',cj⟩
     ·subst h0;have:=(hi.ig (P:=P) hb hl (q:=row) (m:=0) hN (CR.nil _ _ (fun _=>te.zero)) (fun r hr=>absurd hr (by omega))).2
      refine ⟨_,w,h,this,?_⟩;have:∃ o,a.eval x=.slice o 0 0∨∃ c',a.eval x=.slice o 0 c':=by
       rcases hx.BW with ⟨l',c',_,_,_,e⟩ | ⟨_,bb,e⟩
       ·exact ⟨_,.inr ⟨_,e⟩⟩
       ·exact ⟨_,.inl e⟩
      obtain ⟨o,e | ⟨c',e⟩⟩:=this <;> rw [e] <;> cases o <;> simp [Builtin.clear_,dx hu]
     ·obtain ⟨h1,J⟩:=hi.ig (P:=P) hb hl (q:=row) hN xO hsc;refine ⟨_,_,h,J,?_⟩;obtain ⟨m,rfl⟩:∃ m,n=m+1:=⟨n - 1,by omega⟩
      rw [cj];simp [Builtin.clear_,dx hu,vR iG hz,h1]
    ·exact h.elim
   ·exact h.elim
  ·exact J.elim
 ·exact h.elim
theorem CR.pre {ν:Nu} {ae m q:Nat} {g:Nat→List Value} {L:List Value} (h:CR ν ae g m L) (hq:q≤m):CR ν ae g q (L.take (q*ae)):=by
 have hle:q*ae≤m*ae:=Nat.mul_le_mul_right _ hq;refine ⟨by rw [List.length_take,h.len]; omega,fun r hr=>h.row r (by omega),fun r hr j v hv=>?_,fun u hu=>h.one u (List.mem_of_mem_take hu),fun r hr=>h.sM r (by omega)⟩
 obtain ⟨v',h1,J⟩:=h.cell r (by omega) j v hv
 have hj:j < ae:=by rw [← h.row r (by omega)]; exact (List.getElem?_eq_some_iff.1 hv).1
 have:(r+1)*ae≤q*ae:=Nat.mul_le_mul_right _ hr;rw [Nat.add_mul] at this;exact ⟨v',by rw [List.getElem?_take_of_lt (by omega)]; exact h1,J⟩
theorem KH (hE:EnvOk P E) {ν:Nu} {tmps:List Value} {H:aw} {a:Act} {w:World} (hi:bw F ν tmps H a w) {t:TypeId} {xv yv x' y':Value} {k:Value→aw→Prop} (hx:aq ν xv x') (hy:aq ν yv y')
  (h:F0 E H t xv yv k) (t2 ty:TypeId):∃ v H' w',k v H'∧aq ν v v∧bw F ν tmps H' a w'∧(Builtin.copy_ #[t,t2] ty #[x',y']).run P w=.ok v w':=by
 obtain ⟨ti,ht,J⟩:=cN h;clear h;obtain ⟨d,hu,hd⟩:=(hE.ty _ _ ht).under
 split at J
 ·rename_i e hk;rw [hk] at hd;have hd:d=.slice e:=hd;subst hd;obtain ⟨te,he,h⟩:=cN J;clear J;have ba:=hE.ty _ _ he;obtain ⟨i,iG,gy,nE,z,hz,im⟩:=ba.info;obtain ⟨s,J,xP,hs⟩:=EP h;clear h;obtain ⟨oy,cy,L,kK,kL,hC,j8⟩:=hs ν w _ hi.hp hy;have qP:s.kA=true→∀ r,r < s.m→∀ v∈s.get r,cG v=true:=fun h r hr v hv=>xP h r hr ν w hi.hp v hv
  split at J
  ·rename_i m news id row sp n c;obtain ⟨b,hb,h⟩:=gB J;clear J
   split at h
   ·rename_i di;have di:b.ae=te.size:=Nat.eq_of_beq_eq_true di
    split at h
    ·rename_i N ae get _;have di:ae=te.size:=di;obtain ⟨hN,h⟩:=h;obtain ⟨ak,h⟩:=mq h;obtain ⟨l,hl,hB⟩:=hi.hp.aG id _ hb;have zH:CR ν te.size news m L:=hC;have OS:Nat.min m n≤m:=Nat.min_le_left _ _;have adO:Nat.min m n≤n:=Nat.min_le_right _ _;have Ir:CR ν ae news (Nat.min m n) (L.take (Nat.min m n*te.size)):=by rw [di]; exact zH.pre OS
     obtain ⟨h1,h3⟩:=hi.ig (P:=P) hb hl (q:=row) (m:=Nat.min m n) (by omega) Ir (fun r hr=>qP rfl r (by show r < m; omega))
     have zN:y'=.slice oy m cy:=kK;have hf:(Builtin.firstCells i.size (Nat.min m n) (.slice oy m cy)).run P w=.ok (L.take (Nat.min m n*te.size)).toArray w:=by
      cases oy with
      | none =>
       have kJ:m=0:=kL rfl;subst kJ;have:L=[]:=List.eq_nil_of_length_eq_zero (by rw [zH.len]; simp)
       subst this;rw [run_firstCells_none]; simp
      | some b0 =>
       refine run_firstCells_some (P:=P) w i.size (Nat.min m n) b0 m cy _ (by rw [gy]; exact (zH.pre OS).len) fun j v hv=>j8 b0 rfl j v ?_
       have:=(List.getElem?_eq_some_iff.1 hv).1;rw [List.length_take] at this;rw [List.getElem?_take_of_lt (by omega)] at hv
       exact hv
     rcases hx.BW with ⟨l',c',cB,_,_,e⟩ | ⟨h0,bb,e⟩
     ·rw [hl] at cB; cases cB;refine ⟨_,_,_,h,.int _ _,h3,?_⟩;rw [e,zN];simp [Builtin.copy_,dx hu,Builtin.lenOf,sizeOf,typeInfo,iG,hf,h1]
      rfl
     ·subst h0;have hq:Nat.min m 0=0:=Nat.min_zero m;have h4:=(hi.ig (P:=P) hb hl (q:=row) (m:=Nat.min m 0) (news:=news) (L:=[]) (by omega) (by rw [hq]; exact CR.nil _ _ _) (fun r hr=>absurd hr (by omega))).2
      refine ⟨_,_,w,h,.int _ _,h4,?_⟩;rw [e,zN];rw [hq,Nat.zero_mul,List.take_zero] at hf;cases bb <;> simp [Builtin.copy_,dx hu,Builtin.lenOf,sizeOf,typeInfo,iG,hq,hf] <;> rfl
    ·exact h.elim
   ·exact h.elim
  ·exact J.elim
 ·exact J.elim
theorem Kh (hE:EnvOk P E) (bM:lE F E) {ν:Nu} {tmps:List Value} {H:aw} {a:Act} {w:World} (hi:bw F ν tmps H a w) {t:TypeId} {xv yv x' y':Value} {k:Value→List Value→aw→Prop}
  (hx:aq ν xv x') (hy:aq ν yv y') (h:FZ E tmps H t xv yv k) (ty:TypeId) :
  ∃ v v' ai t' H' w',k v t' H'∧aq ai v v'∧bw F ai t' H' a w'∧(Builtin.append_ #[t,t] ty #[x',y']).run P w=.ok v' w'∧(Bm xv=true→ν.le ai):=by
 obtain ⟨ti,ht,J⟩:=cN h;clear h;obtain ⟨d,hu,hd⟩:=(hE.ty _ _ ht).under
 split at J
 ·rename_i e hk;rw [hk] at hd;have hd:d=.slice e:=hd;subst hd;obtain ⟨te,he,h⟩:=cN J;clear J;have ba:=hE.ty _ _ he;obtain ⟨i,iG,gy,nE,z,hz,im⟩:=ba.info;obtain ⟨s,J,xP,hs⟩:=EP h;clear h;obtain ⟨oy,cy,L,kK,kL,hC,j8⟩:=hs ν w _ hi.hp hy;have hL:L.length=s.m*i.size:=by rw [gy]; exact hC.len
  have jA:z.cells.size=te.size:=by rw [im]; simpa using ba.len
  have acR:=ba.bit;have small:∀ q,q*te.bytes≤140737488355328→q≤140737488355328:=fun q hq=>by
   have:q*1≤q*te.bytes:=Nat.mul_le_mul_left _ (by omega)
   omega
  have qP:s.kA=true→∀ r,r < s.m→∀ v∈s.get r,cG v=true:=fun h r hr v hv=>xP h r hr ν w hi.hp v hv
  split at J
  ·-- onto nil
   have hx:=hx.p7
   split at J
   ·rename_i hm;have xQ:L=[]:=List.eq_nil_of_length_eq_zero (by rw [hL,hm]; simp)
    refine ⟨_,_,ν,_,_,w,J,.ju,hi,?_,fun _=>ν.le_refl⟩
    rw [hx,kK];have:=rK (P:=P) (w:=w) (ty:=ty) hu iG (A:=none) (oy:=oy) (n:=0) (c:=0) (m:=s.m) (cy:=cy) (L:=L) hL j8 kL (by omega) (w2:=w) (fun a ha=>by cases ha) (fun _=>rfl)
    rw [hm] at this ⊢
    simpa using this
   ·rename_i m hm;obtain ⟨hB,h⟩:=J;have h:=mr h;have bB:=AF (P:=P) (w:=w) (ty:=ty) hu iG hz (A:=none) (oy:=oy) (n:=0) (c:=0) (m:=s.m) (cy:=cy) (O:=[]) (L:=L) (by simp) (fun a ha=>by cases ha) (fun _=>⟨rfl,rfl⟩) hL j8 kL (by omega) (by omega) (by rw [nE,hm]; simpa using hB) (by have:=small _ hB; omega)
    have pA:ν H.length=none:=hi.fr _ (Nat.le_refl _);have dM:Ext (oY te.size s) te.size (fun _=>[]) 0 s.get s.m s.kA:=by
     cases s with
     | fl m g=>exact ⟨rfl,rfl,by simp [oY,ah.n,Src.m],fun r hr=>by rw [gr (by omega)]; rfl,fun _=>rfl⟩
     | ex L=>exact ⟨rfl,rfl,by simp [oY,ah.n,Src.m],fun r hr=>by rw [gr (by omega)]; rfl,fun h=>by simp [oY,ah.jR] at h⟩
    have xO:=hC.mono (Nu.kl (l:=⟨w.heap.size,0,te.size,grownCap w (0+s.m) 0 e⟩) pA);have iu:=vZ (CR.nil _ te.size (fun _=>[])) xO dM (fun h=>⟨fun r hr=>absurd hr (by omega),qP h⟩) (w:=w) jA (iI:=0) (e:=e)
    have dZ:=grownCap_ge w (0+s.m) 0 e;have cm:aq (ν.add H.length ⟨w.heap.size,0,te.size,grownCap w (0+s.m) 0 e⟩) (.slice (some ⟨H.length,0,none⟩) (m+1) aK) (.slice (some ⟨w.heap.size,0,none⟩) (0+s.m) (grownCap w (0+s.m) 0 e)):=by
     have:=aq.slice (ν:=ν.add H.length ⟨w.heap.size,0,te.size,grownCap w (0+s.m) 0 e⟩) H.length 0 (0+s.m) aK (grownCap w (0+s.m) 0 e) _ Nu.add_same (.inr rfl) dZ (by simp)
     rw [show m+1=0+s.m by omega]
     simpa [Loc.at] using this
    have hq:=mY pA iu (vU w _ _ _ _) (Nat.le_refl _) cm;obtain ⟨H',h1,J⟩:=hi.quiet hq (k:=fun H'=>k _ tmps H') h
    refine ⟨_,_,_,_,_,_,h1,cm,J,?_,fun _=>Nu.kl pA⟩
    rw [hx,kK]
    simpa using bB
  ·rename_i id row n c;obtain ⟨b,hb,h⟩:=gB J;clear J;obtain ⟨l,hl,hB⟩:=hi.hp.aG id b hb
   split at h
   ·rename_i di;have di:b.ae=te.size:=Nat.eq_of_beq_eq_true di;rw [← di] at hC jA
    -- what the slice may be
    have Is:∃ A c',x'=.slice (some A) n c'∧n≤c'∧(c'=c∨c=aK)∧((A=l.at row 0∧row+c'≤l.cap)∨(n=0∧c'=0)):=by
     rcases hx.tO with ⟨l',c',cB,h1,J,h3,e⟩ | ⟨h1,J,bb,e⟩
     ·rw [hl] at cB; cases cB;exact ⟨_,c',e,J,h1,.inl ⟨rfl,h3⟩⟩
     ·exact ⟨bb,0,by rw [e,h1],by omega,J.imp (fun h=>h) (fun h=>h),.inr ⟨h1,rfl⟩⟩
    obtain ⟨A,c',cj,Dh,lF,hA⟩:=Is
    -- its cells
    have hold:row+n≤b.n→∃ O,CR ν b.ae (fun j=>b.row (row+j)) n O∧∀ (j:Nat) u,O[j]?=some u→w.cell? (A.add j)=some u:=by
     intro hle;rcases hA with ⟨rfl,_⟩ | ⟨h0,_⟩
     ·exact CR.Gy hB hle
     ·subst h0;exact ⟨[],CR.nil _ _ _,fun j u hu=>by simp at hu⟩
    have s7:b.pf=true→∀ r,r < b.n→∀ v∈b.row r,cG v=true:=fun h r hr v hv=>by
     cases b with
     | flat o n e g=>exact hB.plain rfl r hr v hv
     | aL o e rows =>
      have h:rows.all jP=true:=h;have hr:r < rows.length:=hr;have hv:v∈rows.getD r []:=hv;rw [List.getD_eq_getElem?_getD,List.getElem?_eq_getElem hr] at hv;exact x0 (List.all_eq_true.1 h _ (List.getElem_mem hr)) v hv
     | b9 r=>cases h
    have mG:(b.pf && s.kA)=true→(∀ r,r < b.n→∀ v∈b.row r,cG v=true)∧∀ r,r < s.m→∀ v∈s.get r,cG v=true:=fun h=>by
     rw [Bool.and_eq_true] at h; exact ⟨s7 h.1,qP h.2⟩
    -- in its place
    have F1:∀ b' (q:Nat),b.n7=true→Ext b' b.ae b.row q s.get s.m (b.pf && s.kA)→row+n=q→q≤b.n→n+s.m≤c'→∃ w2,(Builtin.append_ #[t,t] ty #[x',y']).run P w=.ok (.slice (some A) (n+s.m) c') w2 ∧
      bP ν l b' w2∧Kept F.O F.W w2∧w.heap.size≤w2.heap.size∧∀ q,q≠l.aG→w2.heap[q]?=w.heap[q]?:=by
     intro b' q ho dM zO re cO;rcases hA with ⟨rfl,fM⟩ | ⟨h0,oo⟩
     ·obtain ⟨h1,J⟩:=hB.extend (P:=P) ho re hC dM mG (by omega)
      refine ⟨_,?_,J,hi.kp.setCells (hi.own id b l hb (ah.cU ho).1 hl) _ _,by rw [oM]; exact Nat.le_refl _,fun q hq=>rH _ _ _ _ _ hq⟩
      rw [cj,kK];refine rK (P:=P) hu iG hL j8 kL cO (fun A' s8=>?_) (fun h=>by cases h)
      cases s8;have:(l.at row 0).add (n*i.size)=l.at q 0:=by
       rw [Loc.jS]; unfold Loc.at; congr 1;rw [hB.ae,← zO,Nat.add_mul,gy,di]; omega
      rw [this]; exact h1
     ·have kJ:s.m=0:=by omega
      have xQ:L=[]:=List.eq_nil_of_length_eq_zero (by rw [hL,kJ]; simp)
      refine ⟨w,?_,?_,hi.kp,Nat.le_refl _,fun _ _=>rfl⟩
      ·rw [cj,kK];refine rK (P:=P) hu iG hL j8 kL cO (fun A' s8=>by rw [xQ]; rfl) (fun h=>by cases h)
      ·have fR:b'.n=q:=by rw [dM.num,kJ]; rfl
       have aX:∀ r,r < q→b'.row r=b.row r:=fun r hr=>by rw [dM.row r (by omega),jh hr]
       exact ⟨by rw [dM.ae]; exact hB.ae,fun r hr=>by rw [fR] at hr; rw [aX r hr,dM.ae]; exact hB.len r (by omega),
        fun r hr j v hv=>by rw [fR] at hr; rw [aX r hr] at hv; exact hB.cell r (by omega) j v hv,
        fun h r hr v hv=>by rw [fR] at hr; rw [aX r hr] at hv; exact (mG (dM.flat h)).1 r (by omega) v hv,
        fun r hr v hv=>by rw [fR] at hr; rw [aX r hr] at hv; exact hB.one r (by omega) v hv,
        fun _ _=>by obtain ⟨cur,tt,q1,q2,q3⟩:=hB.own (ah.cU ho).1 (ah.cU ho).2; exact ⟨cur,tt,q1,q2,by rw [fR]; omega⟩,(fun r h=>by rw [(ah.cU dM.own).2] at h; cases h),hB.live⟩
    have OT:n+s.m≤c'→∀ ai,ai id=some l→aq ai (.slice (some ⟨id,row,none⟩) (n+s.m) c) (.slice (some A) (n+s.m) c'):=by
     intro cO ai cB;rcases hA with ⟨rfl,fM⟩ | ⟨h0,oo⟩
     ·exact .slice _ _ _ _ _ l cB lF cO fM
     ·have kJ:s.m=0:=by omega
      subst oo;rw [h0,kJ];exact .void _ _ _ _ lF
    have grow:(n+s.m)*te.bytes≤140737488355328→c' < n+s.m→∀ O,O.length=n*i.size→(∀ (j:Nat) u,O[j]?=some u→w.cell? (A.add j)=some u) →
      (Builtin.append_ #[t,t] ty #[x',y']).run P w=.ok (.slice (some ⟨w.heap.size,0,none⟩) (n+s.m) (grownCap w (n+s.m) c' e)) (w.drew.alloc (tQ (O++L).toArray z (grownCap w (n+s.m) c' e - (n+s.m)) e)):=by
     intro hB cO O hO1 hO2;rw [cj,kK];exact AF (P:=P) (w:=w) (ty:=ty) hu iG hz hO1 (fun a ha=>by cases ha; exact hO2) (fun h=>by cases h) hL j8 kL Dh cO (by rw [nE]; exact hB) (small _ hB)
    -- a block that stays
    have Di:row+n=b.n→n+s.m≤c'→(wJ b s fun b'=>jv H id (some b') fun H'=>k (.slice (some ⟨id,row,none⟩) (n+s.m) c) tmps H') →
      ∃ v v' ai t' H' w',k v t' H'∧aq ai v v'∧bw F ai t' H' a w'∧(Builtin.append_ #[t,t] ty #[x',y']).run P w=.ok v' w'∧ν.le ai:=fun zO cO h=>by
     obtain ⟨b',h,ho,dM⟩:=AG h;obtain ⟨ak,h⟩:=mq h;obtain ⟨w2,bB,iu,jC,pJ,n9⟩:=F1 b' _ ho dM zO (Nat.le_refl _) cO;refine ⟨_,_,ν,_,_,w2,h,OT cO ν hl,⟨hi.tm,(let ⟨_,_,uC,_⟩:=hB.own (ah.cU ho).1 (ah.cU ho).2; hi.df.gx uC n9),?_,fun j hj=>hi.fr j (by simpa using hj),jC,fun j bj lj hj om cY=>?_,hi.mono⟩,bB,ν.le_refl⟩
     ·refine hi.hp.gx (id:=id) (fun _ _=>rfl) (fun j bj hj aH=>?_) (fun bj hj=>?_)
      ·rw [List.getElem?_set_ne (Ne.symm aH)] at hj;refine ⟨bj,hj,rfl,fun lj cY q9=>q9.same (n9 _ ?_) pJ⟩
       exact Ne.symm (hi.hp.sep id j b bj l lj hb hj (Ne.symm aH) (ah.cU ho).1 hl cY)
      ·rw [List.getElem?_set_self ak] at hj;cases hj;exact ⟨l,hl,iu,fun j lj bj aH hj cY=>Ne.symm (hi.hp.sep id j b bj l lj hb hj (Ne.symm aH) (ah.cU ho).1 hl cY)⟩
     ·by_cases e':j=id
      ·subst e'; rw [hl] at cY; cases cY; exact hi.own j b l hb (ah.cU ho).1 hl
      ·rw [List.getElem?_set_ne (Ne.symm e')] at hj; exact hi.own j bj lj hj om cY
    -- a new block
    have Dj:row+n≤b.n→(n+s.m)*te.bytes≤140737488355328→c' < n+s.m→(Cm b row n s fun b'=>jw H fun aE=>o8 H (some b') fun H'=>k (.slice (some ⟨aE,0,none⟩) (n+s.m) aK) tmps H') →
      ∃ v v' ai t' H' w',k v t' H'∧aq ai v v'∧bw F ai t' H' a w'∧(Builtin.append_ #[t,t] ty #[x',y']).run P w=.ok v' w'∧ν.le ai:=fun hle mf cO h=>by
     obtain ⟨b',h,dM⟩:=KG h;have h:=mr h;obtain ⟨O,hO,rf⟩:=hold hle;have bB:=grow mf cO O (by rw [hO.len,gy,di]) rf
     have pA:ν H.length=none:=hi.fr _ (Nat.le_refl _);have ll:=Nu.kl (l:=⟨w.heap.size,0,b.ae,grownCap w (n+s.m) c' e⟩) pA;have iu:=vZ (hO.mono ll) (hC.mono ll) dM (fun h=>⟨fun r hr v hv=>(mG h).1 (row+r) (by omega) v hv,(mG h).2⟩) (w:=w) jA (iI:=c') (e:=e)
     have dZ:=grownCap_ge w (n+s.m) c' e;have cm:aq (ν.add H.length ⟨w.heap.size,0,b.ae,grownCap w (n+s.m) c' e⟩) (.slice (some ⟨H.length,0,none⟩) (n+s.m) aK) (.slice (some ⟨w.heap.size,0,none⟩) (n+s.m) (grownCap w (n+s.m) c' e)):=by
      have:=aq.slice (ν:=ν.add H.length ⟨w.heap.size,0,b.ae,grownCap w (n+s.m) c' e⟩) H.length 0 (n+s.m) aK (grownCap w (n+s.m) c' e) _ Nu.add_same (.inr rfl) dZ (by simp)
      simpa [Loc.at] using this
     have hq:=mY pA iu (vU w _ _ _ _) (Nat.le_refl _) cm;obtain ⟨H',h1,J⟩:=hi.quiet hq (k:=fun H'=>k _ tmps H') h
     exact ⟨_,_,_,_,_,_,h1,cm,J,bB,ll⟩
    -- a block that is put in place of the old one
    have Hz:∀ b1:ah,b.n7=true→Ext b1 b.ae b.row n s.get s.m (b.pf && s.kA)→c=aK→row=0→E.base≤id→n≤b.n→(n+s.m)*te.bytes≤140737488355328 →
      (yZ id b1 fun b'=>∃ aa,∀ a:Nat→Value,uA a id aa 0 tmps fun y5=>xl id H fun H1=>jv H1 id (some b') fun H'=>k (.slice (some ⟨id,0,none⟩) (n+s.m) aK) y5 H') →
      ∃ v v' ai t' H' w',k v t' H'∧aq ai v v'∧bw F ai t' H' a w'∧(Builtin.append_ #[t,t] ty #[x',y']).run P w=.ok v' w':=fun b1 ho dM fG abh Cn fR mf s9=>by
     subst abh;obtain ⟨b',h,ho1,PF⟩:=KE s9;obtain ⟨aa,h⟩:=h;obtain ⟨af,Iu⟩:=MX hi.tm;obtain ⟨t',h,jD⟩:=Et (h af) ν _ hi.tm (fun j y hy ai=>by rw [Nat.zero_add]; exact Iu j y hy ai)
     obtain ⟨H1,h,me,Dk⟩:=Eu h;obtain ⟨ak,h⟩:=mq h;by_cases cO:n+s.m≤c'
     ·obtain ⟨w2,bB,iu,jC,pJ,n9⟩:=F1 b1 _ ho dM (Nat.zero_add n) fR cO;have iu:=PF ν ν l w2 (fun _ _=>rfl) iu
      have hv:=OT cO ν hl;rw [fG] at hv;refine ⟨_,_,ν,_,_,w2,h,hv,⟨jD ν (fun _ _=>rfl),(let ⟨_,_,uC,_⟩:=hB.own (ah.cU ho).1 (ah.cU ho).2; hi.df.gx uC n9),?_,fun j hj=>hi.fr j (by simpa [me] using hj),jC,fun j bj lj hj om cY=>?_,hi.mono⟩,bB⟩
      ·refine hi.hp.gx (id:=id) (fun _ _=>rfl) (fun j bj hj aH=>?_) (fun bj hj=>?_)
       ·rw [List.getElem?_set_ne (Ne.symm aH)] at hj;obtain ⟨b0,kM,vo,s9⟩:=Dk j bj hj;refine ⟨b0,kM,vo,fun lj cY q9=>s9 ν ν lj w2 (fun _ _=>rfl) (q9.same (n9 _ ?_) pJ)⟩
        exact Ne.symm (hi.hp.sep id j b b0 l lj hb kM (Ne.symm aH) (ah.cU ho).1 hl cY)
       ·rw [List.getElem?_set_self ak] at hj;cases hj;exact ⟨l,hl,iu,fun j lj bj aH hj cY=>Ne.symm (hi.hp.sep id j b bj l lj hb hj (Ne.symm aH) (ah.cU ho).1 hl cY)⟩
      ·by_cases e':j=id
       ·subst e'; rw [hl] at cY; cases cY; exact hi.own j b l hb (ah.cU ho).1 hl
       ·rw [List.getElem?_set_ne (Ne.symm e')] at hj;obtain ⟨b0,kM,vo,_⟩:=Dk j bj hj;exact hi.own j b0 lj kM (by rw [← vo]; exact om) cY
     ·have cO:c' < n+s.m:=by omega
      obtain ⟨O,hO,rf⟩:=hold (by omega)
      have bB:=grow mf cO O (by rw [hO.len,gy,di]) rf
      have dZ:=grownCap_ge w (n+s.m) c' e;have gO:ν.off (ν.add id ⟨w.heap.size,0,b.ae,grownCap w (n+s.m) c' e⟩) id:=fun j hj=>Nu.iQ hj
      have HA:=vU w (O++L).toArray z (grownCap w (n+s.m) c' e - (n+s.m)) e;have Iv:CR ν b.ae b.row n O:=hO.congr (fun r hr=>by simp)
      have iu:bP ν ⟨w.heap.size,0,b.ae,grownCap w (n+s.m) c' e⟩ b1 _:=vZ Iv hC dM (fun h=>⟨fun r hr v hv=>(mG h).1 r (by omega) v hv,(mG h).2⟩) (w:=w) jA (iI:=c') (e:=e)
      have hF:F.ν.le (ν.add id ⟨w.heap.size,0,b.ae,grownCap w (n+s.m) c' e⟩):=by
       intro j lj hj;have aH:j≠id:=by
        intro e';subst e';rw [F.fresh j (by have:=bM.n0; omega)] at hj
        cases hj
       rw [Nu.iQ aH]; exact hi.mono j lj hj
      have cm:aq (ν.add id ⟨w.heap.size,0,b.ae,grownCap w (n+s.m) c' e⟩) (.slice (some ⟨id,0,none⟩) (n+s.m) aK) (.slice (some ⟨w.heap.size,0,none⟩) (n+s.m) (grownCap w (n+s.m) c' e)):=by
       have:=aq.slice (ν:=ν.add id ⟨w.heap.size,0,b.ae,grownCap w (n+s.m) c' e⟩) id 0 (n+s.m) aK (grownCap w (n+s.m) c' e) _ Nu.add_same (.inr rfl) dZ (by simp)
       simpa [Loc.at] using this
      have qQ:id < H.length:=by rw [← me]; exact ak
      refine ⟨_,_,ν.add id ⟨w.heap.size,0,b.ae,grownCap w (n+s.m) c' e⟩,_,_,_,h,cm,⟨jD _ gO,hi.df.below HA,?_,fun j hj=>?_,hi.kp.below HA,fun j bj lj hj om cY=>?_,hF⟩,bB⟩
      ·refine hi.hp.gx (id:=id) gO (fun j bj hj aH=>?_) (fun bj hj=>?_)
       ·rw [List.getElem?_set_ne (Ne.symm aH)] at hj;obtain ⟨b0,kM,vo,s9⟩:=Dk j bj hj;exact ⟨b0,kM,vo,fun lj cY q9=>s9 ν _ lj _ gO (q9.below HA)⟩
       ·rw [List.getElem?_set_self ak] at hj;cases hj;refine ⟨_,Nu.add_same,PF ν _ _ _ gO iu,fun j lj bj aH hj cY=>?_⟩
        obtain ⟨lj',e1,e2⟩:=hi.hp.aG j bj hj;rw [cY] at e1; cases e1;have:=e2.live;simp only;omega
      ·have hj:H.length≤j:=by simpa [me] using hj
       rw [Nu.iQ (by omega)]; exact hi.fr j hj
      ·by_cases e':j=id
       ·subst e';rw [Nu.add_same] at cY;cases cY;exact .inr hi.kp.size
       ·rw [List.getElem?_set_ne (Ne.symm e')] at hj;obtain ⟨b0,kM,vo,_⟩:=Dk j bj hj;rw [Nu.iQ e'] at cY;exact hi.own j b0 lj kM (by rw [← vo]; exact om) cY
    split at h
    ·rename_i fG;have fG:c≠aK:=of_decide_eq_false fG;have hc:c'=c:=lF.resolve_right fG;cases sL:Nat.ble (n+s.m) c with
     | true =>
      have cO:=Nat.le_of_ble_eq_true sL;obtain ⟨zO,h⟩:=BD h sL;obtain ⟨v,v',ai,t',H',w',h1,J,h3,h4,h5⟩:=Di zO (by omega) h
      exact ⟨v,v',ai,t',H',w',h1,J,h3,h4,fun _=>h5⟩
     | false =>
      have cO:c < n+s.m:=by
       rcases Nat.lt_or_ge c (n+s.m) with h' | h'
       ·exact h'
       ·rw [Nat.ble_eq_true_of_le h'] at sL; cases sL
      obtain ⟨⟨hle,mf⟩,h⟩:=Bj h sL;obtain ⟨v,v',ai,t',H',w',h1,J,h3,h4,h5⟩:=Dj hle mf (by omega) h
      exact ⟨v,v',ai,t',H',w',h1,J,h3,h4,fun _=>h5⟩
    ·rename_i fG;have fG:c=aK:=of_decide_eq_true fG;have nx:Bm (.slice (some ⟨id,row,none⟩) n c)=true→False:=fun hx=>by rw [fG] at hx; simp [Bm] at hx
     split at h
     ·have zQ:row=0:=by
       cases row with
       | zero=>rfl
       | succ r=>exact h.elim
      clear Di Dj;subst zQ;obtain ⟨⟨Cn,⟨fR,ho⟩,mf⟩,h⟩:=h;obtain ⟨b1,h,dM⟩:=KG h;obtain ⟨v,v',ai,t',H',w',h1,J,h3,h4⟩:=Hz b1 ho (by simpa using dM) fG rfl Cn fR mf h
      exact ⟨v,v',ai,t',H',w',h1,J,h3,h4,fun hx=>(nx hx).elim⟩
     ·split at h
      ·have zQ:row=0:=by
        cases row with
        | zero=>rfl
        | succ r=>exact h.elim
       clear Di Dj;subst zQ;obtain ⟨⟨Cn,fR,mf⟩,h⟩:=h;obtain ⟨b1,h,ho,dM⟩:=AG h;obtain ⟨v,v',ai,t',H',w',h1,J,h3,h4⟩:=Hz b1 ho (by rw [fR]; exact dM) fG rfl Cn (Nat.le_of_eq fR) mf h
       exact ⟨v,v',ai,t',H',w',h1,J,h3,h4,fun hx=>(nx hx).elim⟩
      ·have zQ:row=0:=by
        cases row with
        | zero=>rfl
        | succ r=>exact h.elim
       clear Di Dj Hz;subst zQ;obtain ⟨⟨fR,mf⟩,h⟩:=h;obtain ⟨b',h,ho,dM⟩:=AG h;obtain ⟨ak,h⟩:=mq h;have h:=mr h;have gz:bw F ν tmps (H.set id none) a w:=by
        have hle:aw.le (H.set id none) H:=fun j bj hj=>by
         by_cases e':j=id
         ·subst e'; rw [List.getElem?_set_self ak] at hj; cases hj
         ·rw [List.getElem?_set_ne (Ne.symm e')] at hj; exact hj
        exact ⟨hi.tm,hi.df,hi.hp.sj hle,fun j hj=>hi.fr j (by simpa using hj),hi.kp,fun j bj lj hj om cY=>hi.own j bj lj (hle j bj hj) om cY,hi.mono⟩
       have pA:ν (H.set id none).length=none:=gz.fr _ (Nat.le_refl _);have iI:∀ j bj,(H.set id none)[j]?=some (some bj)→j≠id∧H[j]?=some (some bj):=fun j bj hj=>by
        by_cases e':j=id
        ·subst e'; rw [List.getElem?_set_self ak] at hj; cases hj
        ·rw [List.getElem?_set_ne (Ne.symm e')] at hj; exact ⟨e',hj⟩
       by_cases cO:n+s.m≤c'
       ·obtain ⟨w2,bB,iu,jC,pJ,n9⟩:=F1 b' _ ho dM (by rw [fR]; simp) (Nat.le_refl _) cO
        have h:=x9 h;have ll:=Nu.kl (l:=l) pA;have yF:∀ j bj,(H.set id none++[some b'])[j]?=some (some bj)→(j < (H.set id none).length∧j≠id∧H[j]?=some (some bj))∨(j=(H.set id none).length∧bj=b'):=fun j bj hj=>by
         rw [List.getElem?_append] at hj
         split at hj
         ·rename_i HB;exact .inl ⟨HB,iI j bj hj⟩
         ·rename_i dZ;have:j - (H.set id none).length=0:=by
           rcases Nat.lt_or_ge (j - (H.set id none).length) 1 with h' | h'
           ·omega
           ·rw [List.getElem?_eq_none (by simpa using h')] at hj; cases hj
          rw [this] at hj;cases hj;exact .inr ⟨by omega,rfl⟩
        have hv:aq (ν.add (H.set id none).length l) (.slice (some ⟨(H.set id none).length,0,none⟩) (n+s.m) aK) (.slice (some A) (n+s.m) c'):=by
         rcases hA with ⟨rfl,fM⟩ | ⟨h0,oo⟩
         ·exact .slice _ _ _ _ _ l Nu.add_same (.inr rfl) cO fM
         ·have kJ:s.m=0:=by omega
          subst oo;rw [h0,kJ];exact .void _ _ _ _ (.inr rfl)
        refine ⟨_,_,ν.add (H.set id none).length l,_,_,w2,h,hv,⟨hi.tm.mono ll,(let ⟨_,_,uC,_⟩:=hB.own (ah.cU ho).1 (ah.cU ho).2; hi.df.gx uC n9),⟨fun j bj hj=>?_,fun i j bi bj li lj h1 J aH Ip e1 e2=>?_⟩,fun j hj=>?_,jC,fun j bj lj hj om cY=>?_,Nu.le_trans hi.mono ll⟩,bB,fun hx=>(nx hx).elim⟩
        ·rcases yF j bj hj with ⟨q1,q2,q3⟩ | ⟨q1,q2⟩
         ·obtain ⟨lj,e1,e2⟩:=hi.hp.aG j bj q3;refine ⟨lj,ll _ _ e1,(e2.same (n9 _ ?_) pJ).mono ll⟩;exact Ne.symm (hi.hp.sep id j b bj l lj hb q3 (Ne.symm q2) (ah.cU ho).1 hl e1)
         ·subst q1; subst q2;exact ⟨l,Nu.add_same,iu.mono ll⟩
        ·rcases yF i bi h1 with ⟨q1,q2,q3⟩ | ⟨q1,q2⟩
         ·rw [Nu.iQ (by omega)] at e1
          rcases yF j bj J with ⟨p1,p2,p3⟩ | ⟨p1,p2⟩
          ·rw [Nu.iQ (by omega)] at e2
           exact hi.hp.sep i j bi bj li lj q3 p3 aH Ip e1 e2
          ·subst p1;rw [Nu.add_same] at e2; cases e2;exact Ne.symm (hi.hp.sep id i b bi l li hb q3 (Ne.symm q2) (ah.cU ho).1 hl e1)
         ·subst q1;rw [Nu.add_same] at e1; cases e1;rcases yF j bj J with ⟨p1,p2,p3⟩ | ⟨p1,p2⟩
          ·rw [Nu.iQ (by omega)] at e2
           exact hi.hp.sep id j b bj l lj hb p3 (Ne.symm p2) (ah.cU ho).1 hl e2
          ·exact absurd p1.symm aH
        ·have hj:H.length+1≤j:=by simpa using hj
         rw [Nu.iQ (by simp; omega)]; exact hi.fr j (by omega)
        ·rcases yF j bj hj with ⟨q1,q2,q3⟩ | ⟨q1,q2⟩
         ·rw [Nu.iQ (by omega)] at cY
          exact hi.own j bj lj q3 om cY
         ·subst q1;rw [Nu.add_same] at cY; cases cY;exact hi.own id b l hb (ah.cU ho).1 hl
       ·obtain ⟨O,hO,rf⟩:=hold (by omega)
        have bB:=grow mf (by omega) O (by rw [hO.len,gy,di]) rf
        have ll:=Nu.kl (l:=⟨w.heap.size,0,b.ae,grownCap w (n+s.m) c' e⟩) pA;have Iv:CR ν b.ae b.row n O:=hO.congr (fun r hr=>by simp)
        have HC:Ext b' b.ae b.row n s.get s.m (b.pf && s.kA):=by rw [fR]; exact dM
        have iu:=vZ (Iv.mono ll) (hC.mono ll) HC (fun h=>⟨fun r hr v hv=>(mG h).1 r (by omega) v hv,(mG h).2⟩) (w:=w) jA (iI:=c') (e:=e)
        have dZ:=grownCap_ge w (n+s.m) c' e;have cm:aq (ν.add (H.set id none).length ⟨w.heap.size,0,b.ae,grownCap w (n+s.m) c' e⟩) (.slice (some ⟨(H.set id none).length,0,none⟩) (n+s.m) aK) (.slice (some ⟨w.heap.size,0,none⟩) (n+s.m) (grownCap w (n+s.m) c' e)):=by
         have:=aq.slice (ν:=ν.add (H.set id none).length ⟨w.heap.size,0,b.ae,grownCap w (n+s.m) c' e⟩) (H.set id none).length 0 (n+s.m) aK (grownCap w (n+s.m) c' e) _ Nu.add_same (.inr rfl) dZ (by simp)
         simpa [Loc.at] using this
        have hq:=mY pA iu (vU w _ _ _ _) (Nat.le_refl _) cm;obtain ⟨H',h1,J⟩:=gz.quiet hq (k:=fun H'=>k _ tmps H') h
        exact ⟨_,_,_,_,_,_,h1,cm,J,bB,fun hx=>(nx hx).elim⟩
   ·exact h.elim
  ·rename_i id row b0 n c;obtain ⟨b,hb,h⟩:=gB J;clear J
   split at h
   ·rename_i di;have di:b.ae=te.size:=Nat.eq_of_beq_eq_true di
    split at h
    ·rename_i N ae get m news _;have di:ae=te.size:=di;obtain ⟨⟨jc,hN⟩,h⟩:=h;obtain ⟨ak,h⟩:=mq h;obtain ⟨l,hl,hB⟩:=hi.hp.aG id _ hb;rw [ax] at h;have Ir:CR ν ae news m L:=by rw [di]; exact hC
     have vp:∀ r,r < m→∀ v∈news r,cG v=true:=qP rfl;obtain ⟨h1,J⟩:=hi.ig (P:=P) hb hl (q:=row+n) (m:=m) (by omega) Ir vp
     have zN:y'=.slice oy m cy:=kK;have Iw:L.length=m*i.size:=hL;have OU:oy=none→m=0:=kL;rcases hx.V3 with ⟨l',c',cB,h3,h4,h5,fG,e⟩ | ⟨h3,h4,fG,bb,e⟩
     ·rw [hl] at cB; cases cB;subst fG;refine ⟨_,_,ν,_,_,_,h,.l9 _ _ _ _ c' l hl h3 (by omega) h5,J,?_,fun _=>ν.le_refl⟩
      rw [e,zN];refine rK (P:=P) hu iG Iw j8 OU (by omega) (fun A' s8=>?_) (fun h=>by cases h)
      cases s8;have e2:(l.at row 0).add (n*i.size)=l.at (row+n) 0:=by
       rw [Loc.jS]; unfold Loc.at; congr 1;rw [show l.ae=ae from hB.ae,gy,Nat.add_mul,di]; omega
      rw [e2]; exact h1
     ·have kJ:m=0:=by omega
      subst fG;subst h3;subst kJ;subst h4;have xQ:L=[]:=List.eq_nil_of_length_eq_zero (by rw [Iw]; simp)
      subst xQ;refine ⟨_,_,ν,_,_,w,h,.lf _ _ bb,J,?_,fun _=>ν.le_refl⟩
      rw [e,zN];exact rK (P:=P) hu iG Iw j8 OU (by omega) (fun A' s8=>rfl) (fun h=>by cases h)
    ·exact h.elim
   ·exact h.elim
  ·exact J.elim
 ·exact J.elim
theorem Q8 (hE:EnvOk P E) (bM:lE F E) {ν:Nu} {tmps:List Value} {H:aw} {a:Act} {w:World} (hi:bw F ν tmps H a w) {t:TypeId} {x y:Operand} {k:Value→List Value→aw→Prop}
  (h:MY E tmps H t x y k) (ty:TypeId):∃ v v' ai t' H' w',k v t' H'∧aq ai v v'∧bw F ai t' H' a w'∧(Builtin.append_ #[t,t] ty #[a.eval x,a.eval y]).run P w=.ok v' w':=by
 obtain ⟨xv,J,hx⟩:=kQ h (hi.mB x);clear h;obtain ⟨yv,h,hy⟩:=kQ J (hi.mB y);obtain ⟨v,v',ai,t',H',w',h1,J,h3,h4,_⟩:=Kh hE bM hi hx hy h ty;exact ⟨v,v',ai,t',H',w',h1,J,h3,h4⟩
end
open Go Go.RowKit
def xF:List Nat→Nat→Nat→Option Nat
 | [],_,_=>none
 | a::l,id,k=>match Nat.beq a id with
  | true=>some k
  | false=>xF l id (k+1)
theorem Ln:∀ {l:List Nat} {id k j:Nat},xF l id k=some j→k≤j∧l[j - k]?=some id
 | [],id,k,j,h=>by cases h
 | a::l,id,k,j,h=>by
  unfold xF at h
  split at h
  ·rename_i e;cases h;exact ⟨Nat.le_refl _,by simp [Nat.eq_of_beq_eq_true e]⟩
  ·obtain ⟨h1,J⟩:=Ln h;refine ⟨by omega,?_⟩
   rw [show j - k=(j - (k+1))+1 by omega,List.getElem?_cons_succ]; exact J
def gP (σ:List Nat):Nat→Value→Option Value
 | 0,_=>none
 | k+1,v=>match v with
  | .bool b=>some (.bool b)
  | .int q n=>some (.int q n)
  | .string s=>some (.string s)
  | .pointer none=>some (.pointer none)
  | .pointer (some ⟨id,row,sp⟩)=>match xF σ id 0 with | some j=>some (.pointer (some ⟨j,row,sp⟩)) | none=>some (.chan none)
  | .slice none n c=>some (.slice none n c)
  | .slice (some ⟨id,row,sp⟩) n c=>match xF σ id 0 with | some j=>some (.slice (some ⟨j,row,sp⟩) n c) | none=>some (.chan none)
  | .nilFunc=>some .nilFunc
  | .chan none=>some (.chan none)
  | .agg ⟨l⟩=>match l.foldr (fun v acc=>match gP σ k v,acc with | some x,some xs=>some (x::xs) | _,_=>none) (some []) with | some l'=>some (.agg ⟨l'⟩) | none=>none
  | .tuple ⟨l⟩=>match l.foldr (fun v acc=>match gP σ k v,acc with | some x,some xs=>some (x::xs) | _,_=>none) (some []) with | some l'=>some (.tuple ⟨l'⟩) | none=>none
  | .func fn ⟨l⟩ ⟨m⟩=>match l.foldr (fun v acc=>match gP σ k v,acc with | some x,some xs=>some (x::xs) | _,_=>none) (some []),m.foldr (fun v acc=>match gP σ k v,acc with | some x,some xs=>some (x::xs) | _,_=>none) (some []) with
   | some l',some m'=>some (.func fn ⟨l'⟩ ⟨m'⟩) | _,_=>none
  | _=>none
def nv (σ:List Nat) (k:Nat) (l:List Value):Option (List Value):=l.foldr (fun v acc=>match gP σ k v,acc with | some x,some xs=>some (x::xs) | _,_=>none) (some [])
theorem ER {σ:List Nat} {m:Nat} {x:Value} {xs l:List Value} (h:nv σ m (x::xs)=some l):∃ y ys,l=y::ys∧gP σ m x=some y∧nv σ m xs=some ys:=by
 unfold nv at h;rw [List.foldr_cons] at h
 split at h
 ·rename_i y ys h1 J;exact ⟨y,ys,(Option.some.inj h).symm,h1,J⟩
 ·cases h
theorem ym {σ:List Nat} {m:Nat} {ν ai:Nu} (h:∀ v v2 r,gP σ m v=some v2→aq ν v r→aq ai v2 r):∀ {xs l rs:List Value},nv σ m xs=some l→bc ν xs rs→bc ai l rs
 | [],l,rs,h1,J=>by
  have:l=[]:=by simp [nv] at h1; exact h1
  rw [this,J.iP]; exact .nil _
 | x::xs,l,rs,h1,J=>by
  obtain ⟨y,ys,rfl,e1,e2⟩:=ER h1;obtain ⟨r,b6,rfl,k1,k2⟩:=J.jl;exact .cons (h _ _ _ e1 k1) (ym h e2 k2)
theorem Gz {σ:List Nat} {id j:Nat} {ν:Nu} (h:xF σ id 0=some j):(ν.comp σ) j=ν id:=by
 have:=(Ln h).2;rw [Nat.sub_zero] at this;simp [Nu.comp,this]
theorem Mh {σ:List Nat} {ν:Nu}:∀ (m:Nat) (v v2 r:Value),gP σ m v=some v2→aq ν v r→aq (ν.comp σ) v2 r:=by
 intro m
 induction m with
 | zero=>intro v v2 r h; simp [gP] at h
 | succ m ih =>
  intro v v2 r h hr;cases hr with
  | bool b=>cases h; exact .bool b
  | int q n=>cases h; exact .int q n
  | str s=>cases h; exact .str s
  | mC=>cases h; exact .mC
  | ptr id row sp l hl =>
   unfold gP at h
   dsimp only at h
   split at h
   ·rename_i j hj;cases h;exact .ptr j row sp l (by rw [Gz hj]; exact hl)
   ·cases h; exact .dead _ rfl
  | ju=>cases h; exact .ju
  | slice id row n c c' l hl hc hn hr =>
   unfold gP at h
   dsimp only at h
   split at h
   ·rename_i j hj;cases h;exact .slice j row n c c' l (by rw [Gz hj]; exact hl) hc hn hr
   ·cases h; exact .dead _ rfl
  | void id row c a hc =>
   unfold gP at h
   dsimp only at h
   split at h
   ·cases h; exact .void _ row c a hc
   ·cases h; exact .dead _ rfl
  | l9 id row m' n c' l hl hm hn hr =>
   unfold gP at h
   dsimp only at h
   split at h
   ·rename_i j hj;cases h;exact .l9 j row m' n c' l (by rw [Gz hj]; exact hl) hm hn hr
   ·cases h; exact .dead _ rfl
  | lf id row a =>
   unfold gP at h
   dsimp only at h
   split at h
   ·cases h; exact .lf _ row a
   ·cases h; exact .dead _ rfl
  | mD=>cases h; exact .mD
  | func fn xs ys nD c7 h1 J h3 h4 =>
   unfold gP at h
   dsimp only at h
   split at h
   ·rename_i l1 l2 e1 e2;cases h;have t1:=ym ih e1 ⟨h1,J⟩;have t2:=ym ih e2 ⟨h3,h4⟩;exact .func _ _ _ _ _ t1.1 t1.2 t2.1 t2.2
   ·cases h
  | agg xs ys h1 J =>
   unfold gP at h
   dsimp only at h
   split at h
   ·rename_i l1 e1;cases h;have t1:=ym ih e1 ⟨h1,J⟩;exact .agg _ _ t1.1 t1.2
   ·cases h
  | tuple xs ys h1 J =>
   unfold gP at h
   dsimp only at h
   split at h
   ·rename_i l1 e1;cases h;have t1:=ym ih e1 ⟨h1,J⟩;exact .tuple _ _ t1.1 t1.2
   ·cases h
  | dead w hw=>cases h; exact .dead _ (by assumption)
theorem UB {σ:List Nat} {m:Nat} {v v2:Value} (h:gP σ m v=some v2) (h1:v.oneCell'=true):v2.oneCell'=true:=by
 cases m with
 | zero=>simp [gP] at h
 | succ m =>
  unfold gP at h
  split at h
  all_goals first
   | (exfalso; simp [Value.oneCell'] at h1; done)
   | (cases h; rfl)
   | (split at h <;> first | (cases h; rfl) | cases h)
   | cases h
theorem Fs {σ:List Nat} {m:Nat} {p:Value→Prop} (hp:∀ v v2,gP σ m v=some v2→p v→p v2):∀ {xs l:List Value},nv σ m xs=some l→(∀ v∈xs,p v)→(l.length=xs.length∧∀ v∈l,p v)
 | [],l,h,_=>by
  have:l=[]:=by simp [nv] at h; exact h
  subst this;exact ⟨rfl,fun v hv=>by simp at hv⟩
 | x::xs,l,h,hx=>by
  obtain ⟨y,ys,rfl,e1,e2⟩:=ER h;obtain ⟨h1,J⟩:=Fs hp e2 (fun v hv=>hx v (by simp [hv]))
  refine ⟨by simp [h1],fun v hv=>?_⟩
  rcases List.mem_cons.1 hv with e | e
  ·rw [e]; exact hp x y e1 (hx x (by simp))
  ·exact J v e
def zm (a:Nat→Value) (σ aa:List Nat):Nat→List Value→(List Value→Prop)→Prop
 | _,[],k=>k []
 | i,v::l,k=>match Io i aa with
  | true=>zk (gP σ 3 v) fun v'=>zm a σ aa (i+1) l fun l'=>k (v'::l')
  | false=>zm a σ aa (i+1) l fun l'=>k (a i::l')
theorem ES {a:Nat→Value} {σ aa:List Nat}:∀ {t:List Value} {i:Nat} {k:List Value→Prop},zm a σ aa i t k→∀ (ν:Nu) r,bc ν t r→(∀ (j:Nat) (y:Value),r[j]?=some y→∀ ai:Nu,aq ai (a (i+j)) y)→∃ t',k t'∧bc (ν.comp σ) t' r
 | [],i,k,h,ν,r,hr,ha=>⟨[],h,by rw [hr.iP]; exact .nil _⟩
 | v::l,i,k,h,ν,r,hr,ha=>by
  obtain ⟨y,ys,rfl,h1,J⟩:=hr.jl;obtain ⟨hx,ha⟩:=Mg ha;unfold zm at h
  split at h
  ·obtain ⟨v',e,h⟩:=EO h;obtain ⟨l',h3,h4⟩:=ES h ν ys J ha;exact ⟨_,h3,.cons (Mh 3 _ _ _ e h1) h4⟩
  ·obtain ⟨l',h3,h4⟩:=ES h ν ys J ha;exact ⟨_,h3,.cons (hx _) h4⟩
def F2 (σ:List Nat):List (List Value)→(List (List Value)→Prop)→Prop
 | [],k=>k []
 | r::l,k=>zk (nv σ 3 r) fun r'=>F2 σ l fun l'=>k (r'::l')
theorem JV {σ:List Nat}:∀ {l:List (List Value)} {k:List (List Value)→Prop},F2 σ l k→∃ l',k l'∧l'.length=l.length∧∀ (i:Nat) r',l'[i]?=some r'→∃ r,l[i]?=some r∧nv σ 3 r=some r'
 | [],k,h=>⟨[],h,rfl,fun i r hr=>by simp at hr⟩
 | r::l,k,h=>by
  obtain ⟨r',e,h⟩:=EO h;obtain ⟨l',h,h1,J⟩:=JV h;refine ⟨_,h,by simp [h1],fun i q hq=>?_⟩
  cases i with
  | zero=>simp at hq; subst hq; exact ⟨r,rfl,e⟩
  | succ i=>simpa using J i q (by simpa using hq)
def OV (σ:List Nat) (b:ah) (k:ah→Prop):Prop :=
 match b with
 | .flat o n e g=>k (.flat o n e g)
 | .aL o e rows=>F2 σ rows fun iS=>k (.aL o e iS)
 | .b9 r=>k (.b9 r)
theorem Tv {σ:List Nat} {b:ah} {k:ah→Prop} (h:OV σ b k):∃ b',k b'∧b'.own=b.own∧∀ (ν:Nu) (l:Loc) (w:World),bP ν l b w→bP (ν.comp σ) l b' w:=by
 cases b with
 | flat o n e g =>
  exact ⟨_,h,rfl,fun ν l w hB=>hB.Fq (hB.plain rfl)⟩
 | b9 r=>exact ⟨_,h,rfl,fun ν l w hB=>hB.Fq (fun r hr=>absurd hr (Nat.not_lt_zero r))⟩
 | aL o e rows =>
  obtain ⟨iS,h,h1,J⟩:=JV h;refine ⟨_,h,rfl,fun ν l w hB=>?_⟩
  have aX:∀ r,r < iS.length→∃ q,(ah.aL o e rows).row r=q∧nv σ 3 q=some ((ah.aL o e iS).row r)∧r < rows.length:=by
   intro r hr;obtain ⟨q,h3,h4⟩:=J r _ (List.getElem?_eq_getElem hr);refine ⟨q,by simp [ah.row,List.getD,h3],?_,by omega⟩
   simpa [ah.row,List.getD,List.getElem?_eq_getElem hr] using h4
  -- cell by cell, against the real cells of the row
  have real:∀ (xs:List Value) (P:Nat→Value→Prop),(∀ (j:Nat) v,xs[j]?=some v→∃ v',P j v'∧aq ν v v')→∀ l,nv σ 3 xs=some l→∀ (j:Nat) v,l[j]?=some v→∃ v',P j v'∧aq (ν.comp σ) v v':=by
   intro xs
   induction xs with
   | nil =>
    intro P _ l hl j v hv;have:l=[]:=by simp [nv] at hl; exact hl
    rw [this] at hv; simp at hv
   | cons x xs ih =>
    intro P hP l hl j v hv;obtain ⟨y,ys,rfl,e1,e2⟩:=ER hl;cases j with
    | zero =>
     simp at hv; subst hv;obtain ⟨v',h3,h4⟩:=hP 0 x rfl;exact ⟨v',h3,Mh 3 _ _ _ e1 h4⟩
    | succ j =>
     exact ih (fun j=>P (j+1)) (fun j v hv=>hP (j+1) v (by simpa using hv)) ys e2 j v (by simpa using hv)
  refine ⟨hB.ae,fun r hr=>?_,fun r hr j v hv=>?_,fun h=>by simp [ah.jR] at h,fun r hr v hv=>?_,fun ho _=>?_,(fun r h=>nomatch h),hB.live⟩
  ·obtain ⟨q,h3,h4,h5⟩:=aX r hr;have:=(Fs (p:=fun _=>True) (fun _ _ _ _=>trivial) h4 (fun _ _=>trivial)).1
   rw [this,← h3]; exact hB.len r h5
  ·obtain ⟨q,h3,h4,h5⟩:=aX r hr;exact real q (fun j v'=>w.cell? (l.at r j)=some v') (fun j v hv=>hB.cell r h5 j v (by rw [h3]; exact hv)) _ h4 j v hv
  ·obtain ⟨q,h3,h4,h5⟩:=aX r hr;exact (Fs (p:=fun v=>v.oneCell'=true) (fun _ _ h h'=>UB h h') h4 (fun v hv=>hB.one r h5 v (by rw [h3]; exact hv))).2 v hv
  ·obtain ⟨cur,t,q1,q2,q3⟩:=hB.own ho rfl;exact ⟨cur,t,q1,q2,by simp only [ah.n] at q3 ⊢; omega⟩
def uD (H:aw):Nat→(Option ah→Prop)→Prop:=fun id k=>match H,id with
 | [],_=>k none
 | b::_,0=>k b
 | _::H,n+1=>uD H n k
theorem KI:∀ {H:aw} {id:Nat} {k:Option ah→Prop},uD H id k→∃ b,k b∧∀ c,b=some c→H[id]?=some (some c)
 | [],_,k,h=>by
  have h:k none:=by unfold uD at h; exact h
  exact ⟨none,h,fun c hc=>by cases hc⟩
 | b::_,0,k,h=>by
  have h:k b:=by unfold uD at h; exact h
  exact ⟨b,h,fun c hc=>by rw [hc]; rfl⟩
 | _::H,n+1,k,h=>by
  have h:uD H n k:=by unfold uD at h; exact h
  obtain ⟨b,h1,J⟩:=KI h;exact ⟨b,h1,fun c hc=>by simpa using J c hc⟩
def CO (σ:List Nat) (H:aw):List Nat→(aw→Prop)→Prop
 | [],k=>k []
 | s::l,k=>uD H s fun b=>match b with
  | none=>CO σ H l fun H'=>k (none::H')
  | some b=>OV σ b fun b'=>CO σ H l fun H'=>k (some b'::H')
theorem EU {σ:List Nat} {H:aw}:∀ {l:List Nat} {k:aw→Prop},CO σ H l k→∃ H',k H'∧H'.length=l.length∧∀ (j:Nat) b',H'[j]?=some (some b')→∃ s b,l[j]?=some s∧H[s]?=some (some b)∧b'.own=b.own ∧
  ∀ (ν:Nu) (lc:Loc) (w:World),bP ν lc b w→bP (ν.comp σ) lc b' w
 | [],k,h=>⟨[],h,rfl,fun j b hj=>by simp at hj⟩
 | s::l,k,h=>by
  obtain ⟨b,h,hb⟩:=KI h;cases b with
  | none =>
   obtain ⟨H',h1,J,h3⟩:=EU (l:=l) h;refine ⟨_,h1,by simp [J],fun j b' hj=>?_⟩
   cases j with
   | zero=>simp at hj
   | succ j=>simpa using h3 j b' (by simpa using hj)
  | some b =>
   obtain ⟨b1,h,ho,hr⟩:=Tv h;obtain ⟨H',h1,J,h3⟩:=EU (l:=l) h;refine ⟨_,h1,by simp [J],fun j b' hj=>?_⟩
   cases j with
   | zero=>simp at hj; subst hj; exact ⟨s,b,rfl,hb b rfl,ho,hr⟩
   | succ j=>simpa using h3 j b' (by simpa using hj)
def Co (a:Nat):List Nat→Bool
 | []=>true
 | b::l=>match Nat.beq a b with
  | true=>false
  | false=>Co a l
theorem KJ {a:Nat}:∀ {l:List Nat},Co a l=true→a ∉ l
 | [],_=>by simp
 | b::l,h=>by
  unfold Co at h
  split at h
  ·cases h
  ·rename_i e;rw [List.mem_cons,not_or];exact ⟨Nat.ne_of_beq_eq_false e,KJ h⟩
def CP:List Nat→Bool
 | []=>true
 | a::l=>match Co a l with
  | true=>CP l
  | false=>false
theorem Lo:∀ {l:List Nat},CP l=true→l.Nodup
 | [],_=>by simp
 | a::l,h=>by
  unfold CP at h
  split at h
  ·rename_i e; exact List.nodup_cons.2 ⟨KJ e,Lo h⟩
  ·cases h
def preB (base:Nat):Nat→List Nat→Bool
 | k,[]=>Nat.ble base k
 | k,a::l=>match Nat.ble base k with
  | true=>true
  | false=>match Nat.beq a k with
   | true=>preB base (k+1) l
   | false=>false
theorem Lp {base:Nat}:∀ {l:List Nat} {k:Nat},preB base k l=true→∀ j,k+j < base→l[j]?=some (k+j)
 | [],k,h,j,hj=>by
  have:=Nat.le_of_ble_eq_true h;omega
 | a::l,k,h,j,hj=>by
  unfold preB at h
  split at h
  ·rename_i e; have:=Nat.le_of_ble_eq_true e; omega
  ·split at h
   ·rename_i e;have e:=Nat.eq_of_beq_eq_true e;cases j with
    | zero=>simp [e]
    | succ j =>
     have:=Lp h j (by omega)
     rw [List.getElem?_cons_succ,this]; congr 1; omega
   ·cases h
def GA (base:Nat) (σ:List Nat):Bool:=match preB base 0 σ with
 | true=>CP σ
 | false=>false
theorem RA {base:Nat} {σ:List Nat} (h:GA base σ=true):(∀ j,j < base→σ[j]?=some j)∧σ.Nodup:=by
 unfold GA at h
 split at h
 ·rename_i e;exact ⟨fun j hj=>by have:=Lp e j (by omega); simpa using this,Lo h⟩
 ·cases h
def HD (E:Env) (σ aa:List Nat) (t:List Value) (H:aw) (k:SK):Prop :=
 match GA E.base σ with
 | true=>∀ a:Nat→Value,zm a σ aa 0 t fun t'=>CO σ H σ fun H'=>k t' H'
 | false=>False
theorem Tw {E:Env} {F:Fr} (bM:lE F E) {σ aa:List Nat} {ν:Nu} {t:List Value} {H:aw} {a:Act} {w:World} {k:SK} (hi:bw F ν t H a w) (h:HD E σ aa t H k) :
  ∃ t' H',k t' H'∧bw F (ν.comp σ) t' H' a w:=by
 unfold HD at h
 split at h
 ·rename_i hb;obtain ⟨zR,dC⟩:=RA hb;obtain ⟨af,Iu⟩:=MX hi.tm;obtain ⟨t',h,ht⟩:=ES (h af) ν _ hi.tm (fun j y hy ai=>by rw [Nat.zero_add]; exact Iu j y hy ai)
  obtain ⟨H',h,me,hH⟩:=EU h;have ni:∀ (j s:Nat),σ[j]?=some s→(ν.comp σ) j=ν s:=fun j s hj=>by simp [Nu.comp,hj]
  refine ⟨t',H',h,⟨ht,hi.df,⟨fun j b' hj=>?_,fun i j bi bj li lj aP gk aH ho e1 e2=>?_⟩,fun j hj=>?_,hi.kp,fun j b' l hj ho hl=>?_,fun id l bn=>?_⟩⟩
  ·obtain ⟨s,b,h1,J,h3,h4⟩:=hH j b' hj;obtain ⟨l,h5,h6⟩:=hi.hp.aG s b J;exact ⟨l,by rw [ni j s h1]; exact h5,h4 ν l w h6⟩
  ·obtain ⟨s,b,h1,J,h3,h4⟩:=hH i bi aP;obtain ⟨s',b',eI,j9,ta,rh⟩:=hH j bj gk;rw [ni i s h1] at e1;rw [ni j s' eI] at e2;refine hi.hp.sep s s' b b' li lj J j9 (fun e=>aH ?_) (by rw [← h3]; exact ho) e1 e2
   subst e;exact (List.getElem?_inj (List.getElem?_eq_some_iff.1 h1).1 dC).1 (h1.trans eI.symm)
  ·rw [me] at hj;simp [Nu.comp,List.getElem?_eq_none hj]
  ·obtain ⟨s,b,h1,J,h3,h4⟩:=hH j b' hj;rw [ni j s h1] at hl;exact hi.own s b l J (by rw [← h3]; exact ho) hl
  ·have ak:id < F.n0:=by
    rcases Nat.lt_or_ge id F.n0 with h | h
    ·exact h
    ·rw [F.fresh id h] at bn; cases bn
   rw [ni id id (zR id (by have:=bM.n0; omega))]
   exact hi.mono id l bn
 ·exact h.elim
def HE (E:Env) (t:List Value) (H:aw) (k:SK):Prop:=k t H∨∃ σ aa,HD E σ aa t H k
theorem Lq {E:Env} {F:Fr} (bM:lE F E) {ν:Nu} {t:List Value} {H:aw} {a:Act} {w:World} {k:SK} (hi:bw F ν t H a w) (h:HE E t H k) :
  ∃ ai t' H',k t' H'∧bw F ai t' H' a w:=by
 rcases h with h | ⟨σ,aa,h⟩
 ·exact ⟨ν,t,H,h,hi⟩
 ·obtain ⟨t',H',h1,J⟩:=Tw bM hi h;exact ⟨_,t',H',h1,J⟩
inductive bA:List (Option Value)→List Value→Prop
 | nil:bA [] []
 | aa {v:Value} {ps:List (Option Value)} {vs:List Value} (h:bA ps vs):bA (some v::ps) (v::vs)
 | skip {v:Value} {ps:List (Option Value)} {vs:List Value} (h:bA ps vs):bA (none::ps) (v::vs)
def qE (a:Nat→Value):Nat→List (Option Value)→List Value
 | _,[]=>[]
 | i,some v::ps=>v::qE a (i+1) ps
 | i,none::ps=>a i::qE a (i+1) ps
def aB (n:Nat) (ps:List (Option Value)):List (Option Value):=match n with
 | 0=>ps
 | n+1=>none::aB n ps
def zs (a:Nat→Value) (i n:Nat) (l:List Value):List Value:=match n with
 | 0=>l
 | n+1=>a i::zs a (i+1) n l
theorem bA.sk:∀ (n:Nat) {ps:List (Option Value)} {vs:List Value},bA ps (vs.drop n)→Nat.ble n vs.length=true→bA (aB n ps) vs
 | 0,_,_,h,_=>h
 | n+1,_,[],_,h=>by simp at h
 | n+1,_,v::vs,h,hn=>.skip (bA.sk n (vs:=vs) h (by simpa using hn))
theorem bJ {ps:List (Option Value)} {vs:List Value} (h:bA ps vs):∃ a:Nat→Value,vs=qE a 0 ps:=by
 have key:∀ (ps:List (Option Value)) (vs:List Value),bA ps vs→∀ i,∃ a:Nat→Value,vs=qE a i ps:=by
  intro ps vs h
  induction h with
  | nil=>exact fun i=>⟨fun _=>undef,rfl⟩
  | aa h ih=>
   intro i;obtain ⟨a,ha⟩:=ih (i+1);exact ⟨a,by rw [ha]; rfl⟩
  | @skip v ps vs h ih =>
   intro i;obtain ⟨a,ha⟩:=ih (i+1);refine ⟨fun j=>if j=i then v else a j,?_⟩
   have e:∀ (ps:List (Option Value)) (k:Nat),i < k→qE (fun j=>if j=i then v else a j) k ps=qE a k ps:=by
    intro ps
    induction ps with
    | nil=>intros; rfl
    | cons p ps ih =>
     intro k hk;cases p with
     | none=>simp only [qE,ih (k+1) (by omega),if_neg (show k≠i by omega)]
     | some p=>simp only [qE,ih (k+1) (by omega)]
   simp only [qE,e ps (i+1) (by omega),ha,if_true]
 exact key ps vs h 0
open Go Go.RowKit
def Og (E:Env) (o:Oper) (tmps:List Value) (H:aw) (k:SK) (q:Prop):Prop :=
 match o.op with
 | .store t x y=>B5 E tmps H t x y fun t' H'=>dg t' o.dst undef fun vn=>k vn H'
 | .call c=>match c.callee with
  | .builtin .append=>match c.args.toList,c.argTypes.toList with
   | [x,y],[t,t']=>match Nat.beq t t' with
    | true=>MY E tmps H t x y fun v t1 H1=>dg t1 o.dst v fun t2=>k t2 H1
    | false=>q
   | _,_=>False
  | .builtin .clear=>match c.args.toList,c.argTypes.toList with
   | [x],[t]=>NG E tmps H t x fun H1=>dg tmps o.dst (.tuple #[]) fun t2=>k t2 H1
   | _,_=>False
  | .builtin .copy=>match c.args.toList,c.argTypes.toList with
   | [x,y],[t,_]=>bT tmps x fun xv=>bT tmps y fun yv=>F0 E H t xv yv fun v H1=>dg tmps o.dst v fun t2=>k t2 H1
   | _,_=>False
  | .value f=>bT tmps f fun fv=>match fv with
   | .func (.func g) a b=>match E.Ψ g with
    | some G=>qi tmps c.args.toList fun vs=>qN a.toList vs fun l=>qN l b.toList fun args=>G args H fun v H'=>dg tmps o.dst v fun t'=>k t' H'
    | none=>q
   | .func (.yield l) a b=>match a.toList,b.toList,E.ys with
    | [],[],(l',G)::_=>l'=l∧qi tmps c.args.toList fun vs=>G vs H fun v H'=>dg tmps o.dst v fun t'=>k t' H'
    | _,_,_=>False
   | _=>False
  | _=>q
 | _=>q
def y6 (E:Env) (o:Oper) (tmps:List Value) (H:aw) (k:SK):Prop :=
 Og E o tmps H k (jw H fun aE=>lC E o.op tmps H aE fun v nb=>dg tmps o.dst v fun t'=>uU H nb fun H'=>k t' H')
def xo (E:Env) (ops:List Oper) (o:Oper) (tmps:List Value) (H:aw) (k:SK):Prop :=
 match o.guard with
 | none=>y6 E o tmps H k
 | some (j,want)=>match (ops[j]?).bind (·.dst) with
  | some d=>qM tmps d fun v=>match v with
   | .bool b=>match want with
    | true=>br b (y6 E o tmps H k) (dg tmps o.dst undef fun t'=>k t' H)
    | false=>br b (dg tmps o.dst undef fun t'=>k t' H) (y6 E o tmps H k)
   | .tuple _=>dg tmps o.dst undef fun t'=>k t' H
   | _=>False
  | none=>False
def nw (E:Env) (ops:List Oper):List Oper→List Value→aw→SK→Prop
 | [],t,H,k=>k t H
 | [o],t,H,k=>xo E ops o t H k
 | o::p::l,t,H,k=>xo E ops o t H fun t' H'=>nw E ops (p::l) t' H' k
theorem Lr {E:Env} {ops l:List Oper} {o:Oper} {t:List Value} {H:aw} {k:SK} (h:nw E ops (o::l) t H k):xo E ops o t H fun t' H'=>nw E ops l t' H' k:=by
 cases l with
 | nil=>exact h
 | cons p l=>exact h
section
variable {P:Program} {E:Env} {r:Option Nat} {n:Nat} {F:Fr}
def uj (ν:Nu) (H:aw) (x:Nat):Prop:=∃ id c l,H[id]?=some (some c)∧c.own=true∧ν id=some l∧x=l.aG
theorem bw.called {ν ai:Nu} {tmps:List Value} {H H':aw} {a:Act} {w w':World} (hi:bw F ν tmps H a w) (hle:ν.le ai) (zS:bU ai H' w') (zn:∀ id,H'.length≤id→ai id=none)
  (tb:Kept (uj ν H) w w') (kB:∀ id b l,H'[id]?=some (some b)→b.own=true→ai id=some l→uj ν H l.aG∨w.heap.size≤l.aG):bw F ai tmps H' a w':=by
 have hO:∀ x,uj ν H x→F.O x∨F.W.heap.size≤x:=by
  rintro x ⟨id,c,l,h1,J,h3,rfl⟩
  exact hi.own id c l h1 J h3
 refine ⟨hi.tm.mono hle,A6 hi.df fun D hD=>?_,zS,zn,hi.kp.then tb hO,fun id b l h5 h6 h7=>(kB id b l h5 h6 h7).elim (hO _) (fun h=>.inr (Nat.le_trans hi.kp.size h)),Nu.le_trans hi.mono hle⟩
 refine (tb.aG D (Array.getElem?_eq_some_iff.1 hD).1 ?_).trans hD
 rintro ⟨id,c,l,h1,J,h3,rfl⟩
 obtain ⟨l',h4,hB⟩:=hi.hp.aG id c h1;rw [h3] at h4; cases h4;cases hr:c.rc with
 | none =>
  obtain ⟨cur,t,h5,_⟩:=hB.own J hr;rw [h5] at hD; cases hD
 | some r =>
  have:=hB.lr r hr;rw [this] at hD; cases hD
theorem KK (hE:j4 P E) (bM:lE F E) {o:Oper} {ν:Nu} {tmps:List Value} {H:aw} {a:Act} {w:World} (hi:bw F ν tmps H a w) {k:SK}
  (h:y6 E o tmps H k) {next:Act→World→Prop} {Q:Exit→Act→World→Prop}
  (hk:∀ ν t' H' a' w',bw F ν t' H' a' w'→k t' H'→next a' w'):o.wpIn (WF r) n P a w next Q:=by
 have quiet:(jw H fun aE=>lC E o.op tmps H aE fun v nb=>dg tmps o.dst v fun t'=>uU H nb fun H'=>k t' H')→o.wpIn (WF r) n P a w next Q:=by
  intro h;have h:=mr h;obtain ⟨v,nb,ri,hq⟩:=A5 (P:=P) hE.toEnvOk h;refine hq o ν a w r n rfl (fun x _=>hi.mB x) hi.hp (hi.fr _ (Nat.le_refl _)) next Q (fun v' w' ai hp=>?_)
  have sB:∀ (k':aw→Prop),uU H nb k'→∃ H',k' H'∧bw F ai tmps H' a w':=fun k' Im=>hi.quiet hp Im
  -- first the new block, then the slot
  cases hd:o.dst with
  | none =>
   rw [hd] at ri;obtain ⟨H',h1,J⟩:=sB _ ri;exact hk _ _ _ _ _ J h1
  | some d =>
   rw [hd] at ri;obtain ⟨h1,J⟩:=oQ ri;obtain ⟨H',h3,h4⟩:=sB _ J;refine hk ai (tmps.set d v) H' _ w' ⟨?_,h4.df,h4.hp,h4.fr,h4.kp,h4.own,h4.mono⟩ h3;rw [rS];exact h4.tm.set hp.val d
 unfold y6 Og at h
 split at h
 ·rename_i t x y ho;exact Rx hE.toEnvOk ho hi h hk
 ·rename_i c ho
  split at h
  ·rename_i hc
   split at h
   ·rename_i x y t t' hx ht
    split at h
    ·rename_i hb;have hb:t=t':=Nat.eq_of_beq_eq_true hb;subst hb;obtain ⟨v,v',ai,t1,H1,w1,h,hv,aP,bB⟩:=Q8 hE.toEnvOk bM hi h o.type;obtain ⟨t2,h,gY⟩:=aP.dst hv h;have hx:c.args=#[x,y]:=Array.ext' hx;have ht:c.argTypes=#[t,t]:=Array.ext' ht;exact jM (by simp [ho]) (by simp [execOp,ho,resolve,hc,hx,ht,invoke,builtin,bB]) next Q (hk _ _ _ _ _ gY h)
    ·exact quiet h
   ·exact h.elim
  ·rename_i hc
   split at h
   ·rename_i x t hx ht;obtain ⟨H1,w1,h,aP,bB⟩:=Rz hE.toEnvOk hi h o.type;obtain ⟨t2,h,gY⟩:=aP.dst (.tuple [] [] rfl (fun i x y hx _=>by simp at hx)) h
    have hx:c.args=#[x]:=Array.ext' hx;have ht:c.argTypes=#[t]:=Array.ext' ht;exact jM (by simp [ho]) (by simp [execOp,ho,resolve,hc,hx,ht,invoke,builtin,bB]) next Q (hk _ _ _ _ _ gY h)
   ·exact h.elim
  ·rename_i hc
   split at h
   ·rename_i x y t t2 hx ht;obtain ⟨xv,J,vj⟩:=kQ h (hi.mB x);clear h;obtain ⟨yv,h,vk⟩:=kQ J (hi.mB y);obtain ⟨v,H1,w1,h,hv,aP,bB⟩:=KH hE.toEnvOk hi vj vk h t2 o.type;obtain ⟨t2,h,gY⟩:=aP.dst hv h;have hx:c.args=#[x,y]:=Array.ext' hx;have ht:c.argTypes=#[t,_]:=Array.ext' ht;exact jM (by simp [ho]) (by simp [execOp,ho,resolve,hc,hx,ht,invoke,builtin,bB]) next Q (hk _ _ _ _ _ gY h)
   ·exact h.elim
  ·rename_i f hc;have h0:=h;obtain ⟨fv,J,hf⟩:=kQ h (hi.mB f);clear h
   split at J
   ·rename_i g xa ya
    split at J
    ·rename_i G hG;obtain ⟨vs,h,fp⟩:=D5 J (fun z _=>hi.mB z)
     clear J;have J:=wc (wc h);clear h;have ba:=hE.ft g G hG;obtain ⟨ys,c7,j7,h3,h4⟩:=hf.rW;have n3:=(h3.append fp).append h4;refine ⟨fun _ _=>trivial,?_⟩
     have bB:(execOp a.eval o).run P w=.ok (.enter g ⟨(ys++c.args.toList.map a.eval)++c7⟩) w:=by
      simp only [execOp,ho,resolve,hc,j7,Deferred.ofValue,Sem.run_bind,Sem.run_pure,Result.andThen_ok,invoke,ba.enters]
      congr 2
      apply Array.ext';simp
     rw [Oper.semAt_eq _ _ _ (by simp [ho]),bB]
     refine ⟨fun h=>by simp [WF,Fence.wide] at h,?_⟩
     have yW:=ba.calls _ H _ J ν _ w (n - 1) (uj ν H) n3 hi.hp hi.fr (fun id b l h5 h6 h7=>⟨id,b,l,h5,h6,h7,rfl⟩)
     have yE:CallsIn (WF r) (n - 1) P g ⟨(ys++c.args.toList.map a.eval)++c7⟩ w _:=yW;refine yE.mono ?_
     rintro e w' ⟨v,v',ai,H',rfl,h,hv,hle,zS,zn,tb,kB⟩
     have aP:bw F ai tmps H' a w':=hi.called hle zS zn tb kB;obtain ⟨t',h,gY⟩:=aP.dst hv h;exact hk _ _ _ _ _ gY h
    ·exact quiet J
   ·rename_i l xa ya
    split at J
    ·rename_i l' G rest vr zT Dl;obtain ⟨rfl,J⟩:=J;obtain ⟨vs,J,fp⟩:=D5 J (fun z _=>hi.mB z)
     obtain ⟨ys,c7,j7,h3,h4⟩:=hf.rW;rw [vr] at h3; rw [zT] at h4;have e1:=h3.iP;have e2:=h4.iP;subst e1; subst e2;obtain ⟨fn,tm,PG,body,hy,YY⟩:=hE.ys l' G rest Dl _ H _ J ν _ w (n - 1) (uj ν H) (Nu.le_trans bM.nu hi.mono) fp hi.hp hi.fr (fun id b l h5 h6 h7=>⟨id,b,l,h5,h6,h7,rfl⟩)
     refine ⟨fun _ _=>trivial,?_⟩
     have bB:(execOp a.eval o).run P w=.ok (.round l' fn tm PG body) w:=by
      simp only [execOp,ho,resolve,hc,j7,Deferred.ofValue,Sem.run_bind,Sem.run_pure,Result.andThen_ok,invoke];have e:(⟨List.map a.eval c.args.toList⟩:Array Value)=Array.map a.eval c.args:=Array.ext' (by simp)
      rw [e] at hy
      simpa using hy
     rw [Oper.semAt_eq _ _ _ (by simp [ho]),bB]
     refine ⟨fun h=>by simp [WF,Fence.wide] at h,?_⟩
     have V8:RoundIn (WF r) (n - 1) P l' fn tm PG body w _:=YY;refine V8.mono ?_
     rintro e w' ⟨v,v',ai,H',rfl,h,hv,hle,zS,zn,tb,kB⟩
     have aP:bw F ai tmps H' a w':=hi.called hle zS zn tb kB;obtain ⟨t',h,gY⟩:=aP.dst hv h;exact hk _ _ _ _ _ gY h
    ·exact J.elim
   ·exact J.elim
  ·exact quiet h
 ·exact quiet h
theorem ye {ops:Array Oper} {tmps:Array Value} {j:Nat} {d:Tmp} (hd:(ops[j]?).bind (·.dst)=some d):yielded ops tmps j=match tmps[d]? with | some (.bool b)=>some b | _=>none:=by
 unfold yielded;rw [hd]
 rfl
theorem Ew (hE:j4 P E) (bM:lE F E) {ops:Array Oper} {o:Oper} {ν:Nu} {tmps:List Value} {H:aw} {a:Act} {w:World} (hi:bw F ν tmps H a w) {k:SK}
  (h:xo E ops.toList o tmps H k) {next:Act→World→Prop} {Q:Exit→Act→World→Prop}
  (hk:∀ ν t' H' a' w',bw F ν t' H' a' w'→k t' H'→next a' w') :
  if Region.wanted o (yielded ops a.tmps) then o.wpIn (WF r) n P a w next Q else (∀ f,o.about P w a.eval=some f→(WF r).fn f)∧next (a.put o.dst undef) w:=by
 unfold xo at h;have skip:(dg tmps o.dst undef fun t'=>k t' H)→(∀ f,o.about P w a.eval=some f→(WF r).fn f)∧next (a.put o.dst undef) w:=fun h=>by
  obtain ⟨t',h1,J⟩:=hi.dst (.undef ν) h;exact ⟨fun _ _=>trivial,hk _ _ _ _ _ J h1⟩
 split at h
 ·rename_i hg;have:Region.wanted o (yielded ops a.tmps)=true:=by simp [Region.wanted,hg]
  rw [if_pos this];exact KK hE bM hi h hk
 ·rename_i j want hg
  split at h
  ·rename_i d hd;have cS:(ops[j]?).bind (·.dst)=some d:=by simpa using hd
   obtain ⟨v,hv,h⟩:=oP h;obtain ⟨v',vm,hr⟩:=hi.tm.get hv;have acS:a.tmps[d]?=some v':=by simpa using vm
   have hy:=ye (tmps:=a.tmps) cS;rw [acS] at hy
   split at h
   ·rename_i b;have:=hr.ki;subst this;have hw:Region.wanted o (yielded ops a.tmps)=(b == want):=by
     simp only [Region.wanted,hg,hy];cases b <;> cases want <;> rfl
    rw [hw];cases want <;> cases b <;> first | exact KK hE bM hi h hk | exact skip h
   ·rename_i vs;obtain ⟨ys,rfl,_⟩:=aq.nT (xs:=vs.toList) hr;have hw:Region.wanted o (yielded ops a.tmps)=false:=by
     simp only [Region.wanted,hg,hy]
     rfl
    rw [hw];simp only [Bool.false_eq_true,if_false];exact skip h
   ·exact h.elim
  ·exact h.elim
theorem Ls (hE:j4 P E) (bM:lE F E) {ops:Array Oper} {Q:Exit→Act→World→Prop}:∀ {l:List Oper} {idx:List Nat} {ν:Nu} {tmps:List Value} {H:aw} {a:Act} {w:World} {k:SK},
  idx.map (ops[·]?)=l.map some→bw F ν tmps H a w→nw E ops.toList l tmps H k→(∀ ν t' H' a' w',bw F ν t' H' a' w'→k t' H'→Q .normal a' w')→wpOpsIn (WF r) n P ops Q idx a w
 | [],idx,ν,tmps,H,a,w,k,he,hi,h,hk=>by
  have:idx=[]:=by cases idx with
   | nil=>rfl
   | cons=>simp at he
  subst this;exact hk _ _ _ _ _ hi h
 | o::l,idx,ν,tmps,H,a,w,k,he,hi,h,hk=>by
  cases idx with
  | nil=>simp at he
  | cons i idx =>
   simp only [List.map_cons,List.cons.injEq] at he;simp only [wpOpsIn,he.1];exact Ew hE bM hi (Lr h) (fun ν t' H' a' w' aP h'=>Ls hE bM he.2 aP h' hk)
theorem Q9 (hE:j4 P E) (bM:lE F E) {ops:Array Oper} {Q:Exit→Act→World→Prop} {id:Nat} {ν:Nu} {tmps:List Value} {H:aw} {a:Act} {w:World} {k:SK}
  (hi:bw F ν tmps H a w) (h:nw E ops.toList ops.toList tmps H k) (hk:∀ ν t' H' a' w',bw F ν t' H' a' w'→k t' H'→Q .normal a' w'):(Code.region id ops false).wpIn (WF r) n P Q a w:=by
 refine wpIn_region (Ls hE bM ?_ hi h hk);apply List.ext_getElem?;intro i;simp only [List.getElem?_map,List.getElem?_range,Array.getElem?_toList];by_cases ak:i < ops.size
 ·simp [ak]
 ·simp [ak]
end
open Go Go.RowKit
abbrev XK:=Nat→List Value→aw→Prop
def BG (body:List Value→aw→SK→Prop):Nat→List Value→aw→Prop
 | 0,_,_=>False
 | m+1,t,H=>body t H (BG body m)
def G4:List Value→List Nat→List Value→(List Value→Prop)→Prop
 | t,[],[],k=>k t
 | t,p::ps,x::xs,k=>xB t p x fun t'=>G4 t' ps xs k
 | _,_,_,_=>False
theorem KL:∀ {t:List Value} {ps:List Nat} {xs:List Value} {k:List Value→Prop},G4 t ps xs k→ps.length=xs.length∧∃ t1,k t1∧∀ (ν:Nu) (a:Array Value) (as:List Value),bc ν t a.toList→bc ν xs as→bc ν t1 ((ps.zip as).foldl (fun t (p,v)=>t.setIfInBounds p v) a).toList
 | t,[],[],k,h=>⟨rfl,t,h,fun ν a as ha hx=>ha⟩
 | t,p::ps,x::xs,k,h=>by
  obtain ⟨ak,h⟩:=oQ h;obtain ⟨h1,t1,J,h3⟩:=KL h;refine ⟨by simp [h1],t1,J,fun ν a as ha hx=>?_⟩
  obtain ⟨y,ys,rfl,k1,k2⟩:=hx.jl;refine h3 ν (a.setIfInBounds p y) ys ?_ k2;rw [Array.toList_setIfInBounds];exact ha.set k1 p
 | _,[],_::_,_,h=>h.elim
 | _,_::_,[],_,h=>h.elim
def Cp (H:aw) (id:Nat) (k:Loop→Prop):Prop :=
 gG H id fun b=>match b with
  | .b9 r=>k r
  | _=>False
def Cq (R:LoopState→Option Code→Loop) (γ:Nat) (jump:Option Code) (K:Value→aw→Prop) (H:aw):Prop :=
 Cp H γ fun r=>r=R .busy none∧jv H γ (some (.b9 (R (match jump with | none=>.ready | some _=>.done) jump))) fun H'=>K (.bool (match jump with | none=>true | some _=>false)) H'
def YZ (R:LoopState→Option Code→Loop) (γ:Nat) (t:List Value) (kn:SK) (kx:XK) (kr:SK) (H:aw):Prop :=
 Cp H γ fun r=>jv H γ none fun H'=>match r.state,r.pending with
  | .busy,_=>False
  | _,none=>kn t H'
  | _,some (.exit i)=>kx i t H'
  | _,some .ret=>kr t H'
  | _,_=>False
def vc:Env→(Env→List Oper→List Value→aw→SK→Prop)→Code→List Value→aw→SK→XK→SK→Prop
 | _,_,.skip,t,H,kn,_,_=>kn t H
 | E,_,.region _ ops false,t,H,kn,_,_=>nw E ops.toList ops.toList t H kn
 | E,D,.region _ ops true,t,H,kn,_,_=>D E ops.toList t H kn
 | E,D,.seq a b,t,H,kn,kx,kr=>vc E D a t H (fun t H=>vc E D b t H kn kx kr) kx kr
 | E,D,.cond c x y,t,H,kn,kx,kr=>bT t c fun v=>match v with
  | .bool b=>br b (vc E D x t H kn kx kr) (vc E D y t H kn kx kr)
  | _=>False
 | E,D,.block id c,t,H,kn,kx,kr=>vc E D c t H kn (fun i t H=>match Nat.beq i id with | true=>kn t H | false=>kx i t H) kr
 | _,_,.exit id,t,H,_,kx,_=>kx id t H
 | _,_,.ret,t,H,_,_,kr=>kr t H
 | E,D,.loop c,t,H,_,kx,kr =>
  (∃ I:Nat→List Value→aw→Prop,(HE E t H fun t H=>∃ n,I n t H)∧∀ n t H,I n t H→vc E D c t H (fun t H=>HE E t H fun t H=>∃ m,m < n∧I m t H) kx kr) ∨
  (∃ m,BG (fun t H k=>vc E D c t H k kx kr) m t H)
 | E,D,.rangeFunc g ps assign body,t,H,kn,kx,kr=>match E.rd with
  | true=>False
  | false=>bT t g fun gv=>match gv with
   | .func (.func f) a b=>match a.toList,E.It f with
    | [],some I=>∀ (l:Nat) (nu:Nu) (fn:FuncId) (tm:Array Value) (df:Nat),jw H fun γ=>o8 H (some (.b9 ⟨.ready,none,fn,tm,ps,assign,body,df⟩)) fun H1 =>
     I l (fun args H K=>Cp H γ fun r=>r=⟨.ready,none,fn,tm,ps,assign,body,df⟩∧G4 t ps.toList args fun t1=>jw H fun n0 =>
       vc { E with base:=n0,rd:=true } D assign t1 H (fun t2 H2=>Cp H2 γ fun r2=>r2=⟨.ready,none,fn,tm,ps,assign,body,df⟩∧jv H2 γ (some (.b9 ⟨.busy,none,fn,tm,ps,assign,body,df⟩)) fun H3 =>
         vc { E with base:=n0,rd:=true } D body t2 H3 (fun _ H4=>Cq (fun s p=>⟨s,p,fn,tm,ps,assign,body,df⟩) γ none K H4) (fun i _ H4=>Cq (fun s p=>⟨s,p,fn,tm,ps,assign,body,df⟩) γ (some (.exit i)) K H4)
          (fun _ H4=>Cq (fun s p=>⟨s,p,fn,tm,ps,assign,body,df⟩) γ (some .ret) K H4))
        (fun _ _ _=>False) (fun _ _=>False))
      nu (.func (.yield l) #[] #[]::b.toList) H1 fun _ H2=>YZ (fun s p=>⟨s,p,fn,tm,ps,assign,body,df⟩) γ t kn kx kr H2
    | _,_=>False
   | _=>False
 | _,_,_,_,_,_,_,_=>False
def wz (E:Env) (H:aw) (tmps:List Value):List ResultVar→(List Value→Prop)→Prop
 | [],k=>k []
 | .tmp t::l,k=>qM tmps t fun v=>wz E H tmps l fun vs=>k (v::vs)
 | .cell a t::l,k=>qM tmps a fun av=>match av with
  | .pointer (some ⟨id,row,sp⟩)=>cJ E.tt t fun ti=>gG H id fun b=>Hq b row fun cs=>ux cs (sp.getD 0) ti.size fun us=>wz E H tmps l fun vs=>k (valOf ti.agg us::vs)
  | _=>False
def CQ (vs:List Value) (k:Value→Prop):Prop :=
 match vs with
 | [v]=>k v
 | vs=>k (.tuple ⟨vs⟩)
def wZ:Value→Bool
 | .bool _ | .int _ _ | .string _ | .pointer none | .nilFunc=>true
 | .agg cs=>jP cs.toList
 | .func _ a b=>a.toList.isEmpty && b.toList.isEmpty
 | _=>false
def tK:List Value→Bool
 | []=>true
 | v::l=>wZ v && tK l
def B6:Value→Bool
 | .tuple vs=>tK vs.toList
 | .func _ a b=>tK a.toList && tK b.toList
 | v=>wZ v
theorem bc.Lt {ν:Nu}:∀ {l:List Value},jP l=true→bc ν l l
 | [],_=>.nil ν
 | v::l,h=>by
  simp only [jP,Bool.and_eq_true] at h;exact .cons (aq.kR h.1) (bc.Lt h.2)
theorem Ki {v:Value} (h:wZ v=true):(∀ ν,aq ν v v)∧∀ ν w,aq ν v w→w=v:=by
 cases v with
 | bool b=>exact ⟨fun ν=>.bool b,fun ν w hw=>hw.ki⟩
 | int k n=>exact ⟨fun ν=>.int k n,fun ν w hw=>hw.fK⟩
 | string s=>exact ⟨fun ν=>.str s,fun ν w hw=>hw.r9⟩
 | pointer a =>
  cases a with
  | none=>exact ⟨fun ν=>.mC,fun ν w hw=>by cases hw; rfl⟩
  | some a=>simp [wZ] at h
 | nilFunc=>exact ⟨fun ν=>.mD,fun ν w hw=>by cases hw; rfl⟩
 | agg cs =>
  have h':jP cs.toList=true:=h;refine ⟨fun ν=>?_,fun ν w hw=>?_⟩
  ·have:=bc.Lt (ν:=ν) h';exact .agg _ _ this.1 this.2
  ·obtain ⟨ys,rfl,hy⟩:=aq.ug (xs:=cs.toList) hw;rw [bc.kU (x0 h') hy]
 | func fn a b =>
  simp only [wZ,Bool.and_eq_true,List.isEmpty_iff] at h;refine ⟨fun ν=>?_,fun ν w hw=>?_⟩
  ·have e1:a=⟨[]⟩:=Array.ext' h.1;have e2:b=⟨[]⟩:=Array.ext' h.2;subst e1; subst e2;exact .func fn [] [] [] [] rfl (fun i x y hx _=>by simp at hx) rfl (fun i x y hx _=>by simp at hx)
  ·obtain ⟨ys,c7,rfl,h1,J⟩:=hw.rW;rw [h.1] at h1; rw [h.2] at J;rw [h1.iP,J.iP];rw [Array.ext' (xs:=a) (ys:=⟨[]⟩) h.1,Array.ext' (xs:=b) (ys:=⟨[]⟩) h.2]
 | _=>simp [wZ] at h
theorem Az:∀ {l:List Value},tK l=true→(∀ ν,bc ν l l)∧∀ ν m,bc ν l m→m=l
 | [],_=>⟨fun ν=>.nil ν,fun ν m hm=>hm.iP⟩
 | v::l,h=>by
  simp only [tK,Bool.and_eq_true] at h;obtain ⟨h1,J⟩:=Ki h.1;obtain ⟨h3,h4⟩:=Az h.2;refine ⟨fun ν=>.cons (h1 ν) (h3 ν),fun ν m hm=>?_⟩
  obtain ⟨y,ys,rfl,k1,k2⟩:=hm.jl;rw [J ν y k1,h4 ν ys k2]
theorem vV {v:Value} (h:B6 v=true):(∀ ν,aq ν v v)∧∀ ν w,aq ν v w→w=v:=by
 cases v with
 | tuple vs =>
  have h':tK vs.toList=true:=h;obtain ⟨h1,J⟩:=Az h';refine ⟨fun ν=>.tuple _ _ (h1 ν).1 (h1 ν).2,fun ν w hw=>?_⟩
  obtain ⟨ys,rfl,hy⟩:=aq.nT (xs:=vs.toList) hw;rw [J ν ys hy]
 | func fn a b =>
  simp only [B6,Bool.and_eq_true] at h;obtain ⟨h1,J⟩:=Az h.1;obtain ⟨h3,h4⟩:=Az h.2;refine ⟨fun ν=>.func fn _ _ _ _ (h1 ν).1 (h1 ν).2 (h3 ν).1 (h3 ν).2,fun ν w hw=>?_⟩
  obtain ⟨ys,c7,rfl,k1,k2⟩:=hw.rW;rw [J ν ys k1,h4 ν c7 k2]
 | _=>exact Ki h
def A7:List Value→Bool
 | []=>true
 | v::l=>B6 v && A7 l
theorem DT:∀ {l:List Value},A7 l=true→(∀ ν,bc ν l l)∧∀ ν m,bc ν l m→m=l
 | [],_=>⟨fun ν=>.nil ν,fun ν m hm=>hm.iP⟩
 | v::l,h=>by
  simp only [A7,Bool.and_eq_true] at h;obtain ⟨h1,J⟩:=vV h.1;obtain ⟨h3,h4⟩:=DT h.2;refine ⟨fun ν=>.cons (h1 ν) (h3 ν),fun ν m hm=>?_⟩
  obtain ⟨y,ys,rfl,k1,k2⟩:=hm.jl;rw [J ν y k1,h4 ν ys k2]
def nF (P:Program) (D:Env→List Oper→List Value→aw→SK→Prop):Prop :=
 ∀ (E:Env),j4 P E→∀ (r:Option Nat) (n:Nat) (F:Fr),lE F E→∀ (ops:Array Oper) (Q:Exit→Act→World→Prop) (id:Nat) (ν:Nu) (tmps:List Value) (H:aw) (a:Act) (w:World) (k:SK),
  bw F ν tmps H a w→D E ops.toList tmps H k→(∀ ν t' H' a' w',bw F ν t' H' a' w'→k t' H'→Q .normal a' w')→(Code.region id ops true).wpIn (WF r) n P Q a w
section
variable {P:Program} {E:Env} {r:Option Nat} {n:Nat} {F:Fr} {D:Env→List Oper→List Value→aw→SK→Prop}
theorem bw.MZ {F:Fr} {ν:Nu} {t:List Value} {H:aw} {a:Act} {w:World} (hi:bw F ν t H a w) {γ:Nat} {r:Loop} {l:Loc} (r':Loop) (hb:H[γ]?=some (some (.b9 r))) (hl:ν γ=some l) :
  bw F ν t (H.set γ (some (.b9 r'))) a (w.putObj l.aG (.loop r')):=by
 have ak:γ < H.length:=(List.getElem?_eq_some_iff.1 hb).1;obtain ⟨l',cB,hB⟩:=hi.hp.aG γ _ hb;rw [hl] at cB; cases cB;have CS:=hB.lr r rfl;have hw:l.aG < w.heap.size:=(Array.getElem?_eq_some_iff.1 CS).1;have c5:∀ (id:Nat) (b:ah),(H.set γ (some (.b9 r')))[id]?=some (some b)→(id=γ∧b=.b9 r')∨(id≠γ∧H[id]?=some (some b)):=fun id b h=>by
  by_cases e:id=γ
  ·subst e; rw [List.getElem?_set_self ak] at h; cases h; exact .inl ⟨rfl,rfl⟩
  ·rw [List.getElem?_set_ne (Ne.symm e)] at h; exact .inr ⟨e,h⟩
 refine ⟨hi.tm,A6 hi.df fun D hD=>(World.putObj_heap_other (fun e=>by rw [e,CS] at hD; cases hD)).trans hD,⟨fun id b h=>?_,fun i j bi bj li lj h1 J aH ho e1 e2=>?_⟩,fun id bn=>hi.fr id (by simpa using bn),
  hi.kp.then (O':=fun x=>x=l.aG) ⟨rfl,rfl,rfl,by simp,fun b h1 J=>World.putObj_heap_other J⟩ (fun b bF=>by subst bF; exact hi.own γ _ _ hb rfl hl),fun id b l' h ho cB=>?_,hi.mono⟩
 ·rcases c5 id b h with ⟨rfl,rfl⟩ | ⟨aH,h⟩
  ·exact ⟨l,hl,hB.ae,fun r hr=>absurd hr (Nat.not_lt_zero r),fun r hr=>absurd hr (Nat.not_lt_zero r),(fun h=>nomatch h),fun r hr=>absurd hr (Nat.not_lt_zero r),(fun _ h=>nomatch h),fun r hr=>by cases hr; exact World.putObj_heap_same hw,by simpa using hw⟩
  ·obtain ⟨l',cB,hB'⟩:=hi.hp.aG id b h;exact ⟨l',cB,hB'.same (World.putObj_heap_other (Ne.symm (hi.hp.sep γ id _ b l l' hb h (Ne.symm aH) rfl hl cB))) (by simp)⟩
 ·rcases c5 i bi h1 with ⟨rfl,rfl⟩ | ⟨hni,g1⟩ <;> rcases c5 j bj J with ⟨rfl,rfl⟩ | ⟨hnj,g2⟩
  ·exact absurd rfl aH
  ·exact hi.hp.sep _ j _ bj li lj hb g2 aH rfl e1 e2
  ·exact hi.hp.sep i _ bi _ li lj g1 hb aH ho e1 e2
  ·exact hi.hp.sep i j bi bj li lj g1 g2 aH ho e1 e2
 ·rcases c5 id b h with ⟨rfl,rfl⟩ | ⟨aH,h⟩
  ·exact hi.own _ _ _ hb rfl cB
  ·exact hi.own id b l' h ho cB
theorem UC (hD:nF P D):∀ (c:Code) {E:Env} {r:Option Nat} {n:Nat} {F:Fr},j4 P E→lE F E→(E.rd=false→r=none)→∀ {ν:Nu} {t:List Value} {H:aw} {a:Act} {w:World} {kn:SK} {kx:XK} {kr:SK} {Q:Exit→Act→World→Prop},
  bw F ν t H a w→vc E D c t H kn kx kr→(∀ ν t H a w,bw F ν t H a w→kn t H→Q .normal a w)→(∀ i ν t H a w,bw F ν t H a w→kx i t H→Q (.exit i) a w) →
  (∀ ν t H a w,bw F ν t H a w→kr t H→Q .ret a w)→c.wpIn (WF r) n P Q a w:=by
 intro c
 induction c with
 | skip=>exact fun hE bM fw=>fun hi h hn _ _=>wpIn_skip (hn _ _ _ _ _ hi h)
 | region id ops d =>
  intro E r n F hE bM fw ν t H a w kn kx kr Q hi h hn _ _;cases d with
  | false=>exact Q9 hE bM hi h hn
  | true=>exact hD E hE r n F bM ops Q id ν t H a w kn hi h hn
 | seq x y Ix Iy =>
  intro E r n F hE bM fw ν t H a w kn kx kr Q hi h hn hx hr;exact wpIn_seq (Ix hE bM fw hi h (fun ν t H a w aP h'=>Iy hE bM fw aP h' hn hx hr) hx hr)
 | cond c x y Ix Iy =>
  intro E r n F hE bM fw ν t H a w kn kx kr Q hi h hn hx hr;obtain ⟨v,h,hv⟩:=kQ h (hi.mB c)
  split at h
  ·rename_i b;have hb:=hv.ki;exact wpIn_cond_split hb (fun e=>Ix hE bM fw hi (BD h e) hn hx hr) (fun e=>Iy hE bM fw hi (Bj h e) hn hx hr)
  ·exact h.elim
 | block id c ih =>
  intro E r n F hE bM fw ν t H a w kn kx kr Q hi h hn hx hr;refine wpIn_block (ih hE bM fw hi h hn (fun i ν t H a w aP h'=>?_) hr)
  simp only [Exit.inBlock]
  split at h'
  ·rename_i e;rw [if_pos (Nat.eq_of_beq_eq_true e)]; exact hn _ _ _ _ _ aP h'
  ·rename_i e;rw [if_neg (Nat.ne_of_beq_eq_false e)]; exact hx _ _ _ _ _ _ aP h'
 | loop c ih =>
  intro E r n F hE bM fw ν t H a w kn kx kr Q hi h hn hx hr;rcases h with ⟨I,h00,uE⟩ | ⟨m,hm⟩
  ·-- by an invariant
   obtain ⟨ν,t,H,⟨m0,h0⟩,hi⟩:=Lq bM hi h00;have key:∀ (m:Nat) ν t H a w,bw F ν t H a w→I m t H→∀ (b:Frame) (k:List Item) (cs:List Frame),b.roundOf=(WF r).round→(WF r).fn b.fn→(WF r).room (cs.length+1+n) →
     ∃ e a' w',Q e a' w'∧ArrivesIn (Machine.fenced P (WF r)) P (lone (b.atR a (.code c::.inLoop c::k)) cs w) b k cs e a' w':=by
    intro m
    induction m using Nat.strongRecOn with
    | _ m Iz =>
     intro ν t H a w hi hI b k cs nG hb cO;have:=ih hE bM fw (Q:=fun e a w=>match e with | .normal=>∃ m' ν t H,m' < m∧bw F ν t H a w∧I m' t H | e=>Q e a w) hi (uE m t H hI)
      (fun ν t H a w aP h'=>let ⟨ν2,t2,H2,⟨m',ak,zU⟩,gY⟩:=Lq bM aP h'; ⟨m',ν2,t2,H2,ak,gY,zU⟩) hx hr b (.inLoop c::k) cs nG hb cO
     obtain ⟨e,mH,mI,hq,j6⟩:=this;cases e with
     | normal =>
      obtain ⟨m',ai,t',H',ak,aP,zU⟩:=hq;obtain ⟨HF,HG,HH,G5,F3⟩:=Iz m' ak ai t' H' mH mI aP zU b k cs nG hb cO;exact ⟨HF,HG,HH,G5,.of_steps (StepsIn.trans j6 (.one (fenced_calm hb cO rfl) stepR_inLoop)) F3⟩
     | exit id=>exact ⟨_,mH,mI,hq,.pass (x:=.inLoop c) rfl (fun _ _=>.inl (by simp)) j6⟩
     | goto l=>exact ⟨_,mH,mI,hq,.pass (x:=.inLoop c) rfl (fun _ _=>.inl (by simp)) j6⟩
     | ret=>exact ⟨_,mH,mI,hq,.pass (x:=.inLoop c) rfl (fun _ _=>.inl (by simp)) j6⟩
     | panic ch=>exact ⟨_,mH,mI,hq,.pass (x:=.inLoop c) rfl (fun _ _=>.inl (by simp)) j6⟩
     | outgrown=>exact ⟨_,mH,mI,hq,.pass (x:=.inLoop c) rfl (fun _ _=>.inl (by simp)) j6⟩
   intro b k cs nG hb cO;obtain ⟨e,a',w',hq,j6⟩:=key m0 ν t H a w hi h0 b k cs nG hb cO;exact ⟨e,a',w',hq,.of_steps (.one (fenced_calm hb cO rfl) stepR_loop) j6⟩
  ·-- round by round
   have key:∀ (m:Nat) ν t H a w,bw F ν t H a w→BG (fun t H k=>vc E D c t H k kx kr) m t H→∀ (b:Frame) (k:List Item) (cs:List Frame),b.roundOf=(WF r).round→(WF r).fn b.fn→(WF r).room (cs.length+1+n) →
     ∃ e a' w',Q e a' w'∧ArrivesIn (Machine.fenced P (WF r)) P (lone (b.atR a (.code c::.inLoop c::k)) cs w) b k cs e a' w':=by
    intro m
    induction m with
    | zero=>exact fun ν t H a w _ h=>h.elim
    | succ m Iz =>
     intro ν t H a w hi hI b k cs nG hb cO;have:=ih hE bM fw (Q:=fun e a w=>match e with | .normal=>∃ ν t H,bw F ν t H a w∧BG (fun t H k=>vc E D c t H k kx kr) m t H | e=>Q e a w) hi hI
      (fun ν t H a w aP h'=>⟨ν,t,H,aP,h'⟩) hx hr b (.inLoop c::k) cs nG hb cO
     obtain ⟨e,mH,mI,hq,j6⟩:=this;cases e with
     | normal =>
      obtain ⟨ai,t',H',aP,zU⟩:=hq;obtain ⟨HF,HG,HH,G5,F3⟩:=Iz ai t' H' mH mI aP zU b k cs nG hb cO;exact ⟨HF,HG,HH,G5,.of_steps (StepsIn.trans j6 (.one (fenced_calm hb cO rfl) stepR_inLoop)) F3⟩
     | exit id=>exact ⟨_,mH,mI,hq,.pass (x:=.inLoop c) rfl (fun _ _=>.inl (by simp)) j6⟩
     | goto l=>exact ⟨_,mH,mI,hq,.pass (x:=.inLoop c) rfl (fun _ _=>.inl (by simp)) j6⟩
     | ret=>exact ⟨_,mH,mI,hq,.pass (x:=.inLoop c) rfl (fun _ _=>.inl (by simp)) j6⟩
     | panic ch=>exact ⟨_,mH,mI,hq,.pass (x:=.inLoop c) rfl (fun _ _=>.inl (by simp)) j6⟩
     | outgrown=>exact ⟨_,mH,mI,hq,.pass (x:=.inLoop c) rfl (fun _ _=>.inl (by simp)) j6⟩
   intro b k cs nG hb cO;obtain ⟨e,a',w',hq,j6⟩:=key m ν t H a w hi hm b k cs nG hb cO;exact ⟨e,a',w',hq,.of_steps (.one (fenced_calm hb cO rfl) stepR_loop) j6⟩
 | exit id=>exact fun hE bM fw=>fun hi h _ hx _=>wpIn_exit (hx _ _ _ _ _ _ hi h)
 | ret=>exact fun hE bM fw=>fun hi h _ _ hr=>wpIn_ret (hr _ _ _ _ _ hi h)
 | rangeFunc g ps assign body iha ihb =>
  intro E r n F hE bM fw ν t H a w kn kx kr Q hi h hn hx hr;unfold vc at h
  split at h
  ·exact h.elim
  rename_i acT;obtain rfl:=fw acT;obtain ⟨gv,h,hg⟩:=kQ h (hi.mB g)
  split at h
  ·rename_i f xa ya
   split at h
   ·rename_i I vr hI;obtain ⟨zs,IA,dZ,hz,oq⟩:=hg.rW;rw [vr] at hz;have pF:=hz.iP;subst pF;have PH:=hE.Il f I hI;refine wpIn_rangeFunc ?_;intro fn hfn;obtain ⟨W1,zV⟩:∃ W1,W1=(w.alloc (.deferred (some []))).alloc (.loop { state:=.ready,pending:=none,fn,tmps:=a.tmps,params:=ps,assign,body,defers:=w.heap.size }):=⟨_,rfl⟩;refine ⟨w.heap.size+1,[{ target:=.collected w.heap.size,args:=#[] }],W1,{ target:=.fn (.func f) ⟨IA⟩,args:=#[.func (.yield (w.heap.size+1)) #[] #[]] },W1,f,
     #[.func (.yield (w.heap.size+1)) #[] #[]]++⟨IA⟩,W1,by rw [zV]; exact run_enterLoop_outer _ _ _ _ _,?_,fun _ _=>trivial,?_,fun h=>by simp [WF,Fence.wide] at h,?_⟩
    ·simp only [resolve,dZ];simp [go_sem]
    ·simp [invoke,go_sem,PH.enters]
    -- the record's block
    have nh:ν H.length=none:=hi.fr _ (Nat.le_refl _);obtain ⟨gm,zo⟩:∃ gm,gm=ν.add H.length ⟨w.heap.size+1,0,0,0⟩:=⟨_,rfl⟩;have sO:ν.le gm:=by rw [zo]; exact Nu.kl nh
    have h:=x9 (mr (h (w.heap.size+1) gm fn a.tmps w.heap.size));have HI:Below w.heap.size w W1:=by
     rw [zV]; exact ((Below.refl _ w).alloc (Nat.le_refl _) _).alloc (by simp) _
    have aU:W1.heap.size=w.heap.size+2:=by rw [zV]; simp
    have CS:W1.heap[w.heap.size+1]?=some (.loop { state:=.ready,pending:=none,fn,tmps:=a.tmps,params:=ps,assign,body,defers:=w.heap.size }):=by
     rw [zV]; have:=World.alloc_heap_new (w.alloc (.deferred (some []))) (.loop { state:=.ready,pending:=none,fn,tmps:=a.tmps,params:=ps,assign,body,defers:=w.heap.size }); rwa [World.size_alloc] at this
    have abi:W1.heap[w.heap.size]?=some (.deferred (some [])):=by
     rw [zV]; exact (Below.heap_alloc _ _ _ (by simp)).trans (World.alloc_heap_new w _)
    have me:bU gm (H++[some (.b9 { state:=.ready,pending:=none,fn,tmps:=a.tmps,params:=ps,assign,body,defers:=w.heap.size })]) W1:=by
     rw [zo];refine hi.hp.push (b:=.b9 { state:=.ready,pending:=none,fn,tmps:=a.tmps,params:=ps,assign,body,defers:=w.heap.size }) HI nh _ (fun j c hj=>?_) (by simp) ⟨rfl,fun r hr=>absurd hr (Nat.not_lt_zero r),fun r hr=>absurd hr (Nat.not_lt_zero r),(fun h=>nomatch h),fun r hr=>absurd hr (Nat.not_lt_zero r),(fun _ h=>nomatch h),fun r hr=>by cases hr; exact CS,by rw [aU]; simp⟩
     rw [List.getElem?_append] at hj
     split at hj
     ·rename_i ak;exact .inr ⟨by omega,hj⟩
     ·rename_i dZ;have:j - H.length=0:=by
       rcases Nat.eq_zero_or_pos (j - H.length) with e | e
       ·exact e
       ·rw [List.getElem?_eq_none (by simp; omega)] at hj; cases hj
      rw [this] at hj;simp at hj;exact .inl ⟨by omega,hj.symm⟩
    have acU:∀ id,(H++[some (ah.b9 { state:=.ready,pending:=none,fn,tmps:=a.tmps,params:=ps,assign,body,defers:=w.heap.size })]).length≤id→gm id=none:=fun id bn=>by
     rw [List.length_append] at bn;rw [zo,Nu.iQ (by simp at bn; omega)]
     exact hi.fr id (by simp at bn; omega)
    have n3:bc gm (.func (.yield (w.heap.size+1)) #[] #[]::ya.toList) (#[Value.func (.yield (w.heap.size+1)) #[] #[]]++(⟨IA⟩:Array Value)).toList:=by
     simp only [Array.toList_append];exact .cons (.func _ [] [] [] [] rfl (fun i x y hx _=>by simp at hx) rfl (fun i x y hx _=>by simp at hx)) (oq.mono sO)
    have Dm:gm H.length=some ⟨w.heap.size+1,0,0,0⟩:=by rw [zo]; exact Nu.add_same
    refine (PH.calls _ _ gm ?_ _ _ _ h gm _ W1 (n - 1) (uj gm (H++[some (.b9 { state:=.ready,pending:=none,fn,tmps:=a.tmps,params:=ps,assign,body,defers:=w.heap.size })])) (fun _ _ h=>h) n3 me acU (fun id b l h1 J h3=>⟨id,b,l,h1,J,h3,rfl⟩)).mono ?_
    ·intro xs Hy K hG vt as wy m O HJ nH PI CT abj;obtain ⟨by0,acV,hG⟩:=gB hG
     split at hG
     ·rename_i ry;obtain ⟨rfl,hG⟩:=hG;obtain ⟨ly,IB,hBy⟩:=PI.aG _ _ acV;have OW:=HJ _ _ Dm;rw [IB] at OW; cases OW;have abk:=hBy.lr _ rfl;obtain ⟨hlen,t1,hG,PJ⟩:=KL hG;have hG:=mr hG;have CU:(⟨as⟩:Array Value).size=ps.size:=by
       have:=nH.1;simp at this ⊢
       simpa [this] using hlen.symm
      refine ⟨fn,_,assign,body,run_yield abk CU,roundIn_of_wpIn trivial ?_⟩;have PK:j4 P { E with base:=Hy.length,rd:=true }:=⟨⟨hE.ty,hE.eq,hE.fn,hE.ft⟩,hE.Il,hE.ys⟩
      have PM:lE ⟨wy,O,vt,Hy.length,CT⟩ { E with base:=Hy.length,rd:=true }:=⟨Nat.le_refl _,Nu.le_trans bM.nu (Nu.le_trans hi.mono (Nu.le_trans sO HJ))⟩
      have gY:bw ⟨wy,O,vt,Hy.length,CT⟩ vt t1 Hy { tmps:=(ps.zip ⟨as⟩).foldl (fun tmps (t,a)=>tmps.setIfInBounds t a) a.tmps,defers:=[] } wy:=by
       refine ⟨?_,Marks.nil _ _,PI,CT,Kept.refl wy,fun id b l h1 J h3=>.inl (abj id b l h1 J h3),vt.le_refl⟩
       have:=PJ vt a.tmps as (hi.tm.mono (Nu.le_trans sO HJ)) nH;rw [← Array.foldl_toList]
       simpa using this
      refine iha (r:=some (w.heap.size+1)) PK PM (fun h=>by cases h) gY hG ?_ (fun _ _ _ _ _ _ _ h=>h.elim) (fun _ _ _ _ _ _ h=>h.elim)
      intro ν5 t5 H5 a5 w5 IC h5;obtain ⟨b5,PN,h5⟩:=gB h5
      split at h5
      ·rename_i r5;obtain ⟨rfl,h5⟩:=h5;obtain ⟨adR,h5⟩:=mq h5;obtain ⟨l5,PO,hB5⟩:=IC.hp.aG _ _ PN;have OX:=IC.mono _ _ IB;rw [PO] at OX; cases OX;have abl:=hB5.lr _ rfl;refine ⟨_,run_beginRound abl rfl,?_⟩;have hi6:=IC.MZ { state:=.busy,pending:=none,fn,tmps:=a.tmps,params:=ps,assign,body,defers:=w.heap.size } PN PO;have fin:∀ (jump:Option Code) ID t7 H7 a7 w7,bw ⟨wy,O,vt,Hy.length,CT⟩ ID t7 H7 a7 w7→Cq (fun s p=>⟨s,p,fn,a.tmps,ps,assign,body,w.heap.size⟩) H.length jump K H7 →
         ∃ v w',(Instr.endRound (w.heap.size+1) jump).run P w7=.ok v w'∧Gx K vt O wy (.returned v) w':=by
        intro jump ID t7 H7 a7 w7 IE h7;obtain ⟨b7,PQ,h7⟩:=gB h7
        split at h7
        ·rename_i r7;obtain ⟨rfl,h7⟩:=h7;obtain ⟨adS,h7⟩:=mq h7;obtain ⟨l7,PR,hB7⟩:=IE.hp.aG _ _ PQ;have OY:=IE.mono _ _ IB;rw [PR] at OY; cases OY;have abm:=hB7.lr _ rfl;have he:=run_endRound (P:=P) jump abm;refine ⟨_,_,he,?_⟩;have zW:=IE.MZ { state:=if jump.isNone then .ready else .done,pending:=jump,fn,tmps:=a.tmps,params:=ps,assign,body,defers:=w.heap.size } PQ PR
         refine ⟨.bool jump.isNone,_,ID,_,rfl,?_,.bool _,zW.mono,zW.hp,zW.fr,zW.kp,zW.own⟩;cases jump <;> exact h7
        ·exact h7.elim
       refine ihb (r:=some (w.heap.size+1)) PK PM (fun h=>by cases h) hi6 h5 (fun ν t H a w hi h=>fin none _ _ _ _ _ hi h) (fun i ν t H a w hi h=>fin (some (.exit i)) _ _ _ _ _ hi h) (fun ν t H a w hi h=>fin (some .ret) _ _ _ _ _ hi h)
      ·exact h5.elim
     ·exact hG.elim
    ·rintro e w3 ⟨v,v',ν3,H3,rfl,h3,IF,HK,Dn,acW,OZ,abn⟩
     obtain ⟨b3,tc,h3⟩:=gB h3
     split at h3
     ·rename_i r3;obtain ⟨acX,h3⟩:=mq h3;obtain ⟨l3,PS,hB3⟩:=Dn.aG _ _ tc;have O0:=HK _ _ Dm;rw [PS] at O0; cases O0;have G6:w3.heap[w.heap.size+1]?=some (.loop r3):=hB3.lr r3 rfl;have ak:w.heap.size+1 < w3.heap.size:=(Array.getElem?_eq_some_iff.1 G6).1;have Dp:bw F ν3 t (H3.set H.length none) { a with defers:=[{ target:=.collected w.heap.size,args:=#[] }]++a.defers } (w3.putObj (w.heap.size+1) (.loop { r3 with state:=.exhausted })):=by
       have G7:∀ x,uj gm (H++[some (.b9 { state:=.ready,pending:=none,fn,tmps:=a.tmps,params:=ps,assign,body,defers:=w.heap.size })]) x→(F.O x∨F.W.heap.size≤x)∧W1.heap[x]?≠some (.deferred (some [])):=by
        rintro x ⟨id,c,l,h1,J,h3,rfl⟩
        obtain ⟨l',h4,hB⟩:=me.aG id c h1;rw [h3] at h4; cases h4;refine ⟨?_,fun hd=>?_⟩
        ·by_cases bn:id < H.length
         ·rw [List.getElem?_append_left bn] at h1;rw [zo,Nu.iQ (by omega)] at h3
          exact hi.own id c l h1 J h3
         ·have:id=H.length:=by
           have:=(List.getElem?_eq_some_iff.1 h1).1;simp at this; omega
          subst this;rw [Dm] at h3; cases h3;exact .inr (by have:=hi.kp.size; show _≤w.heap.size+1; omega)
        ·cases hr:c.rc with
         | none=>obtain ⟨cur,tt,h5,_⟩:=hB.own J hr; rw [h5] at hd; cases hd
         | some r=>rw [hB.lr r hr] at hd; cases hd
       have Oh:∀ D:Nat,W1.heap[D]?=some (Obj.deferred (some []))→(w3.putObj (w.heap.size+1) (.loop { r3 with state:=.exhausted })).heap[D]?=some (Obj.deferred (some [])):=fun D hD=>by
        have IG:=(OZ.aG D (Array.getElem?_eq_some_iff.1 hD).1 (fun h=>(G7 D h).2 hD)).trans hD
        exact (World.putObj_heap_other (fun e=>by rw [e,G6] at IG; cases IG)).trans IG
       have c5:∀ (id:Nat) (b:ah),(H3.set H.length none)[id]?=some (some b)→id≠H.length∧H3[id]?=some (some b):=fun id b hb=>by
        by_cases e:id=H.length
        ·subst e; rw [List.getElem?_set_self acX] at hb; cases hb
        ·rw [List.getElem?_set_ne (Ne.symm e)] at hb; exact ⟨e,hb⟩
       refine ⟨hi.tm.mono (Nu.le_trans sO HK),?_,⟨fun id b hb=>?_,fun i j bi bj li lj h1 J=>?_⟩,fun id bn=>acW id (by simpa using bn),?_,fun id b l hb ho hl=>?_,Nu.le_trans hi.mono (Nu.le_trans sO HK)⟩
       ·refine ⟨List.nodup_cons.2 ⟨fun hm=>?_,hi.df.1⟩,fun d hd=>?_⟩
        ·obtain ⟨D,e,_,hD⟩:=hi.df.2 _ hm;have:=(Array.getElem?_eq_some_iff.1 hD).1;cases e;omega
        ·rcases List.mem_cons.1 hd with rfl | hd
         ·exact ⟨_,rfl,hi.kp.size,Oh _ abi⟩
         ·obtain ⟨D,e,h0,hD⟩:=hi.df.2 d hd;exact ⟨D,e,h0,Oh D ((HI.block D (Array.getElem?_eq_some_iff.1 hD).1).trans hD)⟩
       ·obtain ⟨aH,hb⟩:=c5 id b hb;obtain ⟨l,hl,hB⟩:=Dn.aG id b hb;have Hx:=Dn.sep _ id _ b _ l tc hb (Ne.symm aH) rfl PS hl;exact ⟨l,hl,hB.same (World.putObj_heap_other (Ne.symm Hx)) (by simp)⟩
       ·exact Dn.sep i j bi bj li lj (c5 i bi h1).2 (c5 j bj J).2
       ·refine (hi.kp.below HI).then (OZ.then (O':=fun x=>x=w.heap.size+1) ⟨rfl,rfl,rfl,by simp,fun b h1 J=>World.putObj_heap_other J⟩ (fun b hb=>.inl (by subst hb; exact ⟨H.length,.b9 { state:=.ready,pending:=none,fn,tmps:=a.tmps,params:=ps,assign,body,defers:=w.heap.size },_,by simp,rfl,Dm,rfl⟩))) (fun b hb=>(G7 b hb).1)
       ·rcases abn id b l (c5 id b hb).2 ho hl with h | h
        ·exact (G7 _ h).1
        ·exact .inr (by have:=hi.kp.size; omega)
      by_cases Oi:r3.state=.busy
      ·rw [Oi] at h3; exact h3.elim
      ·have he:=run_endLoop (P:=P) G6 Oi;generalize w3.putObj (w.heap.size+1) (.loop { r3 with state:=.exhausted })=w4 at Dp he
       refine ⟨r3.pending,w4,he,?_⟩;clear he;have pick:∀ {X:Prop},(match r3.state,r3.pending with
        | .busy,_=>False
        | _,none=>kn t (H3.set H.length none)
        | _,some (.exit i)=>kx i t (H3.set H.length none)
        | _,some .ret=>kr t (H3.set H.length none)
        | _,_=>False)→(∀ s,(match (generalizing:=false) s,r3.pending with
        | LoopState.busy,_=>False
        | _,none=>kn t (H3.set H.length none)
        | _,some (.exit i)=>kx i t (H3.set H.length none)
        | _,some .ret=>kr t (H3.set H.length none)
        | _,_=>False)→X)→X:=fun h k=>k _ h
       refine pick h3 fun s h3=>?_
       cases hp:r3.pending with
       | none =>
        rw [hp] at h3;cases s <;> first | exact h3.elim | exact hn _ _ _ _ _ Dp h3
       | some c =>
        rw [hp] at h3;cases c <;> cases s <;> first | exact h3.elim | exact wpIn_exit (hx _ _ _ _ _ _ Dp h3) | exact wpIn_ret (hr _ _ _ _ _ Dp h3)
     ·exact h3.elim
   ·exact h.elim
  ·exact h.elim
 | _=>exact fun _ _ _=>fun _ h _ _ _=>h.elim
def y7 (tmps:Array Value):ResultVar→Sem Value
 | .tmp t=>pure (tmps.getD t undef)
 | .cell x t=>do loadVar t (← asAddr (tmps.getD x undef))
theorem R6 (fn:Func) (tmps:Array Value):results fn tmps=(do let vs ← fn.results.mapM (y7 tmps); pure (if h:vs.size=1 then vs[0] else .tuple vs)):=rfl
theorem R7 (a:Addr):asAddr (.pointer (some a))=pure a:=rfl
theorem DU (hE:j4 P E) {ν:Nu} {tmps:List Value} {H:aw} {a:Act} {w:World} (hi:bw F ν tmps H a w):∀ {l:List ResultVar} {k:List Value→Prop},wz E H tmps l k →
  ∃ vs fO,k vs∧bc ν vs fO∧(l.mapM (y7 a.tmps)).run P w=.ok fO w
 | [],k,h=>⟨[],[],h,.nil ν,rfl⟩
 | .tmp t::l,k,h=>by
  obtain ⟨v,hv,h⟩:=oP h;obtain ⟨v',vm,hr⟩:=hi.tm.get hv;obtain ⟨vs,fO,h1,J,h3⟩:=DU hE hi h;have e:a.tmps.getD t undef=v':=by
   have:a.tmps[t]?=some v':=by simpa using vm
   simp [this]
  exact ⟨v::vs,v'::fO,h1,.cons hr J,by simp only [List.mapM_cons,y7,Sem.run_bind,Sem.run_pure,Result.andThen_ok,h3,e]⟩
 | .cell x t::l,k,h=>by
  obtain ⟨v,hv,h⟩:=oP h;obtain ⟨v',vm,hr⟩:=hi.tm.get hv
  split at h
  ·rename_i id row sp;obtain ⟨ti,ht,h⟩:=cN h;obtain ⟨b,hb,h⟩:=gB h;obtain ⟨aX,h⟩:=Lh h;obtain ⟨us,h,hl,sY⟩:=x8 h;obtain ⟨lc,dD,hB⟩:=hi.hp.aG id b hb;obtain ⟨lc',O1,he⟩:=hr.oX;rw [dD] at O1; cases O1;obtain ⟨us',h1,J,h3⟩:=KA hB aX hl sY;obtain ⟨vs,fO,k1,k2,k3⟩:=DU hE hi h;have e:a.tmps.getD x undef=v':=by
    have:a.tmps[x]?=some v':=by simpa using vm
    simp [this]
   refine ⟨_,_::fO,k1,.cons (EK h1) k2,?_⟩;simp only [List.mapM_cons,y7,Sem.run_bind,Result.andThen_ok,e,he,R7,Sem.run_pure,JR (hE.ty _ _ ht) J h3,k3]
  ·exact h.elim
structure oa (n0:Nat) (w w':World):Prop where
 os:w'.os=w.os
 tape:w'.tape=w.tape
 output:w'.output=w.output
 size:w'.heap.size=w.heap.size
 low:∀ q:Nat,q < n0→w'.heap[q]?=w.heap[q]?
 same:∀ (q:Nat) (o:Obj),(∀ c,o≠.deferred c)→w.heap[q]?=some o→w'.heap[q]?=some o
theorem oa.refl (n0:Nat) (w:World):oa n0 w w:=⟨rfl,rfl,rfl,rfl,fun _ _=>rfl,fun _ _ _ h=>h⟩
theorem oa.trans {n0:Nat} {w w' PT:World} (h:oa n0 w w') (k:oa n0 w' PT):oa n0 w PT :=
 ⟨k.os.trans h.os,k.tape.trans h.tape,k.output.trans h.output,k.size.trans h.size,fun q hq=>(k.low q hq).trans (h.low q hq),fun q o ho hq=>k.same q o ho (h.same q o ho hq)⟩
theorem UD {n0 D:Nat} {w:World} (hD:w.heap[D]?=some (Obj.deferred (some []))) (h0:n0≤D):oa n0 w (w.putObj D (.deferred none)) :=
 ⟨rfl,rfl,rfl,by simp,fun q hq=>World.putObj_heap_other (by omega),fun q o ho hq=>(World.putObj_heap_other (fun e=>by subst e; rw [hD] at hq; cases hq; exact ho _ rfl)).trans hq⟩
theorem JW {fn:Func} {tmps:Array Value} {R:Ending→World→Prop} {n0:Nat}:∀ (ds:List Deferred) (w:World),Marks n0 ds w→(∀ w',oa n0 w w'→∃ v,(results fn tmps).run P w'=.ok v w'∧R (.returned v) w')→LeavesInM Fence.wide n P fn tmps R ds .returning w
 | [],w,_,h=>h w (oa.refl n0 w)
 | d::ds,w,hm,h=>by
  obtain ⟨D,rfl,h0,hD⟩:=hm.2 d (List.mem_cons_self ..);have mN:=List.nodup_cons.1 hm.1;refine ⟨by simp,.inl ⟨D,w.putObj D (.deferred none),rfl,run_takeDeferred hD,?_⟩⟩
  refine JW ds _ ⟨mN.2,fun e he=>?_⟩ fun w' hw'=>h w' ((UD hD h0).trans hw')
  obtain ⟨D',rfl,h1,zX⟩:=hm.2 e (List.mem_cons_of_mem _ he);exact ⟨D',rfl,h1,(World.putObj_heap_other (fun e2=>mN.1 (by rw [← e2]; exact he))).trans zX⟩
theorem bP.shut {ν:Nu} {l:Loc} {b:ah} {n0:Nat} {w w':World} (h:bP ν l b w) (hs:oa n0 w w'):bP ν l b w':=by
 refine ⟨h.ae,h.len,fun r hr j v hv=>?_,h.plain,h.one,fun ho hc=>?_,fun r hr=>hs.same _ _ (fun c=>by simp) (h.lr r hr),by rw [hs.size]; exact h.live⟩
 ·obtain ⟨v',h1,J⟩:=h.cell r hr j v hv;refine ⟨v',?_,J⟩;have h3:=h1;unfold World.cell? at h3;cases ho:w.heap[(l.at r j).block]? with
  | none=>simp [ho] at h3
  | some o =>
   have:∀ c,o≠Obj.deferred c:=fun c e=>by subst e; simp [ho] at h3
   rw [World.cell?_of_block (a:=l.at r j) ((hs.same _ _ this ho).trans ho.symm)];exact h1
 ·obtain ⟨cur,t,h1,J⟩:=h.own ho hc;exact ⟨cur,t,hs.same _ _ (fun c=>by simp) h1,J⟩
theorem bU.shut {ν:Nu} {H:aw} {n0:Nat} {w w':World} (h:bU ν H w) (hs:oa n0 w w'):bU ν H w' :=
 ⟨fun id b hi=>let ⟨l,h1,J⟩:=h.aG id b hi; ⟨l,h1,J.shut hs⟩,h.sep⟩
def ck (E:Env) (D:Env→List Oper→List Value→aw→SK→Prop) (fn:Func) (args:List Value) (H:aw) (K:Value→aw→Prop):Prop :=
 match fn.body with
 | some c=>jw H fun n0=>qN args (List.replicate (fn.ntmps - args.length) undef) fun t0 =>
  vc { E with base:=n0 } D c t0 H (fun t H=>wz { E with base:=n0 } H t fn.results.toList fun vs=>CQ vs fun v=>K v H) (fun _ _ _=>False) (fun t H=>wz { E with base:=n0 } H t fn.results.toList fun vs=>CQ vs fun v=>K v H)
 | none=>False
theorem j4.at {E:Env} (hE:j4 P E) (n0:Nat):j4 P { E with base:=n0 }:=⟨⟨hE.ty,hE.eq,hE.fn,hE.ft⟩,hE.Il,hE.ys⟩
theorem yn (hE:j4 P E) (hD:nF P D) {f:FuncId} {fn:Func} (hf:P.funcs[f]?=some fn) {args as:List Value} {H:aw} {ν:Nu} {w:World} {O:Nat→Prop} {K:Value→aw→Prop} {n:Nat}
  (h:ck E D fn args H K) (ha:bc ν args as) (hH:bU ν H w) (gl:∀ id,H.length≤id→ν id=none)
  (kB:∀ id b l,H[id]?=some (some b)→b.own=true→ν id=some l→O l.aG) (hnu:E.nu.le ν) {R:Ending→World→Prop}
  (hR:∀ ai v v' t H' a w',bw ⟨w,O,ν,H.length,gl⟩ ai t H' a w'→K v H'→aq ai v v'→R (.returned v') w'):CallsIn Fence.wide n P f ⟨as⟩ w R:=by
 unfold ck at h
 split at h
 ·rename_i c hc;have h:=wc (mr h);refine callsIn_of_wp_marks hf hc trivial ?_;have hi:bw ⟨w,O,ν,H.length,gl⟩ ν (args++List.replicate (fn.ntmps - args.length) undef) H { tmps:=(⟨as⟩:Array Value)++Array.replicate (fn.ntmps - (⟨as⟩:Array Value).size) undef,defers:=[] } w:=by
   refine ⟨?_,Marks.nil _ _,hH,gl,Kept.refl w,fun id b l h1 J h3=>.inl (kB id b l h1 J h3),ν.le_refl⟩
   have e:((⟨as⟩:Array Value)++Array.replicate (fn.ntmps - (⟨as⟩:Array Value).size) undef).toList=as++List.replicate (fn.ntmps - args.length) undef:=by
    simp [ha.1]
   rw [e];refine ha.append ⟨rfl,fun i x y hx hy=>?_⟩
   rw [hx] at hy; cases hy;have:=List.mem_of_getElem? hx;simp at this;rw [this.2]; exact .undef ν
  have PU:=hE.at H.length;have fin:∀ ai t H' a w',bw ⟨w,O,ν,H.length,gl⟩ ai t H' a w'→(wz { E with base:=H.length } H' t fn.results.toList fun vs=>CQ vs fun v=>K v H')→LeavesInM Fence.wide n P fn a.tmps R a.defers .returning w':=by
   intro ai t H' a w' gz h';refine JW a.defers w' gz.df fun w2 hs=>?_
   have aP:bw ⟨w,O,ν,H.length,gl⟩ ai t H' { tmps:=a.tmps,defers:=[] } w2 :=
    ⟨gz.tm,Marks.nil _ _,gz.hp.shut hs,gz.fr,⟨hs.os.trans gz.kp.os,hs.tape.trans gz.kp.tape,hs.output.trans gz.kp.output,by rw [hs.size]; exact gz.kp.size,fun b h1 J=>(hs.low b h1).trans (gz.kp.aG b h1 J)⟩,gz.own,gz.mono⟩
   obtain ⟨vs,fO,h1,J,h3⟩:=DU PU aP h';have acY:(fn.results.mapM (y7 a.tmps)).run P w2=.ok ⟨fO⟩ w2:=by
    rw [Array.mapM_eq_mapM_toList];simp only [Sem.run_map,h3,Result.andThen_ok]
   rw [R6];simp only [Sem.run_bind,acY,Result.andThen_ok,Sem.run_pure];refine ⟨_,rfl,?_⟩;unfold CQ at h1
   split at h1
   ·rename_i v;obtain ⟨y,ys,rfl,k1,k2⟩:=J.jl;rw [k2.iP];exact hR _ _ _ _ _ _ _ aP h1 k1
   ·rename_i aH;have hlen:¬ ((⟨fO⟩:Array Value).size=1):=by
     intro e;have:vs.length=1:=by rw [J.1]; exact e
     obtain ⟨v,rfl⟩:=List.length_eq_one_iff.1 this;exact aH v rfl
    rw [dif_neg hlen];exact hR _ _ _ _ _ _ _ aP h1 (.tuple _ _ J.1 J.2)
  exact UC hD c (r:=none) (F:=⟨w,O,ν,H.length,gl⟩) PU ⟨Nat.le_refl _,hnu⟩ (fun _=>rfl) hi h (fun ν t H a w' aP h'=>fin ν t H a w' aP h') (fun _ _ _ _ _ _ _ h'=>h'.elim) (fun ν t H a w' aP h'=>fin ν t H a w' aP h')
 ·exact h.elim
theorem BH {E:Env} {ν:Nu} (h:E.nu=fun _=>none):E.nu.le ν:=by rw [h]; exact fun _ _ h=>nomatch h
theorem bk {S:bD} (hE:EnvOk P E) (hD:nF P D) {f:FuncId} {fn:Func} (hf:P.funcs[f]?=some fn) (oi:∀ args w,(callFunc f args).run P w=.ok (.enter f args) w)
  (ha:∀ i,A7 (S.args i)=true) (hv:∀ i,B6 (S.val i)=true) (h:∀ i,S.pre i→ck E D fn (S.args i) [] fun v _=>v=S.val i)
  (hI:gL P E:=by exact gL.none rfl) (hy:E.ys=[]:=by rfl) (hu:E.nu=(fun _=>none):=by rfl):bf P f S:=by
 refine ⟨oi,fun i hp ν as w n has=>?_⟩
 have e:=(DT (ha i)).2 ν as has;subst e;refine yn (O:=fun _=>False) (ν:=fun _=>none) (hE.x hI hy) hD hf (h i hp) ((DT (ha i)).1 _) ⟨fun id b hb=>by simp at hb,fun i j bi bj li lj hi=>by simp at hi⟩ (fun _ _=>rfl) (fun id b l hb=>by simp at hb) (BH hu) ?_
 rintro ai v v' t H a w' hi rfl hr
 exact ⟨v',rfl,by rw [(vV (hv i)).2 _ _ hr]; exact (vV (hv i)).1 ν,⟨hi.kp.os,hi.kp.tape,hi.kp.output,hi.kp.size,fun k hk=>hi.kp.aG k hk (fun h=>h)⟩⟩
theorem js (hE:EnvOk P E) (hD:nF P D) {f:FuncId} {fn:Func} (hf:P.funcs[f]?=some fn) (oi:∀ args w,(callFunc f args).run P w=.ok (.enter f args) w)
  (hI:gL P E:=by exact gL.none rfl) (hy:E.ys=[]:=by rfl) (hu:E.nu=(fun _=>none):=by rfl):gi P f (ck E D fn):=by
 refine ⟨oi,fun args H K h ν as w n O ha hH gl kB=>yn (hE.x hI hy) hD hf h ha hH gl kB (BH hu) ?_⟩
 intro ai v v' t H' a w' hi hk hv;exact ⟨v,v',ai,H',rfl,hk,hv,hi.mono,hi.hp,hi.fr,hi.kp,hi.own⟩
theorem Oj (hE:EnvOk P E) (hD:nF P D) {f:FuncId} {fn:Func} (hf:P.funcs[f]?=some fn) (oi:∀ args w,(callFunc f args).run P w=.ok (.enter f args) w)
  (hI:gL P E:=by exact gL.none rfl):zj P f (fun l G nu=>ck { E with ys:=[(l,G)],nu:=nu } D fn):=by
 refine ⟨oi,fun l G bh hY args H K h ν as w n O hle ha hH gl kB=>?_⟩
 refine yn (E:={ E with ys:=[(l,G)],nu:=bh }) ⟨⟨hE.ty,hE.eq,hE.fn,hE.ft⟩,hI,fun l' G' r e=>by cases e; exact hY⟩ hD hf h ha hH gl kB hle ?_
 intro ai v v' t H' a w' hi hk hv;exact ⟨v,v',ai,H',rfl,hk,hv,hi.mono,hi.hp,hi.fr,hi.kp,hi.own⟩
end
open Go Go.RowKit
def EV:Value→Bool
 | .bool _ | .int _ _ | .string _ | .pointer none | .nilFunc=>true
 | .slice none 0 0=>true
 | _=>false
theorem QT {v:Value} (h:EV v=true):(∀ ν,aq ν v v)∧v.oneCell'=true:=by
 unfold EV at h
 split at h
 ·exact ⟨fun ν=>.bool _,rfl⟩
 ·exact ⟨fun ν=>.int _ _,rfl⟩
 ·exact ⟨fun ν=>.str _,rfl⟩
 ·exact ⟨fun ν=>.mC,rfl⟩
 ·exact ⟨fun ν=>.mD,rfl⟩
 ·exact ⟨fun ν=>.ju,rfl⟩
 ·cases h
def AZ:List Value→Bool
 | []=>true
 | v::l=>EV v && AZ l
theorem JI:∀ {l:List Value},AZ l=true→(∀ ν,bc ν l l)∧∀ v∈l,v.oneCell'=true
 | [],_=>⟨fun ν=>.nil ν,fun v hv=>by simp at hv⟩
 | v::l,h=>by
  simp only [AZ,Bool.and_eq_true] at h;obtain ⟨h1,J⟩:=QT h.1;obtain ⟨h3,h4⟩:=JI h.2;exact ⟨fun ν=>.cons (h1 ν) (h3 ν),fun u hu=>by
   rcases List.mem_cons.1 hu with e | e
   ·rw [e]; exact J
   ·exact h4 u e⟩
def wK (P:Program):List Field→List (Nat × Nat × Bool)→Bool
 | [],[]=>true
 | f::l,x::m=>Nat.beq f.offset x.1 && Nat.ble 1 x.2.1 && (match P.info? f.type with | some i=>Nat.beq i.size x.2.1 | none=>false) &&
  (match P.underlying f.type with | some d=>(uh d == x.2.2) | none=>false) && wK P l m
 | _,_=>false
theorem JX {P:Program}:∀ {l:List Field} {m:List (Nat × Nat × Bool)},wK P l m=true→l.length=m.length∧∀ (i:Nat) f x,l[i]?=some f→m[i]?=some x→yw P f x
 | [],[],_=>⟨rfl,fun i f x h=>by simp at h⟩
 | f::l,x::m,h=>by
  simp only [wK,Bool.and_eq_true] at h;obtain ⟨⟨⟨⟨h1,J⟩,h3⟩,h4⟩,h5⟩:=h;obtain ⟨k1,k2⟩:=JX h5;refine ⟨by simp [k1],fun i g y hg hy=>?_⟩
  cases i with
  | zero =>
   simp at hg hy;subst hg; subst hy;refine ⟨Nat.eq_of_beq_eq_true h1,Nat.le_of_ble_eq_true J,?_,?_⟩
   ·split at h3
    ·exact ⟨_,by assumption,Nat.eq_of_beq_eq_true h3⟩
    ·cases h3
   ·split at h4
    ·exact ⟨_,by assumption,by simpa using h4⟩
    ·cases h4
  | succ i=>exact k2 i g y (by simpa using hg) (by simpa using hy)
 | [],_::_,h=>by simp [wK] at h
 | _::_,[],h=>by simp [wK] at h
def G8 (P:Program) (t:TypeId) (k:TK):Bool :=
 match k,P.underlying t with
 | .int q,some (.int q')=>decide (q=q')
 | .bool,some .bool=>true
 | .str,some .string=>true
 | .struct fs,some (.struct fields)=>wK P fields.toList fs
 | .slice e,some (.slice e')=>Nat.beq e e'
 | .array n e,some (.array n' e')=>Nat.beq n n' && Nat.beq e e'
 | .other,some d=>!uh d
 | _,_=>false
theorem R8 {P:Program} {t:TypeId} {k:TK} (h:G8 P t k=true):∃ d,P.underlying t=some d∧C9 P k d:=by
 unfold G8 at h
 split at h
 ·exact ⟨_,by assumption,by rw [of_decide_eq_true h]; rfl⟩
 ·exact ⟨_,by assumption,rfl⟩
 ·exact ⟨_,by assumption,rfl⟩
 ·obtain ⟨h1,J⟩:=JX h;exact ⟨_,by assumption,_,rfl,by simpa using h1,fun i f x hf hx=>J i f x (by simpa using hf) hx⟩
 ·exact ⟨_,by assumption,by rw [Nat.eq_of_beq_eq_true h]; rfl⟩
 ·simp only [Bool.and_eq_true] at h;exact ⟨_,by assumption,by rw [Nat.eq_of_beq_eq_true h.1,Nat.eq_of_beq_eq_true h.2]; rfl⟩
 ·exact ⟨_,by assumption,by simpa [C9] using h⟩
 ·cases h
def NH (ti:TI):Bool:=AZ ti.zero && Nat.beq ti.zero.length ti.size && Nat.ble 1 ti.size && Nat.ble 1 ti.bytes
theorem aF {P:Program} {t:TypeId} {ti:TI} (h1:(P.info? t).map (fun i=>(i.size,i.bytes,i.zero.map fun z=>z.cells.toList))=some (ti.size,ti.bytes,some ti.zero)) (J:G8 P t ti.kind=true) (h3:NH ti=true):ay P t ti:=by
 obtain ⟨i,hi,he⟩:=Option.map_eq_some_iff.1 h1;simp only [Prod.mk.injEq] at he;obtain ⟨e1,e2,e3⟩:=he;obtain ⟨z,hz,oq⟩:=Option.map_eq_some_iff.1 e3;simp only [NH,Bool.and_eq_true] at h3;obtain ⟨⟨⟨k1,k2⟩,k3⟩,k4⟩:=h3;obtain ⟨k5,k6⟩:=JI k1;exact ⟨⟨i,hi,e1,e2,z,hz,Array.ext' oq⟩,R8 J,k5,Nat.eq_of_beq_eq_true k2,k6,Nat.le_of_ble_eq_true k3,Nat.le_of_ble_eq_true k4⟩
inductive ET where
 | bool | int (k:IntKind) | str
 | struct (fs:List (Nat × ET))      -- each field's size and shape
open Go Go.RowKit
def iE:List Operand→List Tmp
 | []=>[]
 | .tmp t::l=>t::iE l
 | _::l=>iE l
theorem pV {t:Tmp}:∀ {l:List Operand},Operand.tmp t∈l→t∈iE l
 | .tmp u::l,h=>by
  rcases List.mem_cons.1 h with e | e
  ·cases e; simp [iE]
  ·simp [iE,pV e]
 | .const v::l,h=>by
  rcases List.mem_cons.1 h with e | e
  ·cases e
  ·simpa [iE] using pV e
 | .global v::l,h=>by
  rcases List.mem_cons.1 h with e | e
  ·cases e
  ·simpa [iE] using pV e
 | .func v::l,h=>by
  rcases List.mem_cons.1 h with e | e
  ·cases e
  ·simpa [iE] using pV e
def ji (ops:List Oper) (o:Oper):List Tmp :=
 iE o.op.operands.toList++(match o.guard with | some (j,_)=>(match (ops[j]?).bind (·.dst) with | some d=>[d] | none=>[]) | none=>[])
def BI (ops:List Oper) (aR:List (List Nat)):Bool :=
 (List.range ops.length).all fun j=>match ops[j]? with
  | some o=>(aR.getD j []).all fun i=>i < j && o.after.toList.any fun e=>Region.binds .any e && (e.on == i || ((aR.getD e.on []).contains i && decide (e.on < j)))
  | none=>true
def B7 (ops:List Oper) (m:Nat) (aR:List (List Nat)):Bool :=
 decide (m≤ops.length) && BI ops aR &&
 (List.range ops.length).all (fun j=>match ops[j]? with
  | some o=>o.after.toList.all fun e=>!Region.binds .any e || decide (e.on < j)
  | none=>true) &&
 (List.range m).all (fun j=>match ops[j]? with
  | some o=>(List.range m).all fun i=>i == j || match ops[i]? with
   | some p=>match p.dst with
    | some d=>(o.dst != some d) && (!(ji ops o).contains d || (aR.getD j []).contains i || (aR.getD i []).contains j)
    | none=>true
   | none=>true
  | none=>true) &&
 (List.range ops.length).all (fun j=>decide (j < m) || (List.range j).all fun i=>(aR.getD j []).contains i)
def lN:List (Option ah)→Nat→List Nat→(List (Option ah)→Prop)→Prop
 | [],_,_,k=>k []
 | b::S,i,mask,k=>match mask with
  | m::ms=>match Nat.beq m i with
   | true=>lN S (i+1) ms fun S'=>k (b::S')
   | false=>lN S (i+1) (m::ms) fun S'=>k (none::S')
  | []=>lN S (i+1) [] fun S'=>k (none::S')
def nI:aw→List (Option ah)→(aw→Prop)→Prop
 | [],S,k=>k S
 | b::H,S,k=>nI H S fun G=>k (b::G)
theorem tR:∀ {H:aw} {S:List (Option ah)} {k:aw→Prop},nI H S k→k (H++S)
 | [],_,_,h=>h
 | _::H,S,k,h=>tR (H:=H) h
def jt:List (Option ah)→Option ah→(List (Option ah)→Prop)→Prop
 | [],b,k=>k [b]
 | c::S,b,k=>jt S b fun S'=>k (c::S')
theorem tH:∀ {S:List (Option ah)} {b:Option ah} {k:List (Option ah)→Prop},jt S b k→k (S++[b])
 | [],_,_,h=>h
 | _::S,b,k,h=>tH (S:=S) h
def lO (E:Env) (ops:List Oper) (H:aw) (n0:Nat):List Oper→List (List Nat)→Nat→List Value→List (Option ah)→(List Value→List (Option ah)→Prop)→Prop
 | [],_,_,t,S,k=>k t S
 | o::l,mask::aR,j,t,S,k =>
  match o.guard with
  | none=>lN S 0 mask fun Sm=>nI H Sm fun G=>lC E o.op t G (n0+j) fun v nb=>dg t o.dst v fun t'=>jt S nb fun S'=>lO E ops H n0 l aR (j+1) t' S' k
  | some (g,want)=>match (ops[g]?).bind (·.dst) with
   | some d=>qM t d fun v=>match v with
    | .bool b=>br (b == want)
      (lN S 0 mask fun Sm=>nI H Sm fun G=>lC E o.op t G (n0+j) fun v nb=>dg t o.dst v fun t'=>jt S nb fun S'=>lO E ops H n0 l aR (j+1) t' S' k)
      (dg t o.dst undef fun t'=>jt S none fun S'=>lO E ops H n0 l aR (j+1) t' S' k)
    | .tuple _=>dg t o.dst undef fun t'=>jt S none fun S'=>lO E ops H n0 l aR (j+1) t' S' k
    | _=>False
   | none=>False
 | _::_,[],_,_,_,_=>False
def uF:List Oper→Nat→(List Oper→List Oper→Prop)→Prop
 | l,0,k=>k [] l
 | [],_+1,_=>False
 | o::l,m+1,k=>uF l m fun a b=>k (o::a) b
theorem yf:∀ {l:List Oper} {m:Nat} {k:List Oper→List Oper→Prop},uF l m k→m≤l.length∧k (l.take m) (l.drop m)
 | l,0,_,h=>⟨by simp,by simpa [uF] using h⟩
 | [],_+1,_,h=>h.elim
 | o::l,m+1,k,h=>by
  obtain ⟨h1,J⟩:=yf (l:=l) h;exact ⟨by simp; omega,by simpa using J⟩
def Ok (E:Env) (ops:List Oper) (t:List Value) (H:aw) (k:SK):Prop :=
 ∃ (m:Nat) (aR:List (List Nat)),B7 ops m aR=true∧jw H fun n0=>uF ops m fun hd tl=>lO E ops H n0 hd aR 0 t [] fun t' S=>nI H S fun G=>nw E ops tl t' G k
structure cZ where
 v:Value
 nb:Option ah
 run:Bool
def bO (ops:List Oper) (i:Nat):Option Tmp:=(ops[i]?).bind (·.dst)
def a9 (ops:List Oper) (rs:List cZ) (D:Nat→Bool) (t0:List Value):Nat→List Value
 | 0=>t0
 | i+1=>match D i,bO ops i,rs[i]? with
  | true,some d,some r=>(a9 ops rs D t0 i).set d r.v
  | _,_,_=>a9 ops rs D t0 i
def kZ (rs:List cZ) (D:Nat→Bool) (m:Nat):List (Option ah):=(List.range m).map fun i=>if D i then (rs[i]?).bind (·.nb) else none
section
variable {ops:List Oper} {rs:List cZ} {t0:List Value}
theorem rJ (D:Nat→Bool):∀ m,(a9 ops rs D t0 m).length=t0.length
 | 0=>rfl
 | m+1=>by
  unfold a9
  split
  ·rw [List.length_set]; exact rJ D m
  ·exact rJ D m
def xp (ops:List Oper) (m:Nat):Prop:=∀ i j d,i < m→j < m→bO ops i=some d→bO ops j=some d→i=j
theorem wg (D:Nat→Bool) {d:Tmp}:∀ m,(∀ i,i < m→D i=true→bO ops i=some d→rs[i]?=none)→(a9 ops rs D t0 m)[d]?=t0[d]?
 | 0,_=>rfl
 | m+1,h=>by
  unfold a9
  split
  ·rename_i d' r hD hd hr;have aH:d'≠d:=fun e=>by subst e; rw [h m (by omega) hD hd] at hr; cases hr
   rw [List.getElem?_set_ne aH];exact wg D m (fun i hi=>h i (by omega))
  ·exact wg D m (fun i hi=>h i (by omega))
theorem tS (D:Nat→Bool) {d:Tmp} {i:Nat} {r:cZ} (hd:bO ops i=some d) (hr:rs[i]?=some r) (hD:D i=true) (ak:d < t0.length) :
  ∀ m,i < m→xp ops m→(a9 ops rs D t0 m)[d]?=some r.v
 | 0,h,_=>by omega
 | m+1,h,ha=>by
  by_cases e:i=m
  ·subst e;unfold a9;rw [hD,hd,hr]
   dsimp only
   rw [List.getElem?_set_self];rw [rJ]; exact ak
  ·have ih:=tS D hd hr hD ak m (by omega) (fun a b c h1 J=>ha a b c (by omega) (by omega))
   unfold a9
   split
   ·rename_i d' r' zX cS jy;have aH:d'≠d:=fun e'=>by subst e'; exact e (ha i m d' (by omega) (by omega) hd cS)
    rw [List.getElem?_set_ne aH]; exact ih
   ·exact ih
theorem yg {D D':Nat→Bool} {d:Tmp} {m:Nat} (ha:xp ops m) (ak:∀ i d,i < m→bO ops i=some d→d < t0.length) (h:∀ i,i < m→bO ops i=some d→D i=D' i) :
  (a9 ops rs D t0 m)[d]?=(a9 ops rs D' t0 m)[d]?:=by
 by_cases hex:∃ i r,i < m∧bO ops i=some d∧D i=true∧rs[i]?=some r
 ·obtain ⟨i,r,hi,hd,hD,hr⟩:=hex;rw [tS D hd hr hD (ak i d hi hd) m hi ha,tS D' hd hr (by rw [← h i hi hd]; exact hD) (ak i d hi hd) m hi ha]
 ·rw [wg D m,wg D' m]
  ·intro i hi hD hd;cases hr:rs[i]? with
   | none=>rfl
   | some r=>exact absurd ⟨i,r,hi,hd,by rw [h i hi hd]; exact hD,hr⟩ hex
  ·intro i hi hD hd;cases hr:rs[i]? with
   | none=>rfl
   | some r=>exact absurd ⟨i,r,hi,hd,hD,hr⟩ hex
theorem KM {D D':Nat→Bool} {m j:Nat} (ha:xp ops m) (ak:∀ i d,i < m→bO ops i=some d→d < t0.length) (hj:j < m) (hDj:D j=false) (zX:∀ i,D' i=(D i || i == j)) {r:cZ} (hr:rs[j]?=some r) :
  a9 ops rs D' t0 m=match bO ops j with | some d=>(a9 ops rs D t0 m).set d r.v | none=>a9 ops rs D t0 m:=by
 apply List.ext_getElem?;intro x;have PW:∀ i,i≠j→D' i=D i:=fun i hi=>by rw [zX i]; simp [hi]
 cases hd:bO ops j with
 | none =>
  dsimp only
  refine yg ha ak (fun i hi fV=>PW i (fun e=>?_))
  subst e; rw [hd] at fV; cases fV
 | some d =>
  dsimp only
  by_cases e:d=x
  ·subst e;have hl:=ak j d hj hd;rw [List.getElem?_set_self (by rw [rJ]; exact hl)]
   exact tS D' hd hr (by rw [zX j]; simp) hl m hj ha
  ·rw [List.getElem?_set_ne e];refine yg ha ak (fun i hi fV=>PW i (fun e'=>?_))
   subst e'; rw [hd] at fV; cases fV; exact e rfl
theorem rM {D:Nat→Bool} {m i:Nat} {b:ah}:(kZ rs D m)[i]?=some (some b)↔i < m∧D i=true∧(rs[i]?).bind (·.nb)=some b:=by
 unfold kZ;rw [List.getElem?_map];by_cases h:i < m
 ·simp only [List.getElem?_range h,Option.map_some,Option.some.injEq];cases D i <;> simp [h]
 ·rw [List.getElem?_eq_none (by simp; omega)]
  simp [h]
theorem JY (D:Nat→Bool) (m:Nat):(kZ rs D m).length=m:=by simp [kZ]
end
def my:Op→Bool
 | .move _=>true
 | .extract _ _=>true
 | .binOp _ _ _ _ _=>true
 | .slice _ _ _ _ _=>true
 | _=>false
def mz:Op→Bool
 | .load _ _=>true
 | .indexAddr _ _ _=>true
 | .call c=>match c.callee with
  | .builtin .len=>true
  | _=>false
 | _=>false
structure oZ (P:Program) (ops:List Oper) (t0:List Value) (H:aw) (aR:List (List Nat)) (rs:List cZ) (j:Nat):Prop where
 ok:∃ o r,ops[j]?=some o∧rs[j]?=some r∧(∀ d,o.dst=some d→d < t0.length) ∧
  ((∃ G:aw,(∀ id b,G[id]?=some (some b)→(id < H.length∧H[id]?=some (some b))∨(∃ i,id=H.length+i∧i < j∧i∈aR.getD j []∧(rs[i]?).bind (·.nb)=some b)) ∧
    (∀ (ν:Nu) (a:Act) (w:World) (q:Option Nat) (n:Nat),(∀ x∈o.op.operands,fc ν (a9 ops rs (fun i=>decide (i < j)) t0 j) a x)→bU ν G w→ν (H.length+j)=none →
     ∀ next Q,(∀ v' w' ai,ng ν ai (H.length+j) w w' r.v v' r.nb→next (a.put o.dst v') w')→o.wpIn (WF q) n P a w next Q) ∧
    (o.guard=none∨∃ g want d b,o.guard=some (g,want)∧bO ops g=some d∧(a9 ops rs (fun i=>decide (i < j)) t0 j)[d]?=some (.bool b)∧(b == want)=true)) ∨
    (r.v=undef∧r.nb=none∧∃ g want d v,o.guard=some (g,want)∧bO ops g=some d∧(a9 ops rs (fun i=>decide (i < j)) t0 j)[d]?=some v∧((∃ b,v=.bool b∧(b == want)=false)∨∃ vs,v=.tuple vs)))
 mv:∀ o,ops[j]?=some o→(my o.op || mz o.op)=true→o.guard=none→∃ r,rs[j]?=some r∧r.nb=none∧∃ G:aw,(∀ id b,G[id]?=some (some b)→(id < H.length∧H[id]?=some (some b))∨(∃ i,id=H.length+i∧i < j∧i∈aR.getD j []∧(rs[i]?).bind (·.nb)=some b)) ∧
  (my o.op=true→∀ (bh:Nu) (w0:World),bU bh G w0→qB P bh o.op (a9 ops rs (fun i=>decide (i < j)) t0 j) r.v)∧(mz o.op=true→∀ bh,nZ P bh G o.op (a9 ops rs (fun i=>decide (i < j)) t0 j) r.v)
theorem R9 {P:Program} {E:Env} (hE:EnvOk P E) {op:Op} {tmps:List Value} {H:aw} {aE:Nat} {k:QK} (h:lC E op tmps H aE k) :
  ∃ v nb,k v nb∧(∀ (o:Oper) (ν:Nu) (a:Act) (w:World) (r:Option Nat) (n:Nat),o.op=op→(∀ x∈op.operands,fc ν tmps a x)→bU ν H w→ν aE=none →
   ∀ next Q,(∀ v' w' ai,ng ν ai aE w w' v v' nb→next (a.put o.dst v') w')→o.wpIn (WF r) n P a w next Q) ∧
   (my op=true→nb=none∧∀ (bh:Nu) (w0:World),bU bh H w0→qB P bh op tmps v)∧(mz op=true→nb=none∧∀ bh,nZ P bh H op tmps v):=by
 have mk:mz op=false→∀ v,k v none→(∀ (bh:Nu) (w0:World),bU bh H w0→qB P bh op tmps v)→∃ v nb,k v nb∧(∀ (o:Oper) (ν:Nu) (a:Act) (w:World) (r:Option Nat) (n:Nat),o.op=op→(∀ x∈op.operands,fc ν tmps a x)→bU ν H w→ν aE=none →
   ∀ next Q,(∀ v' w' ai,ng ν ai aE w w' v v' nb→next (a.put o.dst v') w')→o.wpIn (WF r) n P a w next Q) ∧
   (my op=true→nb=none∧∀ (bh:Nu) (w0:World),bU bh H w0→qB P bh op tmps v)∧(mz op=true→nb=none∧∀ bh,nZ P bh H op tmps v):=by
  intro fH v hk hp;refine ⟨v,none,hk,fun o ν a w r n ho ha hH hn next Q hN=>?_,fun _=>⟨rfl,hp⟩,fun h=>by rw [fH] at h; cases h⟩
  obtain ⟨u,k1,k2⟩:=(hp ν w hH).2 o ν a w ν.le_refl ho ha;exact jM (v':=u) (w':=w) (by rw [ho]; exact (hp ν w hH).1) k2 next Q (hN _ _ ν ⟨ν.le_refl,fun _ _=>rfl,k1,Below.refl _ _,fun _=>rfl,(fun b hb=>by cases hb)⟩)
 by_cases hp:my op=true
 ·cases op with
  | move x =>
   have h':Cj tmps x k:=h;obtain ⟨v,hk,hv⟩:=cP h';exact mk rfl v hk fun bh w0 _=>⟨by simp,fun o ν a w hle ho ha=>⟨a.eval x,hv ν a (ha x (by simp [Op.operands])),by simp [execOp,ho]⟩⟩
  | extract x i =>
   have h':Fk tmps x i k:=h;obtain ⟨v0,h',hv⟩:=cP h'
   split at h'
   ·rename_i vs;obtain ⟨u,h1,J⟩:=oP h';refine mk rfl u J fun bh w0 _=>⟨by simp,fun o ν a w hle ho ha=>?_⟩
    obtain ⟨ys,he,hy⟩:=aq.nT (xs:=vs.toList) (hv ν a (ha x (by simp [Op.operands])))
    obtain ⟨u',h3,h4⟩:=hy.get h1;exact ⟨u',h4,by simp [execOp,ho,he,Instr.extract,h3]⟩
   ·exact h'.elim
  | binOp op t x y ty =>
   have h':CL E.tt E.eqs tmps op t x y k:=h;obtain ⟨v,hk,hv⟩:=KB hE.ty hE.eq (ty:=ty) h';exact mk rfl v hk fun bh _ _=>hv bh
  | slice t x lo hi mx =>
   obtain ⟨v,hk,hv⟩:=JS hE.ty h;exact mk rfl v hk hv
  | _=>cases hp
 ·have hv:sK P op tmps H k→∃ v nb,k v nb∧(∀ (o:Oper) (ν:Nu) (a:Act) (w:World) (r:Option Nat) (n:Nat),o.op=op→(∀ x∈op.operands,fc ν tmps a x)→bU ν H w→ν aE=none →
   ∀ next Q,(∀ v' w' ai,ng ν ai aE w w' v v' nb→next (a.put o.dst v') w')→o.wpIn (WF r) n P a w next Q) ∧
   (my op=true→nb=none∧∀ (bh:Nu) (w0:World),bU bh H w0→qB P bh op tmps v)∧(mz op=true→nb=none∧∀ bh,nZ P bh H op tmps v):=fun ⟨v,hk,hv⟩ =>
   ⟨v,none,hk,fun o ν a w r n ho ha hH hn next Q hN=>by
    obtain ⟨u,k1,k2⟩:=(hv ν).2 o ν a w ν.le_refl ho ha hH;exact jM (v':=u) (w':=w) (by rw [ho]; exact (hv ν).1) k2 next Q (hN _ _ ν ⟨ν.le_refl,fun _ _=>rfl,k1,Below.refl _ _,fun _=>rfl,(fun b hb=>by cases hb)⟩),fun h=>absurd h hp,fun _=>⟨rfl,hv⟩⟩
  by_cases hh:mz op=true
  ·cases op with
   | load t x=>exact hv (MU hE.ty h)
   | indexAddr t x i=>exact hv (JT hE.ty h)
   | call c =>
    cases hc:c.callee with
    | builtin b =>
     cases b with
     | len =>
      unfold lC at h;simp only [hc] at h
      split at h
      ·rename_i x t hx ht;exact hv (ND hE.ty hc (Array.ext' hx) (Array.ext' ht) h)
      ·exact h.elim
     | _=>simp [mz,hc] at hh
    | _=>simp [mz,hc] at hh
   | _=>cases hh
  ·obtain ⟨v,nb,hk,hq⟩:=A5 (P:=P) hE h;exact ⟨v,nb,hk,hq,fun h=>absurd h hp,fun h=>absurd h hh⟩
theorem v5:∀ {S:List (Option ah)} {i:Nat} {mask:List Nat} {k:List (Option ah)→Prop},lN S i mask k→∃ S',k S'∧S'.length=S.length∧∀ j b,S'[j]?=some (some b)→S[j]?=some (some b)∧(i+j)∈mask
 | [],i,mask,k,h=>⟨[],by simpa [lN] using h,rfl,fun j b hb=>by simp at hb⟩
 | c::S,i,[],k,h=>by
  obtain ⟨S',h1,J,h3⟩:=v5 (S:=S) (i:=i+1) (mask:=[]) (by simpa [lN] using h)
  refine ⟨none::S',h1,by simp [J],fun j b hb=>?_⟩
  cases j with
  | zero=>simp at hb
  | succ j=>have:=h3 j b (by simpa using hb); simp at this
 | c::S,i,m::ms,k,h=>by
  unfold lN at h
  dsimp only at h
  split at h
  ·rename_i e;have e:=Nat.eq_of_beq_eq_true e;obtain ⟨S',h1,J,h3⟩:=v5 (S:=S) h;refine ⟨c::S',h1,by simp [J],fun j b hb=>?_⟩
   cases j with
   | zero=>simp at hb; subst hb; exact ⟨by simp,by simp [e]⟩
   | succ j =>
    obtain ⟨k1,k2⟩:=h3 j b (by simpa using hb)
    exact ⟨by simpa using k1,by rw [show i+(j+1)=i+1+j by omega]; simp [k2]⟩
  ·obtain ⟨S',h1,J,h3⟩:=v5 (S:=S) h;refine ⟨none::S',h1,by simp [J],fun j b hb=>?_⟩
   cases j with
   | zero=>simp at hb
   | succ j =>
    obtain ⟨k1,k2⟩:=h3 j b (by simpa using hb)
    exact ⟨by simpa using k1,by rw [show i+(j+1)=i+1+j by omega]; exact k2⟩
theorem Ex {ops:List Oper} {rs:List cZ} {D:Nat→Bool} {t0:List Value} {m:Nat}:a9 ops rs D t0 (m+1)=(match D m,bO ops m,rs[m]? with
  | true,some d,some r=>(a9 ops rs D t0 m).set d r.v
  | _,_,_=>a9 ops rs D t0 m):=rfl
theorem tE {ops:List Oper} {rs b6:List cZ} {D:Nat→Bool} {t0:List Value}:∀ {m:Nat},(∀ i,i < m→rs[i]?=b6[i]?)→a9 ops rs D t0 m=a9 ops b6 D t0 m
 | 0,_=>rfl
 | m+1,h=>by
  unfold a9;rw [h m (by omega),tE (m:=m) (fun i hi=>h i (by omega))]
theorem x4 {ops:List Oper} {rs:List cZ} {D D':Nat→Bool} {t0:List Value}:∀ {m:Nat},(∀ i,i < m→D i=D' i)→a9 ops rs D t0 m=a9 ops rs D' t0 m
 | 0,_=>rfl
 | m+1,h=>by
  unfold a9;rw [h m (by omega),x4 (m:=m) (fun i hi=>h i (by omega))]
theorem wh {ops:List Oper} {rs:List cZ} {D:Nat→Bool} {t0:List Value} {j:Nat}:∀ {m:Nat},j≤m→(∀ i,j≤i→i < m→D i=false)→a9 ops rs D t0 m=a9 ops rs D t0 j
 | 0,h,_=>by rw [Nat.le_zero.1 h]
 | m+1,h,hD=>by
  by_cases e:j=m+1
  ·rw [e]
  ·rw [Ex,hD m (by omega) (by omega)]
   exact wh (m:=m) (by omega) (fun i h1 J=>hD i h1 (by omega))
theorem oZ.more {P:Program} {ops:List Oper} {t0:List Value} {H:aw} {aR:List (List Nat)} {rs:List cZ} {j:Nat} (h:oZ P ops t0 H aR rs j) (hj:j < rs.length) (r:cZ):oZ P ops t0 H aR (rs++[r]) j:=by
 have he:∀ i,i≤j→(rs++[r])[i]?=rs[i]?:=fun i hi=>by rw [List.getElem?_append_left (by omega)]
 have hv:∀ D,a9 ops (rs++[r]) D t0 j=a9 ops rs D t0 j:=fun D=>tE (fun i hi=>he i (by omega))
 obtain ⟨o,q,h1,J,h3,h4⟩:=h.ok;refine ⟨⟨o,q,h1,by rw [he j (Nat.le_refl _)]; exact J,h3,?_⟩,fun o ho hx hg=>?_⟩
 rotate_left
 ·obtain ⟨r',k1,k2,k3⟩:=h.mv o ho hx hg;obtain ⟨G,g1,g2⟩:=k3;exact ⟨r',by rw [he j (Nat.le_refl _)]; exact k1,k2,G,fun id b hb=>(g1 id b hb).imp (fun x=>x) (fun ⟨i,q1,q2,q3,q4⟩=>⟨i,q1,q2,q3,by rw [he i (by omega)]; exact q4⟩),by rw [hv]; exact g2⟩
 rw [hv];rcases h4 with ⟨G,g1,g2,g3⟩ | h4
 ·exact .inl ⟨G,fun id b hb=>(g1 id b hb).imp (fun x=>x) (fun ⟨i,k1,k2,k3,k4⟩=>⟨i,k1,k2,k3,by rw [he i (by omega)]; exact k4⟩),g2,g3⟩
 ·exact .inr h4
theorem EW {P:Program} {E:Env} (hE:EnvOk P E) {ops:List Oper} {t0:List Value} {H:aw} {aR:List (List Nat)} {k:List Value→List (Option ah)→Prop} :
  ∀ {l:List Oper} {ms:List (List Nat)} {j:Nat} {rs:List cZ},rs.length=j→(∀ (i:Nat) o,l[i]?=some o→ops[j+i]?=some o)→(∀ i,i < l.length→ms.getD i []=aR.getD (j+i) []) →
  (∀ i,i < j→oZ P ops t0 H aR rs i)→lO E ops H H.length l ms j (a9 ops rs (fun i=>decide (i < j)) t0 j) (rs.map (·.nb)) k →
  ∃ b6:List cZ,b6.length=j+l.length∧(∀ i,i < j+l.length→oZ P ops t0 H aR b6 i)∧k (a9 ops b6 (fun i=>decide (i < j+l.length)) t0 (j+l.length)) (b6.map (·.nb))
 | [],ms,j,rs,hl,_,_,ba,h=>⟨rs,hl,ba,h⟩
 | o::l,[],j,rs,hl,_,_,ba,h=>h.elim
 | o::l,mask::ms,j,rs,hl,ho,hm,ba,h=>by
  have ot:ops[j]?=some o:=by have:=ho 0 o rfl; simpa using this
  have Cr:mask=aR.getD j []:=by have:=hm 0 (by simp); simpa using this
  -- the next step, whatever this one's result
  have next:∀ (r:cZ) t',(t'=match o.dst with | some d=>(a9 ops rs (fun i=>decide (i < j)) t0 j).set d r.v | none=>a9 ops rs (fun i=>decide (i < j)) t0 j) →
    (oZ P ops t0 H aR (rs++[r]) j)→lO E ops H H.length l ms (j+1) t' (rs.map (·.nb)++[r.nb]) k →
    ∃ b6:List cZ,b6.length=j+(o::l).length∧(∀ i,i < j+(o::l).length→oZ P ops t0 H aR b6 i)∧k (a9 ops b6 (fun i=>decide (i < j+(o::l).length)) t0 (j+(o::l).length)) (b6.map (·.nb)):=by
   intro r t' jD hj h';have hv:a9 ops (rs++[r]) (fun i=>decide (i < j+1)) t0 (j+1)=t':=by
    have hr:(rs++[r])[j]?=some r:=by rw [← hl]; simp
    have hd:bO ops j=o.dst:=by simp [bO,ot]
    have y8:a9 ops (rs++[r]) (fun i=>decide (i < j+1)) t0 j=a9 ops rs (fun i=>decide (i < j)) t0 j:=by
     rw [tE (b6:=rs) (fun i hi=>by rw [List.getElem?_append_left (by omega)])]
     exact x4 (fun i hi=>by simp; omega)
    have HL:decide (j < j+1)=true:=by simp
    rw [jD,Ex,hr,hd,y8,HL];cases o.dst <;> rfl
   rw [← hv] at h';have h'':lO E ops H H.length l ms (j+1) (a9 ops (rs++[r]) (fun i=>decide (i < j+1)) t0 (j+1)) ((rs++[r]).map (·.nb)) k:=by simpa using h'
   obtain ⟨b6,k1,k2,k3⟩:=EW hE (l:=l) (ms:=ms) (j:=j+1) (rs:=rs++[r]) (by simp [hl]) (fun i p hp=>by have:=ho (i+1) p (by simpa using hp); rwa [show j+1+i=j+(i+1) by omega])
    (fun i hi=>by have:=hm (i+1) (by simp; omega); rw [show j+1+i=j+(i+1) by omega]; simpa using this)
    (fun i hi=>by
     by_cases e:i=j
     ·subst e; exact hj
     ·exact (ba i (by omega)).more (by omega) r) h''
   have e:j+1+l.length=j+(o::l).length:=by simp; omega
   rw [e] at k1 k2 k3;exact ⟨b6,k1,k2,k3⟩
  have ou:∀ r:cZ,a9 ops (rs++[r]) (fun i=>decide (i < j)) t0 j=a9 ops rs (fun i=>decide (i < j)) t0 j:=fun r=>tE (fun i hi=>by rw [List.getElem?_append_left (by omega)])
  have tf:∀ r:cZ,(rs++[r])[j]?=some r:=fun r=>by rw [← hl]; simp
  have run:(o.guard=none∨∃ g want d b,o.guard=some (g,want)∧bO ops g=some d∧(a9 ops rs (fun i=>decide (i < j)) t0 j)[d]?=some (.bool b)∧(b == want)=true) →
    (lN (rs.map (·.nb)) 0 mask fun Sm=>nI H Sm fun G=>lC E o.op (a9 ops rs (fun i=>decide (i < j)) t0 j) G (H.length+j) fun v nb=>dg (a9 ops rs (fun i=>decide (i < j)) t0 j) o.dst v fun t'=>jt (rs.map (·.nb)) nb fun S'=>lO E ops H H.length l ms (j+1) t' S' k) →
    ∃ b6:List cZ,b6.length=j+(o::l).length∧(∀ i,i < j+(o::l).length→oZ P ops t0 H aR b6 i)∧k (a9 ops b6 (fun i=>decide (i < j+(o::l).length)) t0 (j+(o::l).length)) (b6.map (·.nb)):=by
   intro hg h;obtain ⟨Sm,h1,J,h3⟩:=v5 h;have h1:=tR h1;obtain ⟨v,nb,hk,hq,xN⟩:=R9 (P:=P) hE h1;have lV:∃ t',(t'=match o.dst with | some d=>(a9 ops rs (fun i=>decide (i < j)) t0 j).set d v | none=>a9 ops rs (fun i=>decide (i < j)) t0 j)∧(∀ d,o.dst=some d→d < t0.length)∧(jt (rs.map (·.nb)) nb fun S'=>lO E ops H H.length l ms (j+1) t' S' k):=by
    cases hd:o.dst with
    | none=>rw [hd] at hk; exact ⟨_,rfl,(fun d hd=>by cases hd),hk⟩
    | some d =>
     rw [hd] at hk;obtain ⟨k1,k2⟩:=oQ hk;rw [rJ] at k1;exact ⟨_,rfl,(fun d' cS=>by cases cS; exact k1),k2⟩
   obtain ⟨t',e1,e2,e3⟩:=lV;refine next ⟨v,nb,true⟩ t' e1 ⟨⟨o,⟨v,nb,true⟩,ot,tf _,e2,.inl ⟨H++Sm,fun id b hb=>?_,?_,?_⟩⟩,fun p hp hx PX=>?_⟩ (tH e3)
   rotate_right
   ·rw [ot] at hp; cases hp;have k1:nb=none:=by
     rcases Bool.or_eq_true_iff.1 hx with hx | hx
     ·exact (xN.1 hx).1
     ·exact (xN.2 hx).1
    refine ⟨_,tf _,k1,H++Sm,fun id b hb=>?_,fun hx=>by rw [ou]; exact (xN.1 hx).2,fun hx=>by rw [ou]; exact (xN.2 hx).2⟩
    rw [List.getElem?_append] at hb
    split at hb
    ·exact .inl ⟨by assumption,hb⟩
    ·rename_i dZ;obtain ⟨q1,q2⟩:=h3 _ b hb;have ak:id - H.length < rs.length:=by
      have:=(List.getElem?_eq_some_iff.1 q1).1
      simpa using this
     refine .inr ⟨id - H.length,by omega,by omega,by rw [← Cr]; simpa using q2,?_⟩
     rw [List.getElem?_append_left ak];rw [List.getElem?_map] at q1;cases hr:rs[id - H.length]? with
     | none=>rw [hr] at q1; cases q1
     | some r=>rw [hr] at q1; simpa using q1
   ·rw [List.getElem?_append] at hb
    split at hb
    ·exact .inl ⟨by assumption,hb⟩
    ·rename_i dZ;obtain ⟨q1,q2⟩:=h3 _ b hb;have ak:id - H.length < rs.length:=by
      have:=(List.getElem?_eq_some_iff.1 q1).1
      simpa using this
     refine .inr ⟨id - H.length,by omega,by omega,by rw [← Cr]; simpa using q2,?_⟩
     rw [List.getElem?_append_left ak];rw [List.getElem?_map] at q1;cases hr:rs[id - H.length]? with
     | none=>rw [hr] at q1; cases q1
     | some r=>rw [hr] at q1; simpa using q1
   ·rw [ou];exact fun ν a w q n ha hH hn next Q hN=>hq o ν a w q n rfl ha hH hn next Q hN
   ·rw [ou]; exact hg
  have skip:(∃ g want d v,o.guard=some (g,want)∧bO ops g=some d∧(a9 ops rs (fun i=>decide (i < j)) t0 j)[d]?=some v∧((∃ b,v=.bool b∧(b == want)=false)∨∃ vs,v=.tuple vs)) →
    (dg (a9 ops rs (fun i=>decide (i < j)) t0 j) o.dst undef fun t'=>jt (rs.map (·.nb)) none fun S'=>lO E ops H H.length l ms (j+1) t' S' k) →
    ∃ b6:List cZ,b6.length=j+(o::l).length∧(∀ i,i < j+(o::l).length→oZ P ops t0 H aR b6 i)∧k (a9 ops b6 (fun i=>decide (i < j+(o::l).length)) t0 (j+(o::l).length)) (b6.map (·.nb)):=by
   intro hg hk;have lV:∃ t',(t'=match o.dst with | some d=>(a9 ops rs (fun i=>decide (i < j)) t0 j).set d undef | none=>a9 ops rs (fun i=>decide (i < j)) t0 j)∧(∀ d,o.dst=some d→d < t0.length)∧(jt (rs.map (·.nb)) none fun S'=>lO E ops H H.length l ms (j+1) t' S' k):=by
    cases hd:o.dst with
    | none=>rw [hd] at hk; exact ⟨_,rfl,(fun d hd=>by cases hd),hk⟩
    | some d =>
     rw [hd] at hk;obtain ⟨k1,k2⟩:=oQ hk;rw [rJ] at k1;exact ⟨_,rfl,(fun d' cS=>by cases cS; exact k1),k2⟩
   obtain ⟨t',e1,e2,e3⟩:=lV;refine next ⟨undef,none,false⟩ t' e1 ⟨⟨o,⟨undef,none,false⟩,ot,tf _,e2,.inr ⟨rfl,rfl,by rw [ou]; exact hg⟩⟩,fun p hp hx PX=>?_⟩ (tH e3)
   rw [ot] at hp; cases hp;obtain ⟨g,want,d,v,k1,_⟩:=hg;rw [PX] at k1; cases k1
  unfold lO at h
  split at h
  ·exact run (.inl (by assumption)) h
  ·rename_i g want hg
   split at h
   ·rename_i d hd;obtain ⟨v,hv,h⟩:=oP h
    split at h
    ·rename_i b;cases hb:(b == want) with
     | true=>exact run (.inr ⟨g,want,d,b,hg,hd,hv,hb⟩) (BD h hb)
     | false=>exact skip ⟨g,want,d,_,hg,hd,hv,.inl ⟨b,rfl,hb⟩⟩ (Bj h hb)
    ·exact skip ⟨g,want,d,_,hg,hd,hv,.inr ⟨_,rfl⟩⟩ h
    ·exact h.elim
   ·exact h.elim
open Go Go.RowKit
structure Order (ops:List Oper) (aR:List (List Nat)):Prop where
 mask:∀ j o,ops[j]?=some o→∀ i∈aR.getD j [],i < j∧∃ e∈o.after,Region.binds .any e=true∧(e.on=i∨(i∈aR.getD e.on []∧e.on < j))
 back:∀ j o,ops[j]?=some o→∀ e∈o.after,Region.binds .any e=true→e.on < j
structure Y0 (ops:List Oper) (m:Nat) (aR:List (List Nat)):Prop extends Order ops aR where
 le:m≤ops.length
 apart:∀ j o i p d,j < m→i < m→i≠j→ops[j]?=some o→ops[i]?=some p→p.dst=some d→o.dst≠some d∧(d ∉ ji ops o∨i∈aR.getD j []∨j∈aR.getD i [])
 tail:∀ j,j < ops.length→m≤j→∀ i,i < j→i∈aR.getD j []
theorem Kj {ops:List Oper} {m:Nat} {aR:List (List Nat)} (h:B7 ops m aR=true):Y0 ops m aR:=by
 unfold B7 at h;simp only [Bool.and_eq_true,decide_eq_true_eq] at h;obtain ⟨⟨⟨⟨h1,J⟩,h3⟩,h4⟩,h5⟩:=h;have lt:∀ {j:Nat} {o:Oper},ops[j]?=some o→j∈List.range ops.length:=fun hj=>List.mem_range.2 (List.getElem?_eq_some_iff.1 hj).1
 refine ⟨⟨fun j o hj i hi=>?_,fun j o hj e he hb=>?_⟩,h1,fun j o i p d hj hi aH ho hp hd=>?_,fun j hj hm i hi=>?_⟩
 ·unfold BI at J;have:=List.all_eq_true.1 J j (lt hj);rw [hj] at this;have:=List.all_eq_true.1 this i hi;simp only [Bool.and_eq_true,decide_eq_true_eq,List.any_eq_true,Bool.or_eq_true,beq_iff_eq,List.contains_iff_mem] at this;obtain ⟨k1,e,k2,k3,k4⟩:=this;exact ⟨k1,e,by simpa using k2,k3,k4⟩
 ·have:=List.all_eq_true.1 h3 j (lt hj);rw [hj] at this;have:=List.all_eq_true.1 this e (by simpa using he)
  simp only [hb,Bool.not_true,Bool.false_or,decide_eq_true_eq] at this;exact this
 ·have:=List.all_eq_true.1 h4 j (List.mem_range.2 hj);rw [ho] at this;have:=List.all_eq_true.1 this i (List.mem_range.2 hi);rw [hp] at this;have hb:(i == j)=false:=by simp [aH]
  rw [hb,Bool.false_or] at this
  dsimp only at this
  rw [hd] at this;simp only [Bool.and_eq_true,bne_iff_ne,Bool.or_eq_true,Bool.not_eq_true',List.contains_iff_mem,or_assoc] at this;refine ⟨this.1,this.2.imp (fun k=>?_) (fun k=>k)⟩
  intro gH;rw [List.contains_iff_mem.2 gH] at k;cases k
 ·have:=List.all_eq_true.1 h5 j (List.mem_range.2 hj);simp only [Bool.or_eq_true,decide_eq_true_eq,List.all_eq_true,List.mem_range,List.contains_iff_mem] at this;rcases this with h | h
  ·omega
  ·exact h i hi
def DB (aA:Array Bool):Nat→Bool:=fun i=>aA.getD i false
theorem B8 {aA:Array Bool} {j:Nat} (hj:j < aA.size) (i:Nat):DB (aA.setIfInBounds j true) i=(DB aA i || i == j):=by
 unfold DB;by_cases e:j=i
 ·subst e; simp [hj]
 ·rw [getD_set_ne false e];have:(i == j)=false:=by simp; exact fun h=>e h.symm
  rw [this,Bool.or_false]
theorem tX {aA:Array Bool} {i:Nat} (hi:i < aA.size) (d:Bool):aA.getD i d=DB aA i:=by
 unfold DB; simp [hi]
def o4 (ops:List Oper) (D:Nat→Bool):Prop:=∀ j o,D j=true→ops[j]?=some o→∀ e∈o.after,Region.binds .any e=true→D e.on=true
theorem tF {ops:List Oper} {aR:List (List Nat)} (hc:Order ops aR) {D:Nat→Bool} (hD:o4 ops D):∀ (j:Nat) o,ops[j]?=some o→(∀ e∈o.after,Region.binds .any e=true→D e.on=true)→∀ i∈aR.getD j [],D i=true:=by
 intro j
 induction j using Nat.strongRecOn with
 | _ j ih =>
  intro o ho he i hi;obtain ⟨_,e,h1,J,h3⟩:=hc.mask j o ho i hi;rcases h3 with rfl | ⟨h3,h4⟩
  ·exact he e h1 J
  ·have kI:=he e h1 J;cases ov:ops[e.on]? with
   | none=>rw [List.getElem?_eq_none_iff] at ov; have:=(List.getElem?_eq_some_iff.1 ho).1; omega
   | some p=>exact ih e.on h4 p ov (hD e.on p kI ov) i h3
def gw (D:Nat→Bool) (n:Nat):Nat:=((List.range n).filter fun i=>!D i).length
theorem AN (D:Nat→Bool) (n:Nat):gw D (n+1)=gw D n+if D n then 0 else 1:=by
 unfold gw;rw [List.range_succ,List.filter_append,List.length_append];cases hd:D n <;> simp [hd]
theorem A0 {D D':Nat→Bool} {j:Nat} (h:∀ i,D' i=(D i || i == j)) (hj:D j=false):∀ n,gw D' n+(if j < n then 1 else 0)=gw D n
 | 0=>by simp [gw]
 | n+1=>by
  have ih:=A0 h hj n;rw [AN,AN,h n];by_cases e:n=j
  ·subst e;simp only [Nat.lt_irrefl,if_false,Nat.add_zero] at ih;rw [hj]; simp; omega
  ·have:(n == j)=false:=by simp [e]
   rw [this,Bool.or_false];by_cases ak:j < n
   ·have e1:(if j < n+1 then 1 else 0)=1:=if_pos (by omega)
    rw [if_pos ak] at ih; rw [e1]; generalize (if D n=true then 0 else 1)=z; omega
   ·have e1:(if j < n+1 then 1 else 0)=0:=if_neg (by omega)
    rw [if_neg ak] at ih; rw [e1]; generalize (if D n=true then 0 else 1)=z; omega
theorem Ey {D:Nat→Bool} {n i:Nat} (hi:i < n) (hD:D i=false):0 < gw D n:=by
 unfold gw;exact List.length_pos_of_mem (List.mem_filter.2 ⟨List.mem_range.2 hi,by simp [hD]⟩)
theorem AD {ops:List Oper} {o:Oper} {g:Nat} {want:Bool} {d:Tmp} (hg:o.guard=some (g,want)) (hd:bO ops g=some d):d∈ji ops o:=by
 have cS:(ops[g]?).bind (fun x=>x.dst)=some d:=hd
 unfold ji;refine List.mem_append_right _ ?_;rw [hg]
 dsimp only
 rw [cS];simp
section
variable {P:Program} {E:Env} {r:Option Nat} {n:Nat} {F:Fr} {ops:Array Oper} {Q:Exit→Act→World→Prop} {m:Nat} {aR:List (List Nat)} {k:SK}
theorem AO (hc:Order ops.toList aR) {aA:Array Bool} (hs:aA.size=ops.size) {j:Nat} (hj:j < ops.size) (h0:DB aA j=false) (h1:∀ i,i < j→DB aA i=true):j∈Region.ready .any ops aA:=by
 rw [mem_ready];refine ⟨by rw [tX (by omega)]; exact h0,ops[j],Array.getElem?_eq_getElem hj,fun e he hb=>?_⟩
 exact h1 _ (hc.back j ops[j] (by simp [hj]) e he hb)
theorem EX (hE:j4 P E) (bM:lE F E) (hc:Order ops.toList aR) (abo:∀ j,j < ops.toList.length→m≤j→∀ i,i < j→i∈aR.getD j []) (hk:∀ ν t' H' a' w',bw F ν t' H' a' w'→k t' H'→Q .normal a' w') :
  ∀ (fuel:Nat) (aA:Array Bool) (j0:Nat) (ν:Nu) (t:List Value) (H:aw) (a:Act) (w:World),aA.size=ops.size→(∀ i,DB aA i=decide (i < j0))→m≤j0→j0≤ops.size →
  bw F ν t H a w→nw E ops.toList (ops.toList.drop j0) t H k→ops.size≤j0+fuel→wpAnyIn (WF r) n P .any ops Q fuel aA a w:=by
 intro fuel
 induction fuel with
 | zero =>
  intro aA j0 ν t H a w hs hD hm hle hi h hf;have e:j0=ops.size:=by omega
  subst e;rw [List.drop_eq_nil_of_le (by simp)] at h
  refine ⟨?_,hk _ _ _ _ _ hi h⟩;rw [List.eq_nil_iff_forall_not_mem];intro j hj;rw [mem_ready] at hj;obtain ⟨h1,o,ho,_⟩:=hj;have ak:j < ops.size:=(Array.getElem?_eq_some_iff.1 ho).1;rw [tX (by omega),hD j] at h1
  simp at h1; omega
 | succ fuel ih =>
  intro aA j0 ν t H a w hs hD hm hle hi h hf;by_cases e:j0=ops.size
  ·subst e;rw [List.drop_eq_nil_of_le (by simp)] at h
   refine ⟨fun _=>hk _ _ _ _ _ hi h,fun j hj=>?_⟩
   rw [mem_ready] at hj;obtain ⟨h1,o,ho,_⟩:=hj;have ak:j < ops.size:=(Array.getElem?_eq_some_iff.1 ho).1;rw [tX (by omega),hD j] at h1
   simp at h1; omega
  ·have ak:j0 < ops.size:=by omega
   have hr:=AO hc hs ak (by rw [hD]; simp) (fun i hi=>by rw [hD]; simpa using hi)
   refine ⟨fun hn=>?_,fun j hj=>?_⟩
   ·rw [hn] at hr; cases hr
   ·rw [mem_ready] at hj;obtain ⟨h1,o,ho,he⟩:=hj;have nJ:j < ops.size:=(Array.getElem?_eq_some_iff.1 ho).1;rw [tX (by omega),hD j] at h1
    have dZ:j0≤j:=by simpa using h1
    have fY:ops.toList[j]?=some o:=by simpa using ho
    have kM:j=j0:=by
     rcases Nat.lt_or_ge j0 j with qQ | adT
     ·have gH:=abo j (by simpa using nJ) (by omega) j0 qQ
      have eP:o4 ops.toList (DB aA):=fun i p aP hp e' fZ bF=>by
       rw [hD] at aP ⊢;have:=hc.back i p hp e' fZ bF;simp at aP ⊢; omega
      have:=tF hc eP j o fY (fun e' fZ bF=>he e' fZ bF) j0 gH
      rw [hD] at this; simp at this
     ·omega
    subst kM;have G9:ops.toList.drop j=o::ops.toList.drop (j+1):=by
     rw [List.drop_eq_getElem_cons (by simpa using nJ)]
     congr 1
     have:=List.getElem?_eq_getElem (l:=ops.toList) (i:=j) (by simpa using nJ)
     rw [fY] at this; exact (Option.some.inj this).symm
    rw [G9] at h;unfold wpOpIn;rw [ho];refine Ew hE bM hi (Lr h) (fun ν t' H' a' w' aP h'=>?_)
    refine ih _ (j+1) ν t' H' a' w' (by simp [hs]) (fun i=>?_) (by omega) (by omega) aP h' (by omega)
    rw [B8 (by omega),hD i]
    by_cases e':i=j
    ·subst e'; simp
    ·have:(i == j)=false:=by simp [e']
     rw [this,Bool.or_false];simp; omega
theorem DX {D:Nat→Bool} {m:Nat} (hD:∀ i,D i=decide (i < m)):∀ q,m≤q→gw D q=q - m:=by
 intro q
 induction q with
 | zero=>intro h; simp [gw]
 | succ q ihq =>
  intro h;rw [AN,hD q];by_cases e:m=q+1
  ·subst e;have:∀ q',q'≤q+1→gw D q'=0:=by
    intro q'
    induction q' with
    | zero=>intro _; simp [gw]
    | succ q' ih'=>intro h'; rw [AN,ih' (by omega),hD q']; simp; omega
   rw [this q (by omega)]; simp
  ·rw [ihq (by omega)]
   have:¬ (q < m):=by omega
   simp [this]; omega
theorem DY {D:Nat→Bool} {i:Nat} (h:D i=false):∃ j,j≤i∧D j=false∧∀ q,q < j→D q=true:=by
 induction i using Nat.strongRecOn with
 | _ i ihi =>
  by_cases cW:∀ j,j < i→D j=true
  ·exact ⟨i,Nat.le_refl _,h,cW⟩
  ·have:∃ j,j < i∧D j=false:=by
    refine Classical.byContradiction fun aH=>cW fun j hj=>?_
    cases hd:D j with
    | true=>rfl
    | false=>exact absurd ⟨j,hj,hd⟩ aH
   obtain ⟨j,h3,h4⟩:=this;obtain ⟨q,k1,k2,k3⟩:=ihi j h3 h4;exact ⟨q,by omega,k2,k3⟩
theorem Lu (hc:Order ops.toList aR) (uz:m≤ops.size)
  (yG:∀ j o i p d,j < m→i < m→i≠j→ops.toList[j]?=some o→ops.toList[i]?=some p→p.dst=some d→o.dst≠some d∧(d ∉ ji ops.toList o∨i∈aR.getD j []∨j∈aR.getD i []))
  {fl:List Nat} (Cs:∀ j,j < ops.size→m≤j→∀ i,i < m→i ∉ fl→i∈aR.getD j [])
  {t0:List Value} {H:aw} {rs:List cZ} (hh:∀ i,i < m→oZ P ops.toList t0 H aR rs i)
  (pB:∀ (fuel:Nat) (aA:Array Bool) (ν:Nu) (a:Act) (w:World),aA.size=ops.size→o4 ops.toList (DB aA)→(∀ i,DB aA i=true→i < m)→(∀ i,i < m→i ∉ fl→DB aA i=true) →
   bw F ν (a9 ops.toList rs (DB aA) t0 m) (H++kZ rs (DB aA) m) a w→gw (DB aA) ops.size≤fuel→wpAnyIn (WF r) n P .any ops Q fuel aA a w) :
  ∀ (fuel:Nat) (aA:Array Bool) (ν:Nu) (a:Act) (w:World),aA.size=ops.size→o4 ops.toList (DB aA)→(∀ i,DB aA i=true→i < m) →
  bw F ν (a9 ops.toList rs (DB aA) t0 m) (H++kZ rs (DB aA) m) a w→(∀ i,i < m→DB aA i=false→ν (H.length+i)=none)→gw (DB aA) ops.size≤fuel →
  wpAnyIn (WF r) n P .any ops Q fuel aA a w:=by
 have lV:∀ i d,i < m→bO ops.toList i=some d→d < t0.length:=by
  intro i d hi hd;obtain ⟨o,q,h1,J,h3,_⟩:=(hh i hi).ok;unfold bO at hd;rw [h1] at hd;exact h3 d hd
 have pK:xp ops.toList m:=by
  intro i j d hi hj h1 J;rcases Nat.decEq i j with aH | he
  ·obtain ⟨o,q,k1,_⟩:=(hh i hi).ok;obtain ⟨p,q',k2,_⟩:=(hh j hj).ok;unfold bO at h1 J;rw [k1] at h1; rw [k2] at J;exact absurd h1 (yG i o j p d hi hj (Ne.symm aH) k1 k2 J).1
  ·exact he
 intro fuel
 induction fuel with
 | zero =>
  intro aA ν a w hs eP ak hi gl hu;have cW:∀ i,i < ops.size→DB aA i=true:=fun i aP=>by
   cases hd:DB aA i with
   | true=>rfl
   | false=>have:=Ey aP hd; omega
  exact pB 0 aA ν a w hs eP ak (fun i aP _=>cW i (by omega)) hi hu
 | succ fuel ih =>
  intro aA ν a w hs eP ak hi gl hu;by_cases pg:∀ i,i < m→i ∉ fl→DB aA i=true
  ·exact pB (fuel+1) aA ν a w hs eP ak pg hi hu
  ·-- something of the head has not gone: the least such one may go
   have hex:∃ i,i < m∧i ∉ fl∧DB aA i=false:=by
    refine Classical.byContradiction fun aH=>pg fun i aP hf=>?_
    cases hd:DB aA i with
    | true=>rfl
    | false=>exact absurd ⟨i,aP,hf,hd⟩ aH
   obtain ⟨i1,Dq,hf1,gd⟩:=hex;obtain ⟨i0,O2,fx,jc⟩:=DY gd;have gz:i0 < m:=by omega
   have hr:=AO hc hs (by omega:i0 < ops.size) fx jc
   refine ⟨(fun hn=>by rw [hn] at hr; cases hr),fun j hj=>?_⟩
   rw [mem_ready] at hj;obtain ⟨h1,o,ho,he⟩:=hj;have nJ:j < ops.size:=(Array.getElem?_eq_some_iff.1 ho).1;rw [tX (by omega)] at h1
   have fY:ops.toList[j]?=some o:=by simpa using ho
   have mg:=tF hc eP j o fY (fun e' fZ bF=>he e' fZ bF)
   have mO:j < m:=by
    rcases Nat.lt_or_ge j m with h | h
    ·exact h
    ·have:=mg i1 (Cs j nJ h i1 Dq hf1);rw [gd] at this; cases this
   obtain ⟨o',q,g1,g2,g3,g4⟩:=(hh j mO).ok;rw [fY] at g1; cases g1;have IH:bO ops.toList j=o.dst:=by simp [bO,fY]
   -- what it reads stands as the text's order has it
   have Ha:∀ d,d∈ji ops.toList o→(a9 ops.toList rs (DB aA) t0 m)[d]?=(a9 ops.toList rs (fun i=>decide (i < j)) t0 j)[d]?:=by
    intro d hd;rw [← wh (j:=j) (m:=m) (by omega) (fun i h1 J=>by simp; omega)]
    refine yg pK lV (fun i aP fV=>?_)
    by_cases e:i=j
    ·subst e; rw [h1]; simp
    ·obtain ⟨p,q',k1,_⟩:=(hh i aP).ok;have IJ:p.dst=some d:=by unfold bO at fV; rw [k1] at fV; exact fV
     rcases (yG j o i p d mO aP e fY k1 IJ).2 with h | h | h
     ·exact absurd hd h
     ·rw [mg i h];have:=(hc.mask j o fY i h).1;simp [this]
     ·have hji:=(hc.mask i p k1 j h).1;have:DB aA i=false:=by
       cases cS:DB aA i with
       | false=>rfl
       | true =>
        have:=tF hc eP i p k1 (eP i p cS k1) j h;rw [h1] at this; cases this
      rw [this]; simp; omega
   have c5:∀ i,DB (aA.setIfInBounds j true) i=(DB aA i || i == j):=fun i=>B8 (by omega) i
   have xG:o4 ops.toList (DB (aA.setIfInBounds j true)):=by
    intro i p aP hp e' fZ bF;rw [c5] at aP ⊢;by_cases e:i=j
    ·subst e;rw [fY] at hp; cases hp;have:DB aA e'.on=true:=he e' fZ bF;rw [this]; rfl
    ·have e2:(i == j)=false:=by simp [e]
     rw [e2,Bool.or_false] at aP;rw [eP i p aP hp e' fZ bF]; rfl
   have qQ:∀ i,DB (aA.setIfInBounds j true) i=true→i < m:=fun i aP=>by
    rw [c5] at aP;by_cases e:i=j
    ·subst e; exact mO
    ·have e2:(i == j)=false:=by simp [e]
     rw [e2,Bool.or_false] at aP;exact ak i aP
   have s6:gw (DB (aA.setIfInBounds j true)) ops.size≤fuel:=by
    have:=A0 c5 h1 ops.size;rw [if_pos nJ] at this; omega
   have uE:=KM (D:=DB aA) (D':=DB (aA.setIfInBounds j true)) pK lV mO h1 c5 g2;rw [IH] at uE;have fp:∀ (id:Nat) (c:ah),(H++kZ rs (DB (aA.setIfInBounds j true)) m)[id]?=some (some c) ↔
     (H++kZ rs (DB aA) m)[id]?=some (some c)∨(id=H.length+j∧q.nb=some c):=by
    intro id c;by_cases bn:id < H.length
    ·rw [List.getElem?_append_left bn,List.getElem?_append_left bn];constructor
     ·exact .inl
     ·rintro (h | ⟨h,_⟩)
      ·exact h
      ·omega
    ·rw [List.getElem?_append_right (by omega),List.getElem?_append_right (by omega),rM,rM]
     constructor
     ·rintro ⟨k1,k2,k3⟩
      rw [c5] at k2;by_cases e:id - H.length=j
      ·refine .inr ⟨by omega,?_⟩
       rw [e,g2] at k3; exact k3
      ·have e2:(id - H.length == j)=false:=by simp [e]
       rw [e2,Bool.or_false] at k2;exact .inl ⟨k1,k2,k3⟩
     ·rintro (⟨k1,k2,k3⟩ | ⟨k1,k2⟩)
      ·exact ⟨k1,by rw [c5,k2]; rfl,k3⟩
      ·have e:id - H.length=j:=by omega
       rw [e];exact ⟨mO,by rw [c5]; simp,by rw [g2]; exact k2⟩
   have nh:ν (H.length+j)=none:=gl j mO h1;have Hb:(H++kZ rs (DB aA) m).length=H.length+m:=by rw [List.length_append,JY]
   have GB:(H++kZ rs (DB (aA.setIfInBounds j true)) m).length=H.length+m:=by rw [List.length_append,JY]
   -- the state behind it
   have after:∀ v' w' ai,ng ν ai (H.length+j) w w' q.v v' q.nb→wpAnyIn (WF r) n P .any ops Q fuel (aA.setIfInBounds j true) (a.put o.dst v') w':=by
    intro v' w' ai hp;have hb:=hp.below;refine ih _ ai _ w' (by simp [hs]) xG qQ ⟨?_,?_,?_,fun id bn=>?_,hi.kp.below hb,fun id c lc cC oj dD=>?_,Nu.le_trans hi.mono hp.le⟩ (fun i aP cS=>?_) s6
    ·rw [uE];cases hd:o.dst with
     | none=>exact hi.tm.mono hp.le
     | some d=>rw [rS]; exact (hi.tm.mono hp.le).set hp.val d
    ·cases o.dst <;> exact hi.df.below hb
    ·cases dw:q.nb with
     | none =>
      have:=hp.zF dw;subst this;refine (hi.hp.below hb).sj (fun id c cC=>?_)
      rcases (fp id c).1 cC with h | ⟨_,h⟩
      ·exact h
      ·rw [dw] at h; cases h
     | some b =>
      obtain ⟨l,hl,hB,hle⟩:=hp.gW b dw;have lg:ai=ν.add (H.length+j) l:=by
       funext id
       by_cases e:id=H.length+j
       ·subst e; rw [hl,Nu.add_same]
       ·rw [hp.only id e,Nu.iQ e]
      subst lg;refine hi.hp.push hb nh _ (fun id c cC=>?_) hle hB
      rcases (fp id c).1 cC with h | ⟨h3,h4⟩
      ·by_cases e:id=H.length+j
       ·obtain ⟨l',cB,_⟩:=hi.hp.aG id c h;rw [e,nh] at cB; cases cB
       ·exact .inr ⟨e,h⟩
      ·rw [dw] at h4; cases h4;exact .inl ⟨h3,rfl⟩
    ·rw [GB] at bn;rw [hp.only id (by omega)]
     exact hi.fr id (by rw [Hb]; exact bn)
    ·rcases (fp id c).1 cC with h | ⟨h3,h4⟩
     ·have aH:id≠H.length+j:=fun e=>by
       obtain ⟨l',cB,_⟩:=hi.hp.aG id c h;rw [e,nh] at cB; cases cB
      rw [hp.only id aH] at dD;exact hi.own id c lc h oj dD
     ·obtain ⟨l,hl,_,hle⟩:=hp.gW c h4;rw [h3,hl] at dD; cases dD;exact .inr (Nat.le_trans hi.kp.size hle)
    ·have aH:i≠j:=fun e=>by subst e; rw [c5] at cS; simp at cS
     rw [hp.only _ (by omega)]
     refine gl i aP ?_;rw [c5] at cS;simp only [Bool.or_eq_false_iff] at cS;exact cS.1
   unfold wpOpIn;rw [ho]
   dsimp only
   have fw:∀ d,d∈ji ops.toList o→∀ v,(a9 ops.toList rs (fun i=>decide (i < j)) t0 j)[d]?=some v→∃ v',a.tmps[d]?=some v'∧aq ν v v':=by
    intro d hd v hv;rw [← Ha d hd] at hv;obtain ⟨v',k1,k2⟩:=hi.tm.get hv;exact ⟨v',by simpa using k1,k2⟩
   rcases g4 with ⟨G,q1,q2,q3⟩ | ⟨q1,q2,g,want,d,v,q3,q4,q5,q6⟩
   ·have hw:Region.wanted o (yielded ops a.tmps)=true:=by
     rcases q3 with hg | ⟨g,want,d,b,hg,hd,hv,hb⟩
     ·simp [Region.wanted,hg]
     ·obtain ⟨v',k1,k2⟩:=fw d (AD hg hd) _ hv;rw [k2.ki] at k1;have hy:=ye (ops:=ops) (tmps:=a.tmps) (j:=g) (d:=d) (by simpa [bO] using hd)
      rw [k1] at hy;simp only [Region.wanted,hg,hy];rw [← hb];cases b <;> cases want <;> rfl
    rw [if_pos hw];refine q2 ν a w r n (fun x hx t ht v hv=>fw t ?_ v hv) (hi.hp.sj fun id b hb=>?_) nh _ Q after
    ·unfold ji;exact List.mem_append_left _ (pV (by rw [ht] at hx; simpa using hx))
    ·rcases q1 id b hb with ⟨h3,h4⟩ | ⟨i,h3,h4,h5,h6⟩
     ·rw [List.getElem?_append_left h3]; exact h4
     ·subst h3;rw [List.getElem?_append_right (by omega)]
      rw [show H.length+i - H.length=i by omega,rM]
      exact ⟨by omega,mg i h5,h6⟩
   ·have hw:Region.wanted o (yielded ops a.tmps)=false:=by
     obtain ⟨v',k1,k2⟩:=fw d (AD q3 q4) _ q5;have hy:=ye (ops:=ops) (tmps:=a.tmps) (j:=g) (d:=d) (by simpa [bO] using q4)
     rw [k1] at hy;rcases q6 with ⟨b,rfl,hb⟩ | ⟨vs,rfl⟩
     ·rw [k2.ki] at hy;simp only [Region.wanted,q3,hy];rw [← hb];cases b <;> cases want <;> rfl
     ·obtain ⟨ys,rfl,_⟩:=aq.nT (xs:=vs.toList) k2;simp only [Region.wanted,q3,hy]
      rfl
    rw [if_neg (by rw [hw]; simp)]
    refine ⟨fun _ _=>trivial,after undef w ν ⟨ν.le_refl,fun _ _=>rfl,by rw [q1]; exact .undef ν,Below.refl _ _,fun _=>rfl,(fun b hb=>by rw [q2] at hb; cases hb)⟩⟩
theorem UE (hm:P.follows .mixedOrders=true):nF P Ok:=by
 intro E hE r n F bM ops Q id ν tmps H a w k hi h hk;obtain ⟨m,aR,ba,h⟩:=h;have h:=mr h;obtain ⟨O3,h⟩:=yf h;have hc:=Kj ba;obtain ⟨rs,iJ,ku,gj⟩:=EW (P:=P) hE.toEnvOk (ops:=ops.toList) (t0:=tmps) (H:=H) (aR:=aR) (l:=ops.toList.take m) (ms:=aR) (j:=0) (rs:=[]) rfl
  (fun i o ho=>by
   rw [List.getElem?_take] at ho
   split at ho
   ·simpa using ho
   ·cases ho)
  (fun i _=>by simp) (fun i hi=>by omega) h
 have gj:=tR gj;have hlen:0+(ops.toList.take m).length=m:=by rw [List.length_take]; omega
 rw [hlen] at iJ ku gj;refine wpIn_region_any hm ?_;have hD:DB (Array.replicate ops.size false)=fun _=>false:=by
  funext i
  unfold DB;by_cases h:i < ops.size <;> simp [h]
 refine Lu (F:=F) (fl:=[]) hc.toOrder (by have:=hc.le; simpa using this) hc.apart (fun j hj hm i hi _=>hc.tail j (by simpa using hj) hm i (by omega)) ku ?_ ops.size _ ν a _ (by simp) (fun j o hj=>by rw [hD] at hj; cases hj) (fun i aP=>by rw [hD] at aP; cases aP) ?_ (fun i _ _=>hi.fr _ (by omega)) ?_
 ·intro fuel aA ν a w hs eP ak cW hi hu;have hle:m≤ops.size:=by have:=hc.le; simpa using this
  have hD:∀ i,DB aA i=decide (i < m):=fun i=>by
   by_cases h:i < m
   ·rw [cW i h (by simp)]; simp [h]
   ·cases hd:DB aA i with
    | true=>exact absurd (ak i hd) h
    | false=>simp [h]
  have e1:a9 ops.toList rs (DB aA) tmps m=a9 ops.toList rs (fun i=>decide (i < m)) tmps m:=x4 (fun i _=>hD i)
  have e2:kZ rs (DB aA) m=rs.map (·.nb):=by
   unfold kZ;apply List.ext_getElem?;intro i;rw [List.getElem?_map,List.getElem?_map];by_cases h:i < m
   ·rw [List.getElem?_range h,List.getElem?_eq_getElem (by omega:i < rs.length)]
    simp only [Option.map_some,hD i,h,decide_true,if_true];rw [List.getElem?_eq_getElem (by omega:i < rs.length)]; rfl
   ·rw [List.getElem?_eq_none (by simp; omega),List.getElem?_eq_none (by omega)]; rfl
  rw [e1,e2] at hi;exact EX hE bM hc.toOrder hc.tail hk fuel aA m ν _ _ a w hs hD (Nat.le_refl _) hle hi gj (by
   have:=DX hD ops.size hle; omega)
 ·rw [hD];have e1:a9 ops.toList rs (fun _=>false) tmps m=tmps:=wh (j:=0) (by omega) (fun _ _ _=>rfl)
  rw [e1];have k9:Below w.heap.size w { w with drawn:=w.drawn+1 }:=⟨rfl,rfl,rfl,Nat.le_refl _,fun _ _=>rfl⟩
  refine ⟨hi.tm,hi.df.below k9,(hi.hp.below k9).sj (fun id c cC=>?_),fun id bn=>hi.fr id (by rw [List.length_append] at bn; omega),hi.kp.below k9,fun id c lc cC oj dD=>?_,hi.mono⟩
  ·rw [List.getElem?_append] at cC
   split at cC
   ·exact cC
   ·have:=(rM.1 cC).2.1; cases this
  ·rw [List.getElem?_append] at cC
   split at cC
   ·exact hi.own id c lc cC oj dD
   ·have:=(rM.1 cC).2.1; cases this
 ·unfold gw;have:=List.length_filter_le (fun i=>!DB (Array.replicate ops.size false) i) (List.range ops.size)
  simpa using this
end
open Go Go.RowKit
def HM (E:Env) (o:Oper) (t:List Value) (H:aw) (k:SK):Prop :=
 match o.op with
 | .store ty x y=>B5 E t H ty x y fun t' H'=>dg t' o.dst undef fun vn=>k vn H'
 | .call c=>match c.callee with
  | .builtin .append=>match c.args.toList,c.argTypes.toList with
   | [x,y],[ty,ty']=>match Nat.beq ty ty' with
    | true=>bT t x fun xv=>bT t y fun yv=>match Bm xv with
     | true=>FZ E [] H ty xv yv fun v _ H'=>dg t o.dst v fun t'=>k t' H'
     | false=>False
    | false=>False
   | _,_=>False
  | .builtin .copy=>match c.args.toList,c.argTypes.toList with
   | [x,y],[ty,_]=>bT t x fun xv=>bT t y fun yv=>F0 E H ty xv yv fun v H'=>dg t o.dst v fun t'=>k t' H'
   | _,_=>False
  | _=>jw H fun aE=>lC E o.op t H aE fun v nb=>dg t o.dst v fun t'=>uU H nb fun H'=>k t' H'
 | _=>jw H fun aE=>lC E o.op t H aE fun v nb=>dg t o.dst v fun t'=>uU H nb fun H'=>k t' H'
def O4:Option Nat→aw→aw→Prop→Prop
 | none,_,_,k=>k
 | some n,H,H',k=>H'.take n=H.take n∧k
def Ct (E:Env) (fz:Option Nat):List Oper→List Value→aw→SK→Prop
 | [],t,H,k=>k t H
 | o::l,t,H,k=>HM E o t H fun t' H'=>O4 fz H H' (Ct E fz l t' H' k)
theorem Lv {fz:Option Nat} {H H':aw} {k:Prop} (h:O4 fz H H' k):k∧∀ n,fz=some n→H'.take n=H.take n:=by
 cases fz with
 | none=>exact ⟨h,fun n e=>by cases e⟩
 | some m=>exact ⟨h.2,fun n e=>by cases e; exact h.1⟩
def HN (ops:List Oper) (fl:List Nat) (n:Nat):Option Nat:=match fl.all fun f=>match ops[f]? with | some o=>my o.op | none=>true with
 | true=>none
 | false=>some n
def F4 (ops:List Oper) (m q:Nat) (aR:List (List Nat)) (fl:List Nat):Bool :=
 decide (m+q≤ops.length) && BI ops aR &&
 (List.range ops.length).all (fun j=>match ops[j]? with
  | some o=>o.after.toList.all fun e=>!Region.binds .any e || decide (e.on < j)
  | none=>true) &&
 (List.range m).all (fun j=>match ops[j]? with
  | some o=>(List.range m).all fun i=>i == j || match ops[i]? with
   | some p=>match p.dst with
    | some d=>(o.dst != some d) && (!(ji ops o).contains d || (aR.getD j []).contains i || (aR.getD i []).contains j)
    | none=>true
   | none=>true
  | none=>true) &&
 fl.all (fun f=>decide (f < m) && match ops[f]? with
  | some o=>o.guard.isNone && ((my o.op || (mz o.op && (aR.getD f []).all fun i=>fl.contains i)) && ((match o.dst with | some d=>!(iE o.op.operands.toList).contains d | none=>false) && (List.range (m+q)).all fun i=>i == f || (match bO ops i with
   | none=>true
   | some e=>(o.dst != some e) && (!(iE o.op.operands.toList).contains e || (decide (i < m) && (aR.getD f []).contains i)))))
  | none=>false) &&
 (List.range (m+q)).all (fun j=>decide (j < m) || match ops[j]? with
  | some o=>o.guard.isNone && ((List.range j).all fun i=>(aR.getD j []).contains i || fl.contains i) && fl.all fun f=>(aR.getD j []).contains f || match bO ops f with | some d=>!(ji ops o).contains d | none=>false
  | none=>true) &&
 (List.range ops.length).all (fun j=>decide (j < m+q) || (List.range j).all fun i=>(aR.getD j []).contains i)
structure M0 (ops:List Oper) (m q:Nat) (aR:List (List Nat)) (fl:List Nat):Prop extends Order ops aR where
 le:m+q≤ops.length
 apart:∀ j o i p d,j < m→i < m→i≠j→ops[j]?=some o→ops[i]?=some p→p.dst=some d→o.dst≠some d∧(d ∉ ji ops o∨i∈aR.getD j []∨j∈aR.getD i [])
 rj:∀ f∈fl,f < m∧∃ o d,ops[f]?=some o∧o.guard=none∧(my o.op=true∨(mz o.op=true∧∀ i∈aR.getD f [],i∈fl))∧o.dst=some d∧d ∉ iE o.op.operands.toList∧∀ i e,i < m+q→i≠f→bO ops i=some e→e≠d∧(e∈iE o.op.operands.toList→i < m∧i∈aR.getD f [])
 mid:∀ j o,m≤j→j < m+q→ops[j]?=some o→o.guard=none∧(∀ i,i < j→i∈aR.getD j []∨i∈fl)∧∀ f∈fl,f∈aR.getD j []∨∀ d,bO ops f=some d→d ∉ ji ops o
 tail:∀ j,j < ops.length→m+q≤j→∀ i,i < j→i∈aR.getD j []
theorem Ra {ops:List Oper} {m q:Nat} {aR:List (List Nat)} {fl:List Nat} (h:F4 ops m q aR fl=true):M0 ops m q aR fl:=by
 unfold F4 at h;simp only [Bool.and_eq_true,decide_eq_true_eq] at h;obtain ⟨⟨⟨⟨⟨⟨h1,J⟩,h3⟩,h4⟩,h5⟩,h6⟩,h7⟩:=h;have lt:∀ {j:Nat} {o:Oper},ops[j]?=some o→j∈List.range ops.length:=fun hj=>List.mem_range.2 (List.getElem?_eq_some_iff.1 hj).1
 refine ⟨⟨fun j o hj i hi=>?_,fun j o hj e he hb=>?_⟩,h1,fun j o i p d hj hi aH ho hp hd=>?_,fun f hf=>?_,fun j o hm hj ho=>?_,fun j hj hm i hi=>?_⟩
 ·unfold BI at J;have:=List.all_eq_true.1 J j (lt hj);rw [hj] at this;have:=List.all_eq_true.1 this i hi;simp only [Bool.and_eq_true,decide_eq_true_eq,List.any_eq_true,Bool.or_eq_true,beq_iff_eq,List.contains_iff_mem] at this;obtain ⟨k1,e,k2,k3,k4⟩:=this;exact ⟨k1,e,by simpa using k2,k3,k4⟩
 ·have:=List.all_eq_true.1 h3 j (lt hj);rw [hj] at this;have:=List.all_eq_true.1 this e (by simpa using he)
  simp only [hb,Bool.not_true,Bool.false_or,decide_eq_true_eq] at this;exact this
 ·have:=List.all_eq_true.1 h4 j (List.mem_range.2 hj);rw [ho] at this;have:=List.all_eq_true.1 this i (List.mem_range.2 hi);rw [hp] at this;have hb:(i == j)=false:=by simp [aH]
  rw [hb,Bool.false_or] at this
  dsimp only at this
  rw [hd] at this;simp only [Bool.and_eq_true,bne_iff_ne,Bool.or_eq_true,Bool.not_eq_true',List.contains_iff_mem,or_assoc] at this;refine ⟨this.1,this.2.imp (fun k=>?_) (fun k=>k)⟩
  intro gH;rw [List.contains_iff_mem.2 gH] at k;cases k
 ·have:=List.all_eq_true.1 h5 f hf;simp only [Bool.and_eq_true,decide_eq_true_eq] at this;obtain ⟨k1,k2⟩:=this;refine ⟨k1,?_⟩
  split at k2
  ·rename_i o ho;simp only [Bool.and_eq_true,Bool.or_eq_true,Option.isNone_iff_eq_none] at k2;obtain ⟨k2,hx,k3,k4⟩:=k2;cases hd:o.dst with
   | none=>rw [hd] at k3; cases k3
   | some d =>
   rw [hd] at k3;have G3:d ∉ iE o.op.operands.toList:=fun hm=>by
    have k3:(!(iE o.op.operands.toList).contains d)=true:=k3;rw [List.contains_iff_mem.2 hm] at k3; cases k3
   refine ⟨o,d,ho,k2,hx.imp id (fun h=>⟨h.1,fun i hi=>by simpa using List.all_eq_true.1 h.2 i hi⟩),hd,G3,fun i e hi aH he=>?_⟩
   have:=List.all_eq_true.1 k4 i (List.mem_range.2 hi);have hb:(i == f)=false:=by simp [aH]
   rw [hb,Bool.false_or,he,hd] at this;simp only [Bool.or_eq_true,Bool.and_eq_true,bne_iff_ne,decide_eq_true_eq,List.contains_iff_mem,Bool.not_eq_true'] at this;obtain ⟨h1,J⟩:=this;refine ⟨fun e'=>h1 (by rw [e']),fun e'=>?_⟩
   rcases J with J | J
   ·rw [List.contains_iff_mem.2 e'] at J; cases J
   ·exact J
  ·cases k2
 ·have:=List.all_eq_true.1 h6 j (List.mem_range.2 hj);have hd:decide (j < m)=false:=by simp; omega
  rw [hd,Bool.false_or,ho] at this;simp only [Bool.and_eq_true,Option.isNone_iff_eq_none,List.all_eq_true,List.mem_range,Bool.or_eq_true,List.contains_iff_mem] at this;obtain ⟨⟨k1,k2⟩,k3⟩:=this;refine ⟨k1,k2,fun f hf=>(k3 f hf).imp (fun h=>h) (fun h d hd=>?_)⟩
  rw [hd] at h;simp only [Bool.not_eq_true'] at h;intro gH;rw [List.contains_iff_mem.2 gH] at h;cases h
 ·have:=List.all_eq_true.1 h7 j (List.mem_range.2 hj);simp only [Bool.or_eq_true,decide_eq_true_eq,List.all_eq_true,List.mem_range,List.contains_iff_mem] at this;rcases this with h | h
  ·omega
  ·exact h i hi
def Ol (E:Env) (ops:List Oper) (t:List Value) (H:aw) (k:SK):Prop :=
 ∃ (m q:Nat) (aR:List (List Nat)) (fl:List Nat),F4 ops m q aR fl=true∧jw H fun n0=>uF ops m fun hd tl=>uF tl q fun md tl2 =>
  lO E ops H n0 hd aR 0 t [] fun t' S=>nI H S fun G=>Ct E (HN ops fl n0) md t' G fun t2 G2=>nw E ops tl2 t2 G2 k
structure uV (fz:Option Nat) (P:Program) (F:Fr) (bh:Nu) (ops:List Oper) (fl:List Nat) (D:Nat→Bool) (ν:Nu) (t:List Value) (H:aw) (a:Act) (w:World):Prop where
 len:t.length=a.tmps.toList.length
 tm:∀ (d:Nat) v,t[d]?=some v→(∀ f∈fl,D f=false→bO ops f≠some d)→∃ v',a.tmps.toList[d]?=some v'∧aq ν v v'
 un:∀ f∈fl,D f=false→∀ o d,ops[f]?=some o→o.dst=some d→∃ v G,t[d]?=some v∧nZ P bh G o.op t v∧∀ id b,G[id]?=some (some b)→H[id]?=some (some b)∧∃ n,fz=some n∧id < n
 le:bh.le ν
 rest:bw F ν [] H { a with tmps:=#[] } w
theorem M1:∀ {l:List Value} {n:Nat} {v:Value} {k:List Value→Prop},n < l.length→k (l.set n v)→xB l n v k
 | [],_,_,_,h,_=>absurd h (Nat.not_lt_zero _)
 | _::l,0,v,k,_,h=>h
 | x::l,n+1,v,k,h,hk=>M1 (l:=l) (by simpa using h) hk
theorem nZ.same {P:Program} {bh:Nu} {G:aw} {op:Op} {t t':List Value} {v:Value} (h:nZ P bh G op t v) (hs:∀ s∈iE op.operands.toList,t'[s]?=t[s]?):nZ P bh G op t' v :=
 ⟨h.1,fun o ν a w hle ho ha=>h.2 o ν a w hle ho fun x hx s nH u hu=>ha x hx s nH u (by rw [hs s (pV (by rw [← nH]; simpa using hx))]; exact hu)⟩
theorem qB.heap {P:Program} {bh:Nu} {op:Op} {t:List Value} {v:Value} (h:qB P bh op t v) (G:aw):nZ P bh G op t v:=⟨h.1,fun o ν a w hle ho ha _=>h.2 o ν a w hle ho ha⟩
theorem Lw {fz:Option Nat} {G H H':aw} (h:∀ id b,G[id]?=some (some b)→H[id]?=some (some b)∧∃ n,fz=some n∧id < n) (hf:∀ n,fz=some n→H'.take n=H.take n) :
  ∀ id b,G[id]?=some (some b)→H'[id]?=some (some b)∧∃ n,fz=some n∧id < n:=fun id b hb=>by
 obtain ⟨h1,n,J,h3⟩:=h id b hb;refine ⟨?_,n,J,h3⟩;have:=congrArg (fun l=>l[id]?) (hf n J)
 simp only [List.getElem?_take,if_pos h3] at this;rw [this]; exact h1
theorem Bn {op:Op} {C:Prop} (h:my op=true∨(mz op=true∧C)):(my op || mz op)=true:=by
 rcases h with h | ⟨h,_⟩
 ·rw [h]; rfl
 ·rw [h]; simp
theorem Ft {t:List Value} {o:Option Tmp} {v:Value} {k:List Value→Prop} {C:Prop} (h:dg t o v k) (hk:∀ t,k t→C):C:=by
 cases o with
 | none=>exact hk _ h
 | some d=>exact hk _ (oQ h).2
theorem uV.put {fz:Option Nat} {P:Program} {F:Fr} {bh:Nu} {ops:List Oper} {fl:List Nat} {D D':Nat→Bool} {ν ai:Nu} {t:List Value} {H H':aw} {a:Act} {w w':World} (h:uV fz P F bh ops fl D ν t H a w) (IK:∀ n,fz=some n→H'.take n=H.take n) (hle:ν.le ai)
  (hD:∀ f∈fl,D' f=D f) {v v':Value} (hv:aq ai v v') {o:Option Tmp} (ho:∀ d,o=some d→∀ f∈fl,∀ p e,ops[f]?=some p→p.dst=some e→d≠e∧d ∉ iE p.op.operands.toList)
  {k:List Value→Prop} (hk:dg t o v k) (hr:bw F ai [] H' { a with tmps:=#[] } w'):∃ t',k t'∧uV fz P F bh ops fl D' ai t' H' (a.put o v') w':=by
 cases o with
 | none =>
  refine ⟨t,hk,h.len,fun d u hu hn=>?_,fun f mh hd p e h1 J=>?_,Nu.le_trans h.le hle,hr⟩
  ·obtain ⟨u',k1,k2⟩:=h.tm d u hu (fun f mh hd=>hn f mh (by rw [hD f mh]; exact hd))
   exact ⟨u',k1,k2.mono hle⟩
  ·obtain ⟨u,G,q1,q2,q3⟩:=h.un f mh (by rw [← hD f mh]; exact hd) p e h1 J
   exact ⟨u,G,q1,q2,Lw q3 IK⟩
 | some d0 =>
  obtain ⟨h1,J⟩:=oQ hk;refine ⟨_,J,?_,fun d u hu hn=>?_,fun f mh hd p e k1 k2=>?_,Nu.le_trans h.le hle,hr⟩
  ·rw [rS,List.length_set,List.length_set]; exact h.len
  ·rw [rS];by_cases e:d0=d
   ·subst e;rw [List.getElem?_set_self h1] at hu;cases hu;exact ⟨v',by rw [List.getElem?_set_self (by rw [← h.len]; exact h1)],hv⟩
   ·rw [List.getElem?_set_ne e] at hu ⊢;obtain ⟨u',k1,k2⟩:=h.tm d u hu (fun f mh hd=>hn f mh (by rw [hD f mh]; exact hd))
    exact ⟨u',k1,k2.mono hle⟩
  ·obtain ⟨aH,hns⟩:=ho d0 rfl f mh p e k1 k2;obtain ⟨u,G,q1,q2,q3⟩:=h.un f mh (by rw [← hD f mh]; exact hd) p e k1 k2
   exact ⟨u,G,by rw [List.getElem?_set_ne aH]; exact q1,q2.same fun s hs=>by rw [List.getElem?_set_ne (fun e:d0=s=>hns (by rw [e]; exact hs))],Lw q3 IK⟩
section
variable {fz:Option Nat} {P:Program} {E:Env} {r:Option Nat} {n:Nat} {F:Fr} {ops:Array Oper} {Q:Exit→Act→World→Prop} {m q:Nat} {aR:List (List Nat)} {fl:List Nat} {k:SK}
theorem UF (hE:j4 P E) (bM:lE F E) {bh:Nu} {o:Oper} {D D':Nat→Bool} {ν:Nu} {t:List Value} {H:aw} {a:Act} {w:World} (h:uV fz P F bh ops.toList fl D ν t H a w) {k:SK} (zY:∀ t' H',k t' H'→∀ n,fz=some n→H'.take n=H.take n)
  (hD:∀ f∈fl,D' f=D f)
  (fw:∀ f∈fl,D f=false→∀ d,bO ops.toList f=some d→d ∉ ji ops.toList o)
  (ho:∀ d,o.dst=some d→∀ f∈fl,∀ p e,ops.toList[f]?=some p→p.dst=some e→d≠e∧d ∉ iE p.op.operands.toList)
  (hk:HM E o t H k) {next:Act→World→Prop} {Q:Exit→Act→World→Prop}
  (hn:∀ ai t' H' a' w',uV fz P F bh ops.toList fl D' ai t' H' a' w'→k t' H'→next a' w'):o.wpIn (WF r) n P a w next Q:=by
 have ov:∀ x∈o.op.operands,fc ν t a x:=fun x hx s hs v hv=>by
  obtain ⟨v',k1,k2⟩:=h.tm s v hv (fun f mh hd eH=>fw f mh hd s eH (by unfold ji; exact List.mem_append_left _ (pV (by rw [hs] at hx; simpa using hx))))
  exact ⟨v',by simpa using k1,k2⟩
 have quiet:(jw H fun aE=>lC E o.op t H aE fun v nb=>dg t o.dst v fun t'=>uU H nb fun H'=>k t' H')→o.wpIn (WF r) n P a w next Q:=by
  intro hk;have hk:=mr hk;obtain ⟨v,nb,ri,hq⟩:=A5 (P:=P) hE.toEnvOk hk;refine hq o ν a w r n rfl ov h.rest.hp (h.rest.fr _ (Nat.le_refl _)) next Q (fun v' w' ai hp=>?_)
  cases hd:o.dst with
  | none =>
   rw [hd] at ri ho;obtain ⟨H',h1,J⟩:=h.rest.quiet hp ri;obtain ⟨t',k1,k2⟩:=h.put (D':=D') (o:=none) (zY _ _ h1) hp.le hD hp.val (fun d hd=>by cases hd) (k:=fun t'=>t'=t) rfl J
   subst k1;exact hn _ _ _ _ _ k2 h1
  | some d =>
   rw [hd] at ri ho;obtain ⟨h1,J⟩:=oQ ri;obtain ⟨H',h3,h4⟩:=h.rest.quiet hp J;obtain ⟨t',k1,k2⟩:=h.put (D':=D') (o:=some d) (zY _ _ h3) hp.le hD hp.val ho (k:=fun t'=>k t' H') (by
    show xB t d v _
    exact M1 h1 h3) h4
   exact hn _ _ _ _ _ k2 k1
 unfold HM at hk
 split at hk
 ·rename_i ty x y ao;have hx:fc ν t a x:=ov x (by rw [ao]; simp [Op.operands])
  have hy:fc ν t a y:=ov y (by rw [ao]; simp [Op.operands])
  obtain ⟨w',H',bB,aP,J⟩:=KC hE.toEnvOk ao h.rest hx hy hk;obtain ⟨t',k1,k2⟩:=h.put (D':=D') (o:=o.dst) (Ft J fun t hk=>zY t _ hk) ν.le_refl hD (.undef ν) ho J aP
  refine ⟨fun _ _=>trivial,?_⟩
  rw [Oper.semAt_eq _ _ _ (by simp [ao]),bB]
  exact hn _ _ _ _ _ k2 k1
 ·rename_i c ao
  split at hk
  ·rename_i hc
   split at hk
   ·rename_i x y t1 t2 kc Dr
    split at hk
    ·rename_i hb;have hb:t1=t2:=Nat.eq_of_beq_eq_true hb;subst hb;have vv:c.args=#[x,y]:=Array.ext' kc;have zJ:c.argTypes=#[t1,t1]:=Array.ext' Dr;obtain ⟨xv,jC,vj⟩:=kQ hk (ov x (by rw [ao]; simp [Op.operands,Call.operands,vv]))
     obtain ⟨yv,zZ,vk⟩:=kQ jC (ov y (by rw [ao]; simp [Op.operands,Call.operands,vv]))
     split at zZ
     ·rename_i hex;obtain ⟨v,v',ai,t',H',w',h1,J,h3,h4,h5⟩:=Kh hE.toEnvOk bM h.rest vj vk zZ o.type;obtain rfl:t'=[]:=List.eq_nil_of_length_eq_zero (by have:=h3.tm.1; simpa using this)
      obtain ⟨t2,k1,k2⟩:=h.put (D':=D') (Ft h1 fun t hk=>zY t _ hk) (h5 hex) hD J ho h1 h3
      exact jM (by simp [ao]) (by simp [execOp,ao,resolve,hc,vv,zJ,invoke,builtin,h4]) next Q (hn _ _ _ _ _ k2 k1)
     ·exact zZ.elim
    ·exact hk.elim
   ·exact hk.elim
  ·rename_i hc
   split at hk
   ·rename_i x y t1 t2 kc Dr;have vv:c.args=#[x,y]:=Array.ext' kc;have zJ:c.argTypes=#[t1,t2]:=Array.ext' Dr;obtain ⟨xv,jC,vj⟩:=kQ hk (ov x (by rw [ao]; simp [Op.operands,Call.operands,vv]))
    obtain ⟨yv,zZ,vk⟩:=kQ jC (ov y (by rw [ao]; simp [Op.operands,Call.operands,vv]))
    obtain ⟨v,H',w',h1,J,h3,h4⟩:=KH hE.toEnvOk h.rest vj vk zZ t2 o.type;obtain ⟨t2,k1,k2⟩:=h.put (D':=D') (Ft h1 fun t hk=>zY t _ hk) ν.le_refl hD J ho h1 h3
    exact jM (by simp [ao]) (by simp [execOp,ao,resolve,hc,vv,zJ,invoke,builtin,h4]) next Q (hn _ _ _ _ _ k2 k1)
   ·exact hk.elim
  ·exact quiet hk
 ·exact quiet hk
theorem UG (hE:j4 P E) (bM:lE F E) (hc:M0 ops.toList m q aR fl) (hk:∀ ν t' H' a' w',bw F ν t' H' a' w'→k t' H'→Q .normal a' w') :
  ∀ (fuel:Nat) (aA:Array Bool) (j0:Nat) (bh ν:Nu) (t:List Value) (H:aw) (a:Act) (w:World),aA.size=ops.size→o4 ops.toList (DB aA)→m≤j0→j0≤m+q →
  (∀ i,i < j0→i ∉ fl→DB aA i=true)→(∀ i,DB aA i=true→i < j0)→uV fz P F bh ops.toList fl (DB aA) ν t H a w →
  Ct E fz ((ops.toList.take (m+q)).drop j0) t H (fun t' H'=>nw E ops.toList (ops.toList.drop (m+q)) t' H' k)→gw (DB aA) ops.size≤fuel→wpAnyIn (WF r) n P .any ops Q fuel aA a w:=by
 have hle:m+q≤ops.size:=by have:=hc.le; simpa using this
 have dv:∀ (i:Nat) (d:Tmp),i < m+q→m≤i→bO ops.toList i=some d→∀ f∈fl,f≠i→∀ p e,ops.toList[f]?=some p→p.dst=some e→d≠e∧d ∉ iE p.op.operands.toList:=by
  intro i d hi Cs hd f hf aH p e h1 h3;obtain ⟨_,o,d',k1,k2,k3,k4,_,k5⟩:=hc.rj f hf;rw [h1] at k1; cases k1;rw [h3] at k4; cases k4;obtain ⟨q1,q2⟩:=k5 i d hi (Ne.symm aH) hd;exact ⟨q1,fun e'=>by have:=(q2 e').1; omega⟩
 have finish:∀ (fuel:Nat) (aA:Array Bool) (j0:Nat) (bh ν:Nu) (t:List Value) (H:aw) (a:Act) (w:World),aA.size=ops.size→m≤j0→j0≤m+q→(∀ i,DB aA i=true→i < j0)→uV fz P F bh ops.toList fl (DB aA) ν t H a w →
   Ct E fz ((ops.toList.take (m+q)).drop j0) t H (fun t' H'=>nw E ops.toList (ops.toList.drop (m+q)) t' H' k)→gw (DB aA) ops.size≤fuel→(∀ i,i < m+q→DB aA i=true)→wpAnyIn (WF r) n P .any ops Q fuel aA a w:=by
  intro fuel aA j0 bh ν t H a w hs hm kM ak hi h hu cW;have e:j0=m+q:=by
   rcases Nat.lt_or_ge j0 (m+q) with h' | h'
   ·have:=ak j0 (cW j0 h'); omega
   ·omega
  subst e;rw [List.drop_eq_nil_of_le (by simp; omega)] at h
  have hD:∀ i,DB aA i=decide (i < m+q):=fun i=>by
   by_cases h:i < m+q
   ·rw [cW i h]; simp [h]
   ·cases hd:DB aA i with
    | true=>exact absurd (ak i hd) h
    | false=>simp [h]
  have aP:bw F ν t H a w:=⟨⟨hi.len,fun d x y hx hy=>by
   obtain ⟨y',k1,k2⟩:=hi.tm d x hx (fun f hf hd=>by have:=(hc.rj f hf).1; rw [cW f (by omega)] at hd; cases hd)
   rw [hy] at k1; cases k1; exact k2⟩,hi.rest.df,hi.rest.hp,hi.rest.fr,hi.rest.kp,hi.rest.own,hi.rest.mono⟩
  exact EX hE bM hc.toOrder (m:=m+q) hc.tail hk fuel aA (m+q) ν t H a w hs hD (Nat.le_refl _) hle aP h (by
   have:=DX hD ops.size hle; omega)
 intro fuel
 induction fuel with
 | zero =>
  intro aA j0 bh ν t H a w hs eP hm kM pg ak hi h hu;exact finish 0 aA j0 bh ν t H a w hs hm kM ak hi h hu (fun i aP=>by
   cases hd:DB aA i with
   | true=>rfl
   | false=>have:=Ey (n:=ops.size) (by omega:i < ops.size) hd; omega)
 | succ fuel ih =>
  intro aA j0 bh ν t H a w hs eP hm kM pg ak hi h hu;by_cases cW:∀ i,i < m+q→DB aA i=true
  ·exact finish (fuel+1) aA j0 bh ν t H a w hs hm kM ak hi h hu cW
  ·have hex:∃ i,i < m+q∧DB aA i=false:=by
    refine Classical.byContradiction fun aH=>cW fun i aP=>?_
    cases hd:DB aA i with
    | true=>rfl
    | false=>exact absurd ⟨i,aP,hd⟩ aH
   obtain ⟨i1,Dq,gd⟩:=hex;obtain ⟨i0,O2,fx,jc⟩:=DY gd;have hr:=AO hc.toOrder hs (by omega:i0 < ops.size) fx jc
   refine ⟨(fun hn=>by rw [hn] at hr; cases hr),fun j hj=>?_⟩
   rw [mem_ready] at hj;obtain ⟨h1,o,ho,he⟩:=hj;have nJ:j < ops.size:=(Array.getElem?_eq_some_iff.1 ho).1;rw [tX (by omega)] at h1
   have fY:ops.toList[j]?=some o:=by simpa using ho
   have mg:=tF hc.toOrder eP j o fY (fun e' fZ bF=>he e' fZ bF)
   have c5:∀ i,DB (aA.setIfInBounds j true) i=(DB aA i || i == j):=fun i=>B8 (by omega) i
   have xG:o4 ops.toList (DB (aA.setIfInBounds j true)):=by
    intro i p aP hp e' fZ bF;rw [c5] at aP ⊢;by_cases e:i=j
    ·subst e;rw [fY] at hp; cases hp;have:DB aA e'.on=true:=he e' fZ bF;rw [this]; rfl
    ·have e2:(i == j)=false:=by simp [e]
     rw [e2,Bool.or_false] at aP;rw [eP i p aP hp e' fZ bF]; rfl
   have s6:gw (DB (aA.setIfInBounds j true)) ops.size≤fuel:=by
    have:=A0 c5 h1 ops.size;rw [if_pos nJ] at this; omega
   by_cases z5:j∈fl
   ·-- a floating move
    obtain ⟨mO,o',d,g1,g2,g3,g4,g6,g5⟩:=hc.rj j z5;rw [fY] at g1; cases g1;obtain ⟨v,G,pL,IF,hGH⟩:=hi.un j z5 h1 o d fY g4;obtain ⟨vu,IL,abp⟩:=IF.2 o ν a w hi.le rfl (fun x hx s nH u hu=>by
     have rk:s∈iE o.op.operands.toList:=pV (by rw [← nH]; simpa using hx)
     obtain ⟨u',r1,r2⟩:=hi.tm s u hu (fun f hf hd eH=>by
      have z6:=(hc.rj f hf).1;by_cases e:f=j
      ·subst e;have:bO ops.toList f=some d:=by simp [bO,fY,g4]
       rw [this] at eH; cases eH;exact g6 rk
      ·have:=((g5 f s (by omega) e eH).2 rk).2
       rw [mg f this] at hd; cases hd)
     exact ⟨u',by simpa using r1,r2⟩) (hi.rest.hp.sj fun id b hb=>(hGH id b hb).1)
    unfold wpOpIn;rw [ho]
    dsimp only
    rw [if_pos (by simp [Region.wanted,g2])]
    refine jM (v':=vu) (w':=w) IF.1 abp _ Q ?_;rw [g4];refine ih _ j0 bh ν t H _ w (by simp [hs]) xG hm kM (fun i aP hf=>by rw [c5,pg i aP hf]; rfl) (fun i aP=>?_) ⟨?_,fun e u tg bN=>?_,fun f hf hd p e k1 k2=>?_,hi.le,hi.rest⟩ h s6
    ·rw [c5] at aP;by_cases e:i=j
     ·omega
     ·have e2:(i == j)=false:=by simp [e]
      rw [e2,Bool.or_false] at aP;exact ak i aP
    ·rw [rS,List.length_set]; exact hi.len
    ·rw [rS];by_cases e':d=e
     ·subst e';rw [pL] at tg; cases tg;have:d < t.length:=(List.getElem?_eq_some_iff.1 pL).1;exact ⟨vu,by rw [List.getElem?_set_self (by rw [← hi.len]; exact this)],IL⟩
     ·rw [List.getElem?_set_ne e'];refine hi.tm e u tg (fun f hf hd=>?_)
      by_cases e3:f=j
      ·subst e3;intro cS;have:bO ops.toList f=some d:=by simp [bO,fY,g4]
       rw [this] at cS; exact e' (Option.some.inj cS)
      ·exact bN f hf (by rw [c5,hd]; simp [e3])
    ·have aH:f≠j:=fun e3=>by subst e3; rw [c5] at hd; simp at hd
     have bQ:DB aA f=false:=by
      rw [c5] at hd;simp only [Bool.or_eq_false_iff] at hd;exact hd.1
     exact hi.un f hf bQ p e k1 k2
   ·have dZ:j0≤j:=by
     rcases Nat.lt_or_ge j j0 with h' | h'
     ·rw [pg j h' z5] at h1; cases h1
     ·exact h'
    have IM:j < m+q:=by
     rcases Nat.lt_or_ge j (m+q) with h' | h'
     ·exact h'
     ·have:=mg i1 (hc.tail j (by simpa using nJ) h' i1 (by omega))
      rw [gd] at this; cases this
    obtain ⟨c1,c2,c3⟩:=hc.mid j o (by omega) IM fY
    have hjj:j=j0:=by
     rcases Nat.lt_or_ge j0 j with h' | h'
     ·rcases c2 j0 h' with J | J
      ·have:=ak j0 (mg j0 J); omega
      ·have:=(hc.rj j0 J).1; omega
     ·omega
    subst hjj;have G9:(ops.toList.take (m+q)).drop j=o::(ops.toList.take (m+q)).drop (j+1):=by
     have hl:j < (ops.toList.take (m+q)).length:=by simp; omega
     rw [List.drop_eq_getElem_cons hl]
     congr 1
     have:=List.getElem?_eq_getElem hl;rw [List.getElem?_take,if_pos IM,fY] at this;exact (Option.some.inj this).symm
    rw [G9] at h;unfold wpOpIn;rw [ho]
    dsimp only
    rw [if_pos (by simp [Region.wanted,c1])]
    refine UF hE bM (D':=DB (aA.setIfInBounds j true)) hi (fun t' H' h'=>(Lv h').2) (fun f hf=>?_) (fun f hf hd d cS=>?_) (fun d hd f hf=>?_) h (fun ai t' H' a' w' aP h'=>?_)
    ·have:f≠j:=fun e=>z5 (e ▸ hf)
     rw [c5]; simp [this]
    ·rcases c3 f hf with J | J
     ·rw [mg f J] at hd; cases hd
     ·exact J d cS
    ·exact dv j d IM (by omega) (by simp [bO,fY,hd]) f hf (fun e=>z5 (e ▸ hf))
    ·refine ih _ (j+1) bh ai t' H' a' w' (by simp [hs]) xG (by omega) (by omega) (fun i gY hf=>?_) (fun i gY=>?_) aP (Lv h').1 s6
     ·rw [c5];by_cases e:i=j
      ·simp [e]
      ·rw [pg i (by omega) hf]; rfl
     ·rw [c5] at gY;by_cases e:i=j
      ·omega
      ·have e2:(i == j)=false:=by simp [e]
       rw [e2,Bool.or_false] at gY;have:=ak i gY; omega
theorem UH (hm:P.follows .mixedOrders=true):nF P Ol:=by
 intro E hE r n F bM ops Q id ν tmps H a w k hi h hk;obtain ⟨m,q,aR,fl,ba,h⟩:=h;have h:=mr h;obtain ⟨O3,h⟩:=yf h;obtain ⟨adU,h⟩:=yf h;have hc:=Ra ba;obtain ⟨rs,iJ,ku,gj⟩:=EW (P:=P) hE.toEnvOk (ops:=ops.toList) (t0:=tmps) (H:=H) (aR:=aR) (l:=ops.toList.take m) (ms:=aR) (j:=0) (rs:=[]) rfl
  (fun i o ho=>by
   rw [List.getElem?_take] at ho
   split at ho
   ·simpa using ho
   ·cases ho)
  (fun i _=>by simp) (fun i hi=>by omega) h
 have gj:=tR gj;have hlen:0+(ops.toList.take m).length=m:=by rw [List.length_take]; omega
 rw [hlen] at iJ ku gj;have hD:DB (Array.replicate ops.size false)=fun _=>false:=by
  funext i
  unfold DB;by_cases h:i < ops.size <;> simp [h]
 have hmd:(ops.toList.drop m).take q=(ops.toList.take (m+q)).drop m:=by
  rw [List.drop_take]; congr 1; omega
 have htl:(ops.toList.drop m).drop q=ops.toList.drop (m+q):=by rw [List.drop_drop]
 rw [hmd,htl] at gj;have aU:m+q≤ops.size:=by have:=hc.le; simpa using this
 refine wpIn_region_any hm ?_;refine Lu (F:=F) (fl:=fl) hc.toOrder (by omega) hc.apart (fun j hj hm i hi hf=>?_) ku ?_ ops.size _ ν a _ (by simp) (fun j o hj=>by rw [hD] at hj; cases hj) (fun i aP=>by rw [hD] at aP; cases aP) ?_ (fun i _ _=>hi.fr _ (by omega)) ?_
 ·by_cases h':j < m+q
  ·rcases (hc.mid j ops[j] hm h' (by simp [hj])).2.1 i (by omega) with h | h
   ·exact h
   ·exact absurd h hf
  ·exact hc.tail j (by simpa using hj) (by omega) i (by omega)
 ·intro fuel aA ν a w hs eP ak cW hi hu;have lV:∀ i d,i < m→bO ops.toList i=some d→d < tmps.length:=by
   intro i d hi hd;obtain ⟨o,q,h1,J,h3,_⟩:=(ku i hi).ok;unfold bO at hd;rw [h1] at hd;exact h3 d hd
  have pK:xp ops.toList m:=by
   intro i j d hi hj h1 J;rcases Nat.decEq i j with aH | he
   ·obtain ⟨o,q,k1,_⟩:=(ku i hi).ok;obtain ⟨p,q',k2,_⟩:=(ku j hj).ok;unfold bO at h1 J;rw [k1] at h1; rw [k2] at J;exact absurd h1 (hc.apart i o j p d hi hj (Ne.symm aH) k1 k2 J).1
   ·exact he
  have e2:kZ rs (DB aA) m=rs.map (·.nb):=by
   unfold kZ;apply List.ext_getElem?;intro i;rw [List.getElem?_map,List.getElem?_map];by_cases h:i < m
   ·rw [List.getElem?_range h,List.getElem?_eq_getElem (by omega:i < rs.length)]
    simp only [Option.map_some];rw [List.getElem?_eq_getElem (by omega:i < rs.length)]
    cases fV:DB aA i with
    | true=>rfl
    | false =>
     have hf:i∈fl:=Classical.byContradiction fun hn=>by rw [cW i h hn] at fV; cases fV
     obtain ⟨_,o,d,g1,g2,g3,g4,_⟩:=hc.rj i hf;obtain ⟨r',k1,k2,_⟩:=(ku i h).mv o g1 (Bn g3) g2;rw [List.getElem?_eq_getElem (by omega:i < rs.length)] at k1
     cases k1;rw [k2]; rfl
   ·rw [List.getElem?_eq_none (by simp; omega),List.getElem?_eq_none (by omega)]; rfl
  have gz:=hi.hp;rw [e2] at hi;refine UG hE bM hc hk fuel aA m ν ν _ _ a w hs eP (Nat.le_refl _) (by omega) cW ak ⟨?_,fun d u tg bN=>?_,fun f hf hd o d k1 k3=>?_,ν.le_refl,⟨.nil ν,hi.df,hi.hp,hi.fr,hi.kp,hi.own,hi.mono⟩⟩ gj hu
  ·have:=hi.tm.1;rw [rJ] at this ⊢;exact this
  ·have Hc:(a9 ops.toList rs (DB aA) tmps m)[d]?=(a9 ops.toList rs (fun i=>decide (i < m)) tmps m)[d]?:=by
    refine yg pK lV (fun i aP fV=>?_)
    have:DB aA i=true:=by
     by_cases hf:i∈fl
     ·cases O5:DB aA i with
      | true=>rfl
      | false=>exact absurd fV (bN i hf O5)
     ·exact cW i aP hf
    rw [this]; simp [aP]
   rw [← Hc] at tg;exact hi.tm.get tg
  ·obtain ⟨z6,o',d',g1,g2,g3,g4,g6,g5⟩:=hc.rj f hf;rw [k1] at g1; cases g1;rw [k3] at g4; cases g4;obtain ⟨r',q1,q2,G,qG,q3⟩:=(ku f z6).mv o k1 (Bn g3) g2;have mc:∀ (id:Nat) (b:ah),G[id]?=some (some b)→(H++rs.map (·.nb))[id]?=some (some b)∧(H++kZ rs (DB aA) m)[id]?=some (some b):=by
    intro id b hb;rcases qG id b hb with ⟨h1,J⟩ | ⟨i,h1,J,h3,h4⟩
    ·rw [List.getElem?_append_left h1,List.getElem?_append_left h1]; exact ⟨J,J⟩
    ·subst h1;have z7:i < m:=by omega
     have fV:DB aA i=true:=Classical.byContradiction fun hn=>by
      have Ds:i∈fl:=Classical.byContradiction fun bN=>hn (cW i z7 bN)
      obtain ⟨_,o2,d2,y1,y2,y3,y4,_⟩:=hc.rj i Ds;obtain ⟨r2,z1,z2,_⟩:=(ku i z7).mv o2 y1 (Bn y3) y2;rw [z1] at h4;simp [z2] at h4
     rw [List.getElem?_append_right (by omega),List.getElem?_append_right (by omega)]
     rw [show H.length+i - H.length=i by omega]
     refine ⟨?_,rM.2 ⟨z7,fV,h4⟩⟩;rw [List.getElem?_map];cases hr:rs[i]? with
     | none=>rw [hr] at h4; cases h4
     | some r2=>rw [hr] at h4; simpa using h4
   have hG:bU ν G w:=⟨fun id b hb=>gz.aG id b (mc id b hb).2,fun x y bx bY lx ly hx hy aH ho e1 e2=>gz.sep x y bx bY lx ly (mc x bx hx).2 (mc y bY hy).2 aH ho e1 e2⟩
   have hV:∃ G2,nZ P ν G2 o.op (a9 ops.toList rs (fun i=>decide (i < f)) tmps f) r'.v∧∀ id b,G2[id]?=some (some b)→(H++rs.map (·.nb))[id]?=some (some b)∧∃ n,HN ops.toList fl H.length=some n∧id < n:=by
    cases hp:my o.op with
    | true=>exact ⟨[],(q3.1 hp ν w hG).heap [],fun id b hb=>by simp at hb⟩
    | false =>
     obtain ⟨hh,mg⟩:=g3.resolve_left (by rw [hp]; simp)
     refine ⟨G,q3.2 hh ν,fun id b hb=>?_⟩
     rcases qG id b hb with ⟨h1,J⟩ | ⟨i,h1,J,h3,h4⟩
     ·refine ⟨by rw [List.getElem?_append_left h1]; exact J,H.length,?_,h1⟩
      unfold HN;have:(fl.all fun f=>match ops.toList[f]? with | some o=>my o.op | none=>true)=false:=by
       rw [List.all_eq_false];exact ⟨f,hf,by rw [k1]; simp [hp]⟩
      rw [this]
     ·obtain ⟨_,o2,d2,y1,y2,y3,y4,_⟩:=hc.rj i (mg i h3);obtain ⟨r2,z1,z2,_⟩:=(ku i (by omega)).mv o2 y1 (Bn y3) y2
      rw [z1] at h4;simp [z2] at h4
   obtain ⟨G2,q3,qg⟩:=hV;have IN:bO ops.toList f=some d:=by simp [bO,k1,k3]
   refine ⟨r'.v,G2,tS _ IN q1 (by simp [z6]) (lV f d z6 IN) m z6 pK,q3.same fun s hs=>?_,qg⟩
   by_cases hex:∃ i,i < m∧i≠f∧bO ops.toList i=some s
   ·obtain ⟨i,h1,J,h3⟩:=hex;obtain ⟨_,k5⟩:=g5 i s (by omega) J h3
    obtain ⟨_,k7⟩:=k5 hs;have Ds:=(hc.mask f o k1 i k7).1;obtain ⟨o2,r2,w1,w2,_⟩:=(ku i h1).ok;rw [tS _ h3 w2 (by simp [Ds]) (lV i s h1 h3) f Ds (fun a b c h4 h5=>pK a b c (by omega) (by omega)),tS _ h3 w2 (by simp [h1]) (lV i s h1 h3) m h1 pK]
   ·have fH:∀ i,i < m→bO ops.toList i=some s→i=f:=fun i h1 J=>Classical.byContradiction fun h3=>hex ⟨i,h1,h3,J⟩
    by_cases PY:s=d
    ·subst PY;exact absurd hs g6
    ·rw [wg _ f (fun i aP _ fV=>by have:=fH i (by omega) fV; omega),wg _ m (fun i aP O5 fV=>by
      have:=fH i aP fV;subst this;rw [IN] at fV; exact absurd (Option.some.inj fV).symm PY)]
 ·rw [hD];have e1:a9 ops.toList rs (fun _=>false) tmps m=tmps:=wh (j:=0) (by omega) (fun _ _ _=>rfl)
  rw [e1];have k9:Below w.heap.size w { w with drawn:=w.drawn+1 }:=⟨rfl,rfl,rfl,Nat.le_refl _,fun _ _=>rfl⟩
  refine ⟨hi.tm,hi.df.below k9,(hi.hp.below k9).sj (fun id c cC=>?_),fun id bn=>hi.fr id (by rw [List.length_append] at bn; omega),hi.kp.below k9,fun id c lc cC oj dD=>?_,hi.mono⟩
  ·rw [List.getElem?_append] at cC
   split at cC
   ·exact cC
   ·have:=(rM.1 cC).2.1; cases this
  ·rw [List.getElem?_append] at cC
   split at cC
   ·exact hi.own id c lc cC oj dD
   ·have:=(rM.1 cC).2.1; cases this
 ·unfold gw;have:=List.length_filter_le (fun i=>!DB (Array.replicate ops.size false) i) (List.range ops.size)
  simpa using this
end
open Go Go.RowKit
def isApp (op:Op):Option (TypeId × Operand × Operand):=match op with
 | .call c=>match c.callee with
  | .builtin .append=>match c.args.toList,c.argTypes.toList with
   | [x,y],[t,t']=>match Nat.beq t t' with
    | true=>some (t,x,y)
    | false=>none
   | _,_=>none
  | _=>none
 | _=>none
theorem Sa {op:Op} {t:TypeId} {x y:Operand} (h:isApp op=some (t,x,y)):∃ c,op=.call c∧c.callee=.builtin .append∧c.args=#[x,y]∧c.argTypes=#[t,t]:=by
 unfold isApp at h
 split at h
 ·rename_i c
  split at h
  ·rename_i hc
   split at h
   ·rename_i x' y' t1 t2 hx ht
    split at h
    ·rename_i hb;cases h;have hb:=Nat.eq_of_beq_eq_true hb;subst hb;exact ⟨c,rfl,hc,Array.ext' hx,Array.ext' ht⟩
    ·cases h
   ·cases h
  ·cases h
 ·cases h
def O6 (E:Env) (tmps:List Value) (G:aw) (n0 aE:Nat) (t:TypeId) (x y:Operand) (k:Value→Option Nat→Option ah→Prop):Prop :=
 bT tmps x fun xv=>bT tmps y fun yv=>cJ E.tt t fun ti=>match ti.kind with
  | .slice e=>cJ E.tt e fun te=>zl G te.size yv fun s=>match xv with
   | .slice none 0 0=>match s.m with
    | 0=>k (.slice none 0 0) none none
    | m+1=>((m+1)*te.bytes≤140737488355328)∧k (.slice (some ⟨aE,0,none⟩) (m+1) aK) none (some (oY te.size s))
   | .slice (some ⟨id,0,none⟩) n c=>gG G id fun b=>match Nat.beq b.ae te.size && Nat.ble n0 id with
    | true=>(n=b.n∧(n+s.m)*te.bytes≤140737488355328)∧wJ b s fun b'=>k (.slice (some ⟨aE,0,none⟩) (n+s.m) aK) (some (id - n0)) (some b')
    | false=>False
   | _=>False
  | _=>False
structure EPost (ν ai:Nu) (aE:Nat) (iI:Option Loc) (w w':World) (v v':Value) (nb:Option ah):Prop where
 le:ν.le ai
 only:∀ id,id≠aE→ai id=ν id
 val:aq ai v v'
 Dt:Below w.heap.size w w'∨∃ l,iI=some l∧(∃ cur t,w.heap[l.aG]?=some (.cells cur t (0,0)))∧(∀ q,q≠l.aG→w'.heap[q]?=w.heap[q]?)∧w.heap.size≤w'.heap.size∧w'.os=w.os∧w'.tape=w.tape∧w'.output=w.output
 zF:nb=none→ai=ν
 gW:∀ b,nb=some b→∃ l,ai aE=some l∧bP ai l b w'∧(w.heap.size≤l.aG∨∃ lo,iI=some lo∧l.aG=lo.aG)
theorem ng.e {ν ai:Nu} {aE:Nat} {w w':World} {v v':Value} {nb:Option ah} (h:ng ν ai aE w w' v v' nb) (iI:Option Loc):EPost ν ai aE iI w w' v v' nb :=
 ⟨h.le,h.only,h.val,.inl h.below,h.zF,fun b hb=>let ⟨l,h1,J,h3⟩:=h.gW b hb; ⟨l,h1,J,.inl h3⟩⟩
section
variable {P:Program} {E:Env}
theorem Tx (hE:EnvOk P E) {tmps:List Value} {G:aw} {n0 aE:Nat} {t:TypeId} {x y:Operand} {k:Value→Option Nat→Option ah→Prop} (h:O6 E tmps G n0 aE t x y k) :
  ∃ v gn nb,k v gn nb∧(∀ i,gn=some i→∃ b,G[n0+i]?=some (some b)∧b.own=true) ∧
   ∀ (ν:Nu) (a:Act) (w:World) (ty:TypeId),fc ν tmps a x→fc ν tmps a y→bU ν G w→ν aE=none →
    ∃ v' w' ai,(Builtin.append_ #[t,t] ty #[a.eval x,a.eval y]).run P w=.ok v' w'∧EPost ν ai aE (gn.bind fun i=>ν (n0+i)) w w' v v' nb:=by
 obtain ⟨xv,J,vr⟩:=cP h;clear h;obtain ⟨yv,h,zT⟩:=cP J;clear J;obtain ⟨ti,ht,J⟩:=cN h;clear h;obtain ⟨d,hu,hd⟩:=(hE.ty _ _ ht).under
 split at J
 ·rename_i e hk;rw [hk] at hd;have hd:d=.slice e:=hd;subst hd;obtain ⟨te,he,h⟩:=cN J;clear J;have ba:=hE.ty _ _ he;obtain ⟨i,iG,gy,nE,z,hz,im⟩:=ba.info;obtain ⟨s,J,xP,hs⟩:=EP h;clear h;have jA:z.cells.size=te.size:=by rw [im]; simpa using ba.len
  have acR:=ba.bit;have small:∀ q,q*te.bytes≤140737488355328→q≤140737488355328:=fun q hq=>by
   have:q*1≤q*te.bytes:=Nat.mul_le_mul_left _ (by omega)
   omega
  split at J
  ·-- onto nil
   split at J
   ·rename_i hm;refine ⟨_,_,_,J,(fun i hi=>by cases hi),fun ν a w ty vw z8 hH hn=>?_⟩
    have hx:=(vr ν a vw).p7;obtain ⟨oy,cy,L,kK,kL,hC,j8⟩:=hs ν w _ hH (zT ν a z8);have hL:L.length=s.m*i.size:=by rw [gy]; exact hC.len
    refine ⟨_,w,ν,?_,⟨ν.le_refl,fun _ _=>rfl,.ju,.inl (Below.refl _ _),fun _=>rfl,(fun b hb=>by cases hb)⟩⟩
    rw [hx,kK];have:=rK (P:=P) (w:=w) (ty:=ty) hu iG (A:=none) (oy:=oy) (n:=0) (c:=0) (m:=s.m) (cy:=cy) (L:=L) hL j8 kL (by omega) (w2:=w) (fun a ha=>by cases ha) (fun _=>rfl)
    rw [hm] at this ⊢
    simpa using this
   ·rename_i m hm;obtain ⟨hB,h⟩:=J;refine ⟨_,_,_,h,(fun i hi=>by cases hi),fun ν a w ty vw z8 hH hn=>?_⟩
    have hx:=(vr ν a vw).p7;obtain ⟨oy,cy,L,kK,kL,hC,j8⟩:=hs ν w _ hH (zT ν a z8);have hL:L.length=s.m*i.size:=by rw [gy]; exact hC.len
    have qP:s.kA=true→∀ r,r < s.m→∀ v∈s.get r,cG v=true:=fun h r hr v hv=>xP h r hr ν w hH v hv
    have bB:=AF (P:=P) (w:=w) (ty:=ty) hu iG hz (A:=none) (oy:=oy) (n:=0) (c:=0) (m:=s.m) (cy:=cy) (O:=[]) (L:=L) (by simp) (fun a ha=>by cases ha) (fun _=>⟨rfl,rfl⟩) hL j8 kL (by omega) (by omega) (by rw [nE,hm]; simpa using hB) (by have:=small _ hB; omega)
    have dM:Ext (oY te.size s) te.size (fun _=>[]) 0 s.get s.m s.kA:=by
     cases s with
     | fl m g=>exact ⟨rfl,rfl,by simp [oY,ah.n,Src.m],fun r hr=>by rw [gr (by omega)]; rfl,fun _=>rfl⟩
     | ex L=>exact ⟨rfl,rfl,by simp [oY,ah.n,Src.m],fun r hr=>by rw [gr (by omega)]; rfl,fun h=>by simp [oY,ah.jR] at h⟩
    have xO:=hC.mono (Nu.kl (l:=⟨w.heap.size,0,te.size,grownCap w (0+s.m) 0 e⟩) hn);have iu:=vZ (CR.nil _ te.size (fun _=>[])) xO dM (fun h=>⟨fun r hr=>absurd hr (by omega),qP h⟩) (w:=w) jA (iI:=0) (e:=e)
    have dZ:=grownCap_ge w (0+s.m) 0 e;have cm:aq (ν.add aE ⟨w.heap.size,0,te.size,grownCap w (0+s.m) 0 e⟩) (.slice (some ⟨aE,0,none⟩) (m+1) aK) (.slice (some ⟨w.heap.size,0,none⟩) (0+s.m) (grownCap w (0+s.m) 0 e)):=by
     have:=aq.slice (ν:=ν.add aE ⟨w.heap.size,0,te.size,grownCap w (0+s.m) 0 e⟩) aE 0 (0+s.m) aK (grownCap w (0+s.m) 0 e) _ Nu.add_same (.inr rfl) dZ (by simp)
     rw [show m+1=0+s.m by omega]
     simpa [Loc.at] using this
    have hq:=mY hn iu (vU w _ _ _ _) (Nat.le_refl _) cm;refine ⟨_,_,_,?_,hq.e _⟩;rw [hx,kK]
    simpa using bB
  ·rename_i id n c;obtain ⟨b,hb,h⟩:=gB J;clear J
   split at h
   ·rename_i di;rw [Bool.and_eq_true] at di;obtain ⟨di,O7⟩:=di;have di:b.ae=te.size:=Nat.eq_of_beq_eq_true di;have O7:n0≤id:=Nat.le_of_ble_eq_true O7;obtain ⟨⟨fR,mf⟩,h⟩:=h;obtain ⟨b',h,ho,dM⟩:=AG h;have bn:n0+(id - n0)=id:=by omega
    refine ⟨_,_,_,h,(fun i hi=>by cases hi; rw [bn]; exact ⟨b,hb,(ah.cU ho).1⟩),fun ν a w ty vw z8 hH hn=>?_⟩
    have hx:=vr ν a vw;obtain ⟨oy,cy,L,kK,kL,hC,j8⟩:=hs ν w _ hH (zT ν a z8);have hL:L.length=s.m*i.size:=by rw [gy]; exact hC.len
    have qP:s.kA=true→∀ r,r < s.m→∀ v∈s.get r,cG v=true:=fun h r hr v hv=>xP h r hr ν w hH v hv
    obtain ⟨l,hl,hB⟩:=hH.aG id b hb;rw [← di] at hC jA;have aH:id≠aE:=fun e=>by rw [e,hn] at hl; cases hl
    have hold:(some (id - n0)).bind (fun i=>ν (n0+i))=some l:=by
     show ν (n0+(id - n0))=some l
     rw [bn]; exact hl
    rw [hold];have Is:∃ A c',a.eval x=.slice (some A) n c'∧n≤c'∧((A=l.at 0 0∧c'≤l.cap)∨(n=0∧c'=0)):=by
     rcases hx.tO with ⟨l',c',cB,h1,J,h3,e⟩ | ⟨h1,J,bb,e⟩
     ·rw [hl] at cB; cases cB;exact ⟨_,c',e,J,.inl ⟨rfl,by omega⟩⟩
     ·exact ⟨bb,0,by rw [e,h1],by omega,.inr ⟨h1,rfl⟩⟩
    obtain ⟨A,c',cj,Dh,hA⟩:=Is;have hO:∃ O,CR ν b.ae b.row n O∧∀ (j:Nat) u,O[j]?=some u→w.cell? (A.add j)=some u:=by
     rcases hA with ⟨rfl,_⟩ | ⟨h0,_⟩
     ·obtain ⟨O,h1,J⟩:=CR.Gy hB (row:=0) (m:=n) (by omega)
      exact ⟨O,h1.congr (fun r hr=>by simp),J⟩
     ·subst h0;exact ⟨[],CR.nil _ _ _,fun j u hu=>by simp at hu⟩
    obtain ⟨O,hO,rf⟩:=hO;have s7:b.pf=true→∀ r,r < b.n→∀ v∈b.row r,cG v=true:=fun h r hr v hv=>by
     cases b with
     | flat o n e g=>exact hB.plain rfl r hr v hv
     | aL o e rows =>
      have h:rows.all jP=true:=h;have hr:r < rows.length:=hr;have hv:v∈rows.getD r []:=hv;rw [List.getD_eq_getElem?_getD,List.getElem?_eq_getElem hr] at hv;exact x0 (List.all_eq_true.1 h _ (List.getElem_mem hr)) v hv
     | b9 r=>cases h
    have mG:(b.pf && s.kA)=true→(∀ r,r < b.n→∀ v∈b.row r,cG v=true)∧∀ r,r < s.m→∀ v∈s.get r,cG v=true:=fun h=>by
     rw [Bool.and_eq_true] at h; exact ⟨s7 h.1,qP h.2⟩
    by_cases cO:n+s.m≤c'
    ·-- in its place
     obtain ⟨cur,tt,j5,aU,abq⟩:=hB.own (ah.cU ho).1 (ah.cU ho).2;have hle:=Nu.kl (l:=l) hn;rcases hA with ⟨rfl,fM⟩ | ⟨h0,oo⟩
     ·obtain ⟨h1,J⟩:=hB.extend (P:=P) ho (Nat.le_refl _) hC dM mG (by omega)
      refine ⟨_,w.setCells l.aG (l.base+b.n*l.ae) L,ν.add aE l,?_,⟨hle,fun j hj=>Nu.iQ hj,.slice _ _ _ _ _ l Nu.add_same (.inr rfl) cO (by omega),.inr ⟨l,rfl,⟨cur,tt,j5⟩,fun q hq=>rH _ _ _ _ _ hq,by rw [oM]; exact Nat.le_refl _,(vT _ _ _ _).1,(vT _ _ _ _).2.1,(vT _ _ _ _).2.2⟩,(fun h=>by cases h),fun b2 dC=>by cases dC; exact ⟨l,Nu.add_same,J.mono hle,.inr ⟨l,rfl,rfl⟩⟩⟩⟩
      rw [cj,kK];refine rK (P:=P) hu iG hL j8 kL cO (fun A' s8=>?_) (fun h=>by cases h)
      cases s8;have:(l.at 0 0).add (n*i.size)=l.at b.n 0:=by
       rw [Loc.jS]; unfold Loc.at; congr 1;rw [hB.ae,gy,di,fR]; omega
      rw [this]; exact h1
     ·have kJ:s.m=0:=by omega
      have xQ:L=[]:=List.eq_nil_of_length_eq_zero (by rw [hL,kJ]; simp)
      refine ⟨.slice (some A) (n+s.m) c',w,ν.add aE l,?_,⟨hle,fun j hj=>Nu.iQ hj,?_,.inl (Below.refl _ _),(fun h=>by cases h),fun b2 dC=>by
       cases dC;have vx:b'.n=b.n:=by rw [dM.num,kJ]; rfl
       have aX:∀ r,r < b.n→b'.row r=b.row r:=fun r hr=>by rw [dM.row r (by omega),jh hr]
       refine ⟨l,Nu.add_same,bP.mono hle ⟨by rw [dM.ae]; exact hB.ae,fun r hr=>by rw [vx] at hr; rw [aX r hr,dM.ae]; exact hB.len r hr,
        fun r hr j v hv=>by rw [vx] at hr; rw [aX r hr] at hv; exact hB.cell r hr j v hv,
        fun h r hr v hv=>by rw [vx] at hr; rw [aX r hr] at hv; exact (mG (dM.flat h)).1 r hr v hv,
        fun r hr v hv=>by rw [vx] at hr; rw [aX r hr] at hv; exact hB.one r hr v hv,
        fun _ _=>⟨cur,tt,j5,aU,by rw [vx]; exact abq⟩,(fun r h=>by rw [(ah.cU dM.own).2] at h; cases h),hB.live⟩,.inr ⟨l,rfl,rfl⟩⟩⟩⟩
      ·rw [cj,kK];exact rK (P:=P) hu iG hL j8 kL cO (fun A' s8=>by rw [xQ]; rfl) (fun h=>by cases h)
      ·subst oo;rw [show n+s.m=0 by omega]
       exact .void _ _ _ _ (.inr rfl)
    ·have bB:(Builtin.append_ #[t,t] ty #[a.eval x,a.eval y]).run P w=.ok (.slice (some ⟨w.heap.size,0,none⟩) (n+s.m) (grownCap w (n+s.m) c' e)) (w.drew.alloc (tQ (O++L).toArray z (grownCap w (n+s.m) c' e - (n+s.m)) e)):=by
      rw [cj,kK];exact AF (P:=P) (w:=w) (ty:=ty) hu iG hz (by rw [hO.len,gy,di]) (fun a ha=>by cases ha; exact rf) (fun h=>by cases h) hL j8 kL Dh (by omega) (by rw [nE]; exact mf) (small _ mf)
     have ll:=Nu.kl (l:=⟨w.heap.size,0,b.ae,grownCap w (n+s.m) c' e⟩) hn;have HC:Ext b' b.ae b.row n s.get s.m (b.pf && s.kA):=by rw [fR]; exact dM
     have iu:=vZ (hO.mono ll) (hC.mono ll) HC (fun h=>⟨fun r hr v hv=>(mG h).1 r (by omega) v hv,(mG h).2⟩) (w:=w) jA (iI:=c') (e:=e)
     have dZ:=grownCap_ge w (n+s.m) c' e;have cm:aq (ν.add aE ⟨w.heap.size,0,b.ae,grownCap w (n+s.m) c' e⟩) (.slice (some ⟨aE,0,none⟩) (n+s.m) aK) (.slice (some ⟨w.heap.size,0,none⟩) (n+s.m) (grownCap w (n+s.m) c' e)):=by
      have:=aq.slice (ν:=ν.add aE ⟨w.heap.size,0,b.ae,grownCap w (n+s.m) c' e⟩) aE 0 (n+s.m) aK (grownCap w (n+s.m) c' e) _ Nu.add_same (.inr rfl) dZ (by simp)
      simpa [Loc.at] using this
     have hq:=mY hn iu (vU w _ _ _ _) (Nat.le_refl _) cm;exact ⟨_,_,_,bB,hq.e _⟩
   ·exact h.elim
  ·exact J.elim
 ·exact J.elim
end
end Go.Ae
