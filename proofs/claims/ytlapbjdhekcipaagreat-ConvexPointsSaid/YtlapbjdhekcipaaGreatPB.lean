import Derived.RangeFuncLeaves
import Derived.RangeFuncRecord
import Derived.KernelRfl
import Derived.Test.YtlapbjdhekcipaaGreatPA
set_option linter.unusedVariables false
set_option linter.unusedSimpArgs false
/- 'append' upon the abstract heap: its soundness. -/
namespace Go.Ae
open Go Go.RowKit
def oh (ae:Nat):Src→ah
 | .fl m g=>.flat true m ae g
 | .ex L=>.aL true ae L
/-- Whether a block's cells hold no addresses. -/
def ah.ou:ah→Bool
 | .flat _ _ _ _=>true
 | .aL _ _ rows=>rows.all jo
 | .bZ _=>false
def vX (b:ah) (s:Src) (k:ah→Prop):Prop :=
 match b,s with
 | .flat true n ae get,.fl m news=>k (.flat true (n+m) ae (ij get n news))
 | .aL true ae rows,.ex L=>rS rows L fun l=>k (.aL true ae l)
 | .aL true ae rows,.fl m news=>match Nat.ble 2 ae && rows.all jo with
  | true=>k (.flat true (rows.length+m) ae (ij (fun j=>rows.getD j []) rows.length news))
  | false=>wG news 0 m fun L=>rS rows L fun l=>k (.aL true ae l)
 | _,_=>False
def BT (b:ah) (row n:Nat) (s:Src) (k:ah→Prop):Prop :=
 match b,s with
 | .flat _ _ ae get,.fl m news=>k (.flat true (n+m) ae (ij (fun j=>get (eM row j)) n news))
 | .aL _ ae rows,.ex L=>rF rows row n fun L0=>rS L0 L fun l=>k (.aL true ae l)
 | .aL _ ae rows,.fl m news=>match Nat.ble 2 ae && rows.all jo with
  | true=>k (.flat true (n+m) ae (ij (fun j=>rows.getD (eM row j) []) n news))
  | false=>rF rows row n fun L0=>wG news 0 m fun L=>rS L0 L fun l=>k (.aL true ae l)
 | _,_=>False
/-- Rows g and then h. -/
structure Ext (b':ah) (ae:Nat) (g:Nat→List Value) (n:Nat) (h:Nat→List Value) (m:Nat) (fl:Bool):Prop where
 own:b'.nz=true
 ae:b'.ae=ae
 num:b'.n=n+m
 row:∀ r,r < n+m→b'.row r=ij g n h r
 flat:b'.js=true→fl=true
theorem Qz {l m:List (List Value)} {r:Nat} (h:r < l.length):(l++m).getD r []=l.getD r []:=by
 simp [List.getD,List.getElem?_append_left h]
theorem QA {l m:List (List Value)} {r:Nat} (h:l.length≤r):(l++m).getD r []=m.getD (r - l.length) []:=by
 simp [List.getD,List.getElem?_append_right h]
theorem AU {ae:Nat} {L0 L:List (List Value)} {g h:Nat→List Value} {n m:Nat} (h0:L0.length=n) (h1:L.length=m) (hg:∀ r,r < n→L0.getD r []=g r) (hh:∀ r,r < m→L.getD r []=h r) (fl:Bool) :
  Ext (.aL true ae (L0++L)) ae g n h m fl:=by
 refine ⟨rfl,rfl,by simp [ah.n,h0,h1],fun r hr=>?_,fun h=>by simp [ah.js] at h⟩
 show (L0++L).getD r []=_
 by_cases ak:r < n
 ·rw [Qz (by omega),iN ak,hg r ak]
 ·rw [QA (by omega),fV (by omega),h0,hh _ (by omega)]
theorem Ad {b:ah} {s:Src} {k:ah→Prop} (h:vX b s k):∃ b',k b'∧b.nz=true∧Ext b' b.ae b.row b.n s.get s.m (b.ou && s.jW):=by
 cases b with
 | flat o n e g =>
  cases o with
  | false=>cases s <;> exact h.elim
  | true =>
   cases s with
   | fl m news=>exact ⟨_,h,rfl,rfl,rfl,rfl,fun r _=>rfl,fun _=>rfl⟩
   | ex L=>exact h.elim
 | aL o e rows =>
  cases o with
  | false=>cases s <;> exact h.elim
  | true =>
   cases s with
   | fl m news =>
    have h:match Nat.ble 2 e && rows.all jo with
     | true=>k (.flat true (rows.length+m) e (ij (fun j=>rows.getD j []) rows.length news))
     | false=>wG news 0 m fun L=>rS rows L fun l=>k (.aL true e l):=h
    split at h
    ·rename_i hs
     rw [Bool.and_eq_true] at hs
     exact ⟨_,h,rfl,rfl,rfl,rfl,fun r _=>rfl,fun _=>by show (rows.all jo && true)=true; rw [hs.2]; rfl⟩
    obtain ⟨L,h,h1,J⟩:=DU h
    have h:=xN h
    exact ⟨_,h,rfl,AU rfl h1 (fun _ _=>rfl) (fun r hr=>by rw [J r hr]; simp [Src.get]) _⟩
   | ex L =>
    have h:=xN h
    exact ⟨_,h,rfl,AU rfl rfl (fun _ _=>rfl) (fun r hr=>rfl) _⟩
 | bZ r=>cases s <;> exact h.elim
theorem Km {b:ah} {row n:Nat} {s:Src} {k:ah→Prop} (h:BT b row n s k):∃ b',k b'∧Ext b' b.ae (fun j=>b.row (row+j)) n s.get s.m (b.ou && s.jW):=by
 cases b with
 | flat o N e g =>
  cases s with
  | fl m news=>exact ⟨_,h,rfl,rfl,rfl,fun r hr=>by simp [ah.row,ar,Src.get,Src.m],fun _=>rfl⟩
  | ex L=>exact h.elim
 | aL o e rows =>
  have aX:∀ (L0:List (List Value)),(L0.length=n∧row+n≤rows.length)→(∀ (j:Nat) v,L0[j]?=some v→rows[row+j]?=some v)→∀ r,r < n→L0.getD r []=(ah.aL o e rows).row (row+r):=by
   intro L0 h0 h1 r hr
   have ak:r < L0.length:=by omega
   have:=h1 r _ (List.getElem?_eq_getElem ak)
   simp [ah.row,List.getD,this,List.getElem?_eq_getElem ak]
  cases s with
  | fl m news =>
   have h:match Nat.ble 2 e && rows.all jo with
    | true=>k (.flat true (n+m) e (ij (fun j=>rows.getD (eM row j) []) n news))
    | false=>rF rows row n fun L0=>wG news 0 m fun L=>rS L0 L fun l=>k (.aL true e l):=h
   split at h
   ·rename_i hs
    rw [Bool.and_eq_true] at hs
    exact ⟨_,h,rfl,rfl,rfl,fun r hr=>by simp [ah.row,ar,Src.get,Src.m],fun _=>by show (rows.all jo && true)=true; rw [hs.2]; rfl⟩
   obtain ⟨L0,h,h0,h3⟩:=xI h
   obtain ⟨L,h,h1,J⟩:=DU h
   have h:=xN h
   exact ⟨_,h,AU h0.1 h1 (aX L0 h0 h3) (fun r hr=>by rw [J r hr]; simp [Src.get]) _⟩
  | ex L =>
   obtain ⟨L0,h,h0,h3⟩:=xI h
   have h:=xN h
   exact ⟨_,h,AU h0.1 rfl (aX L0 h0 h3) (fun r hr=>rfl) _⟩
 | bZ r=>cases s <;> exact h.elim
/-- Rows g, of which m from q on are put anew. -/
def jq (g:Nat→List Value) (q:Nat) (h:Nat→List Value) (m:Nat):Nat→List Value:=fun j=>bif Nat.blt j q then g j else bif Nat.blt j (q+m) then h (j - q) else g j
theorem GF {a b:Nat} (h:b≤a):Nat.blt a b=false:=by
 cases e:Nat.blt a b with
 | false=>rfl
 | true=>rw [Nat.blt_eq] at e; omega
theorem RK {g h:Nat→List Value} {q m j:Nat} (hj:j < q):jq g q h m j=g j:=by
 have:Nat.blt j q=true:=by rw [Nat.blt_eq]; exact hj
 simp [jq,this]
theorem RL {g h:Nat→List Value} {q m j:Nat} (h1:q≤j) (J:j < q+m):jq g q h m j=h (j - q):=by
 have:Nat.blt j (q+m)=true:=by rw [Nat.blt_eq]; exact J
 simp [jq,this,GF h1]
theorem RM {g h:Nat→List Value} {q m j:Nat} (hj:q+m≤j):jq g q h m j=g j:=by
 simp [jq,GF hj,GF (show q≤j by omega)]
def Fz (E:Env) (tmps:List Value) (H:ax) (t:TypeId) (xv yv:Value) (k:Value→List Value→ax→Prop):Prop :=
 cE E.tt t fun ti=>match ti.kind with
  | .slice e=>cE E.tt e fun te=>yP H te.size yv fun s=>match xv with
   | .slice none 0 0=>match s.m with
    | 0=>k (.slice none 0 0) tmps H
    | m+1=>((m+1)*te.bytes≤140737488355328)∧ja H fun aE=>oq H (some (oh te.size s)) fun H'=>k (.slice (some ⟨aE,0,none⟩) (m+1) aJ) tmps H'
   | .slice (some ⟨id,row,none⟩) n c=>gu H id fun b=>match Nat.beq b.ae te.size with
    | true=>match decide (c=aJ) with
     | false=>br (Nat.ble (n+s.m) c)
      (row+n=b.n∧vX b s fun b'=>iZ H id (some b') fun H'=>k (.slice (some ⟨id,row,none⟩) (n+s.m) c) tmps H')
      ((row+n≤b.n∧(n+s.m)*te.bytes≤140737488355328)∧BT b row n s fun b'=>ja H fun aE=>oq H (some b') fun H'=>k (.slice (some ⟨aE,0,none⟩) (n+s.m) aJ) tmps H')
     | true=>match E.gZ with
      | true=>match row with
       | 0=>(E.base≤id∧(n≤b.n∧b.nz=true)∧(n+s.m)*te.bytes≤140737488355328)∧BT b 0 n s fun b1=>yy id b1 fun b'=>∃ aa,∀ a:Nat→Value,tQ a id aa 0 tmps fun yz=>wF id H fun H1=>iZ H1 id (some b') fun H'=>k (.slice (some ⟨id,0,none⟩) (n+s.m) aJ) yz H'
       | _=>False
      | false=>match Nat.ble E.base id with
       | true=>match row with
        | 0=>(E.base≤id∧n=b.n∧(n+s.m)*te.bytes≤140737488355328)∧vX b s fun b1=>yy id b1 fun b'=>∃ aa,∀ a:Nat→Value,tQ a id aa 0 tmps fun yz=>wF id H fun H1=>iZ H1 id (some b') fun H'=>k (.slice (some ⟨id,0,none⟩) (n+s.m) aJ) yz H'
        | _=>False
       | false=>match row with
        | 0=>(n=b.n∧(n+s.m)*te.bytes≤140737488355328)∧vX b s fun b'=>iZ H id none fun H1=>ja H1 fun aE=>oq H1 (some b') fun H'=>k (.slice (some ⟨aE,0,none⟩) (n+s.m) aJ) tmps H'
        | _=>False
    | false=>False
   | .slice (some ⟨id,row,some b0⟩) n c=>gu H id fun b=>match Nat.beq b.ae te.size with
    | true=>match b,s with
     | .flat true N ae get,.fl m news=>(n+m≤b0∧row+(n+m)≤N)∧iZ H id (some (.flat true N ae (jq get (eM row n) news m))) fun H'=>k (.slice (some ⟨id,row,some b0⟩) (n+m) c) tmps H'
     | _,_=>False
    | false=>False
   | _=>False
  | _=>False
/-- The builtin 'clear'. -/
def Nn (E:Env) (tmps:List Value) (H:ax) (t:TypeId) (x:Operand) (k:ax→Prop):Prop :=
 bQ tmps x fun xv=>cE E.tt t fun ti=>match ti.kind with
  | .slice e=>cE E.tt e fun te=>match xv with
   | .slice (some ⟨id,row,_⟩) n _=>gu H id fun b=>match Nat.beq b.ae te.size with
    | true=>match b with
     | .flat true N ae get=>(row+n≤N∧lV te.zero=true)∧iZ H id (some (.flat true N ae (jq get row (fun _=>te.zero) n))) k
     | _=>False
    | false=>False
   | _=>False
  | _=>False
/-- The builtin 'copy'. -/
def FA (E:Env) (H:ax) (t:TypeId) (xv yv:Value) (k:Value→ax→Prop):Prop :=
 cE E.tt t fun ti=>match ti.kind with
  | .slice e=>cE E.tt e fun te=>yP H te.size yv fun s=>match s,xv with
   | .fl m news,.slice (some ⟨id,row,_⟩) n _=>gu H id fun b=>match Nat.beq b.ae te.size with
    | true=>match b with
     | .flat true N ae get=>row+n≤N∧iZ H id (some (.flat true N ae (jq get row news (Nat.min m n)))) fun H'=>k (.int .i64 (Nat.min m n)) H'
     | _=>False
    | false=>False
   | _,_=>False
  | _=>False
def ME (E:Env) (tmps:List Value) (H:ax) (t:TypeId) (x y:Operand) (k:Value→List Value→ax→Prop):Prop :=
 bQ tmps x fun xv=>bQ tmps y fun yv=>Fz E tmps H t xv yv k
/-- A slice whose capacity is known. -/
def AV:Value→Bool
 | .slice (some _) _ c=>!decide (c=aJ)
 | _=>true
section
variable {P:Program} {E:Env} {F:Fr}
theorem Dq (z:Array Value) (n:Nat):(Builtin.zeroCells z n).size=n*z.size:=by simp [Builtin.zeroCells]
/-- The cells behind a grown slice. -/
theorem Rj {O L:List Value} {z:Value} {k q:Nat} (hq:q < (O++L).length):((O++L).toArray++Builtin.zeroCells z.cells k)[q]?=(O++L)[q]?:=by
 rw [Array.getElem?_append_left (by simpa using hq)]
 simp
/-- A block appended to where it stands. -/
theorem bN.extend {ν:Nu} {l:Loc} {b b':ah} {w:World} (hB:bN ν l b w) (ho:b.nz=true) {n m:Nat} (gj:n≤b.n) {news:Nat→List Value} {L:List Value} {fl:Bool}
  (hC:CR ν b.ae news m L) (hx:Ext b' b.ae b.row n news m fl) (sf:fl=true→(∀ r,r < b.n→∀ v∈b.row r,cC v=true)∧∀ r,r < m→∀ v∈news r,cC v=true) (fx:n+m≤l.cap) :
  (storeCells (l.at n 0) L).run P w=.ok () (w.setCells l.aH (l.base+n*l.ae) L)∧bN ν l b' (w.setCells l.aH (l.base+n*l.ae) L):=by
 obtain ⟨cur,t,jz,aT,_⟩:=hB.own (ah.cQ ho).1 (ah.cQ ho).2
 have he:=hB.ae
 have wY:l.base+n*l.ae+L.length≤cur.size:=by
  rw [hC.len,he]
  have:(n+m)*b.ae≤l.cap*b.ae:=Nat.mul_le_mul_right _ fx
  rw [Nat.add_mul] at this
  rw [he] at aT
  omega
 have rG:∀ j,j < L.length→(w.cell? ⟨l.aH,l.base+n*l.ae+j,none⟩).isSome=true:=by
  intro j hj
  simp only [World.cell?]
  rw [jz]
  simp
  omega
 refine ⟨?_,?_⟩
 ·have:=run_storeCells_cells (P:=P) l.aH (l.base+n*l.ae) L 0 w (by simpa using rG) (fun j hj=>by simp [World.frozen?,jz]) hC.one
  simpa [Loc.at] using this
 ·obtain ⟨oA,J,h3⟩:=z9 l.aH L (l.base+n*l.ae) w cur t jz
  refine ⟨by rw [hx.ae]; exact he,fun r hr=>?_,fun r hr j v hv=>?_,fun h r hr v hv=>?_,fun r hr v hv=>?_,fun _ _=>⟨oA,t,J,by rw [h3]; exact aT,by rw [hx.num]; exact fx⟩,(fun r h=>by rw [(ah.cQ hx.own).2] at h; cases h),by rw [n3]; exact hB.live⟩
  ·rw [hx.num] at hr
   rw [hx.row r hr,hx.ae]
   by_cases h:r < n
   ·rw [iN h]; exact hB.len r (by omega)
   ·rw [fV (by omega)]; exact hC.row _ (by omega)
  ·rw [hx.num] at hr
   rw [hx.row r hr] at hv
   by_cases h:r < n
   ·rw [iN h] at hv
    obtain ⟨v',h4,h5⟩:=hB.cell r (by omega) j v hv
    have hj:j < b.ae:=by rw [← hB.len r (by omega)]; exact (List.getElem?_eq_some_iff.1 hv).1
    refine ⟨v',?_,h5⟩
    rw [World.cell?_setCells_out l.aH _ _ _ _ (fun _ _=>?_)]
    ·exact h4
    ·left
     simp only [Loc.at,he]
     have:(r+1)*b.ae≤n*b.ae:=Nat.mul_le_mul_right _ h
     rw [Nat.add_mul] at this; omega
   ·rw [fV (by omega)] at hv
    obtain ⟨v',h4,h5⟩:=hC.cell (r - n) (by omega) j v hv
    have ak:=(List.getElem?_eq_some_iff.1 h4).1
    refine ⟨v',?_,h5⟩
    have:=World.cell?_setCells_in l.aH L (l.base+n*l.ae) w rG _ ak
    have e:l.at r j=⟨l.aH,l.base+n*l.ae+((r - n)*b.ae+j),none⟩:=by
     unfold Loc.at
     congr 1
     rw [he]
     have:r*b.ae=n*b.ae+(r - n)*b.ae:=by rw [← Nat.add_mul]; congr 1; omega
     omega
    rw [e,this,← h4,List.getElem?_eq_getElem ak]
  ·rw [hx.num] at hr
   rw [hx.row r hr] at hv
   obtain ⟨h6,h7⟩:=sf (hx.flat h)
   by_cases h:r < n
   ·rw [iN h] at hv; exact h6 r (by omega) v hv
   ·rw [fV (by omega)] at hv; exact h7 _ (by omega) v hv
  ·rw [hx.num] at hr
   rw [hx.row r hr] at hv
   by_cases h:r < n
   ·rw [iN h] at hv; exact hB.one r (by omega) v hv
   ·rw [fV (by omega)] at hv; exact hC.rR _ (by omega) v hv
theorem Kept.setCells {O:Nat→Prop} {W w:World} (h:Kept O W w) {b:Nat} (hb:O b∨W.heap.size≤b) (o:Nat) (L:List Value):Kept O W (w.setCells b o L):=by
 obtain ⟨o1,o2,o3⟩:=vn b L o w
 refine ⟨o1.trans h.os,o2.trans h.tape,o3.trans h.output,by rw [n3]; exact h.size,fun q h1 J=>?_⟩
 rw [qO]
 ·exact h.aH q h1 J
 ·intro e
  subst e
  rcases hb with h' | h'
  ·exact J h'
  ·omega
/-- A grown block. -/
theorem vt {ν:Nu} {ae n m:Nat} {g h:Nat→List Value} {O L:List Value} {b':ah} {fl:Bool} (hO:CR ν ae g n O) (hC:CR ν ae h m L) (hx:Ext b' ae g n h m fl)
  (sf:fl=true→(∀ r,r < n→∀ v∈g r,cC v=true)∧∀ r,r < m→∀ v∈h r,cC v=true) {w:World} {z:Value} (hz:z.cells.size=ae) {iw:Nat} {e:TypeId} :
  bN ν ⟨w.heap.size,0,ae,grownCap w (n+m) iw e⟩ b' (w.drew.alloc (s8 (O++L).toArray z (grownCap w (n+m) iw e - (n+m)) e)):=by
 have dS:=grownCap_ge w (n+m) iw e
 have Pm:=hO.append hC
 refine VP Pm hx.row hx.num hx.ae (fun hf r hr v hv=>?_) (C:=(O++L).toArray++Builtin.zeroCells z.cells (grownCap w (n+m) iw e - (n+m))) (t:=e) ?_ (fun q hq=>Rj hq) dS ?_ (ah.cQ hx.own).2
 ·obtain ⟨h1,J⟩:=sf (hx.flat hf)
  by_cases h:r < n
  ·rw [iN h] at hv; exact h1 r h v hv
  ·rw [fV (by omega)] at hv; exact J _ (by omega) v hv
 ·show (w.heap.push _)[w.heap.size]?=_
  simp [s8]
 ·rw [Array.size_append,Dq,hz]
  simp only [List.size_toArray]
  rw [Pm.len,← Nat.add_mul]
  apply Nat.le_of_eq
  congr 1
  omega
theorem vo (w:World) (C:Array Value) (z:Value) (k:Nat) (e:TypeId):Below w.heap.size w (w.drew.alloc (s8 C z k e)):=((Below.refl _ w).drew).alloc (Nat.le_refl _) _
/-- Rows of a block put anew. -/
theorem bN.gZ {ν:Nu} {l:Loc} {N ae:Nat} {get:Nat→List Value} {w:World} (hB:bN ν l (.flat true N ae get) w) {q m:Nat} (hq:q+m≤N) {news:Nat→List Value} {L:List Value}
  (hC:CR ν ae news m L) (hs:∀ r,r < m→∀ v∈news r,cC v=true) :
  (storeCells (l.at q 0) L).run P w=.ok () (w.setCells l.aH (l.base+q*l.ae) L)∧bN ν l (.flat true N ae (jq get q news m)) (w.setCells l.aH (l.base+q*l.ae) L):=by
 obtain ⟨cur,t,jz,aT,fx⟩:=hB.own rfl rfl
 have fx:N≤l.cap:=fx
 have he:l.ae=ae:=hB.ae
 have wY:l.base+q*l.ae+L.length≤cur.size:=by
  rw [hC.len,he]
  have:(q+m)*ae≤l.cap*ae:=Nat.mul_le_mul_right _ (by omega)
  rw [Nat.add_mul] at this
  rw [he] at aT
  omega
 have rG:∀ j,j < L.length→(w.cell? ⟨l.aH,l.base+q*l.ae+j,none⟩).isSome=true:=by
  intro j hj
  simp only [World.cell?]
  rw [jz]
  simp
  omega
 refine ⟨?_,?_⟩
 ·have:=run_storeCells_cells (P:=P) l.aH (l.base+q*l.ae) L 0 w (by simpa using rG) (fun j hj=>by simp [World.frozen?,jz]) hC.one
  simpa [Loc.at] using this
 ·obtain ⟨oA,J,h3⟩:=z9 l.aH L (l.base+q*l.ae) w cur t jz
  have rows:∀ r,r < N→(jq get q news m r=get r∧(r < q∨q+m≤r))∨(jq get q news m r=news (r - q)∧q≤r∧r < q+m):=fun r _=>by
   by_cases h:r < q
   ·exact .inl ⟨RK h,.inl h⟩
   ·by_cases h':r < q+m
    ·exact .inr ⟨RL (by omega) h',by omega,h'⟩
    ·exact .inl ⟨RM (by omega),.inr (by omega)⟩
  refine ⟨he,fun r hr=>?_,fun r hr j v hv=>?_,fun _ r hr v hv=>?_,fun r hr v hv=>?_,fun _ _=>⟨oA,t,J,by rw [h3]; exact aT,fx⟩,(fun r h=>by cases h),by rw [n3]; exact hB.live⟩
  ·have hr:r < N:=hr
   show (jq get q news m r).length=ae
   rcases rows r hr with ⟨e,_⟩ | ⟨e,h1,J⟩
   ·rw [e]; exact hB.len r hr
   ·rw [e]; exact hC.row _ (by omega)
  ·have hr:r < N:=hr
   have hv:(jq get q news m r)[j]?=some v:=hv
   rcases rows r hr with ⟨e,h1⟩ | ⟨e,h1,J⟩
   ·rw [e] at hv
    obtain ⟨v',h4,h5⟩:=hB.cell r hr j v hv
    have hj:j < ae:=by have e':(get r).length=ae:=hB.len r hr; rw [← e']; exact (List.getElem?_eq_some_iff.1 hv).1
    refine ⟨v',?_,h5⟩
    rw [World.cell?_setCells_out l.aH _ _ _ _ (fun _ _=>?_)]
    ·exact h4
    ·rcases h1 with h | h
     ·left
      simp only [Loc.at,he]
      have:(r+1)*ae≤q*ae:=Nat.mul_le_mul_right _ h
      rw [Nat.add_mul] at this; omega
     ·right
      simp only [Loc.at,he,hC.len]
      have:(q+m)*ae≤r*ae:=Nat.mul_le_mul_right _ h
      rw [Nat.add_mul] at this; omega
   ·rw [e] at hv
    obtain ⟨v',h4,h5⟩:=hC.cell (r - q) (by omega) j v hv
    have ak:=(List.getElem?_eq_some_iff.1 h4).1
    refine ⟨v',?_,h5⟩
    have:=World.cell?_setCells_in l.aH L (l.base+q*l.ae) w rG _ ak
    have e:l.at r j=⟨l.aH,l.base+q*l.ae+((r - q)*ae+j),none⟩:=by
     unfold Loc.at
     congr 1
     rw [he]
     have:r*ae=q*ae+(r - q)*ae:=by rw [← Nat.add_mul]; congr 1; omega
     omega
    rw [e,this,← h4,List.getElem?_eq_getElem ak]
  ·have hr:r < N:=hr
   have hv:v∈jq get q news m r:=hv
   rcases rows r hr with ⟨e,_⟩ | ⟨e,h1,J⟩
   ·rw [e] at hv; exact hB.plain rfl r hr v hv
   ·rw [e] at hv; exact hs _ (by omega) v hv
  ·have hr:r < N:=hr
   have hv:v∈jq get q news m r:=hv
   rcases rows r hr with ⟨e,_⟩ | ⟨e,h1,J⟩
   ·rw [e] at hv; exact hB.one r hr v hv
   ·rw [e] at hv; exact hC.rR _ (by omega) v hv
theorem bt.gZ {ν:Nu} {tmps:List Value} {H:ax} {a:Act} {w:World} (hi:bt F ν tmps H a w) {id N ae:Nat} {get:Nat→List Value} (hb:H[id]?=some (some (.flat true N ae get))) {l:Loc} (hl:ν id=some l)
  {q m:Nat} (hq:q+m≤N) {news:Nat→List Value} {L:List Value} (hC:CR ν ae news m L) (hs:∀ r,r < m→∀ v∈news r,cC v=true) :
  (storeCells (l.at q 0) L).run P w=.ok () (w.setCells l.aH (l.base+q*l.ae) L)∧bt F ν tmps (H.set id (some (.flat true N ae (jq get q news m)))) a (w.setCells l.aH (l.base+q*l.ae) L):=by
 obtain ⟨l0,dX,hB⟩:=hi.hp.aH id _ hb
 rw [hl] at dX; cases dX
 obtain ⟨h1,g9⟩:=hB.gZ (P:=P) hq hC hs
 have ak:id < H.length:=(List.getElem?_eq_some_iff.1 hb).1
 have nD:∀ q',q'≠l.aH→(w.setCells l.aH (l.base+q*l.ae) L).heap[q']?=w.heap[q']?:=fun q' H6=>qO _ _ _ _ _ H6
 have oM:w.heap.size≤(w.setCells l.aH (l.base+q*l.ae) L).heap.size:=by rw [n3]; exact Nat.le_refl _
 refine ⟨h1,hi.tm,(let ⟨_,_,tS,_⟩:=hB.own rfl rfl; hi.df.gh tS nD),?_,fun j hj=>hi.fr j (by simpa using hj),hi.kp.setCells (hi.own id _ l hb rfl hl) _ _,fun j bj lj hj nL cU=>?_,hi.mono⟩
 ·refine hi.hp.gh (id:=id) (fun _ _=>rfl) (fun j bj hj aI=>?_) (fun bj hj=>?_)
  ·rw [List.getElem?_set_ne (Ne.symm aI)] at hj
   refine ⟨bj,hj,rfl,fun lj cU p9=>p9.same (nD _ ?_) oM⟩
   exact Ne.symm (hi.hp.sep id j _ bj l lj hb hj (Ne.symm aI) rfl hl cU)
  ·rw [List.getElem?_set_self ak] at hj
   cases hj
   exact ⟨l,hl,g9,fun j lj bj aI hj cU=>Ne.symm (hi.hp.sep id j _ bj l lj hb hj (Ne.symm aI) rfl hl cU)⟩
 ·by_cases e':j=id
  ·subst e'; rw [hl] at cU; cases cU; exact hi.own j _ l hb rfl hl
  ·rw [List.getElem?_set_ne (Ne.symm e')] at hj; exact hi.own j bj lj hj nL cU
/-- Zero rows. -/
theorem CR.aaW {ν:Nu} {z:Value} {zs:List Value} (hz:z.cells=⟨zs⟩) (GG:bc ν zs zs) (pQ:∀ v∈zs,v.oneCell'=true) (h0:0 < zs.length) (n:Nat):CR ν zs.length (fun _=>zs) n (Builtin.zeroCells z.cells n).toList:=by
 have aT:z.cells.size=zs.length:=by rw [hz]; rfl
 have ky:∀ j,j < n*zs.length→(Builtin.zeroCells z.cells n)[j]?=zs[j % zs.length]?:=fun j hj=>by
  rw [Js _ _ _ (by rw [aT]; exact hj) (by rw [aT]; exact h0),aT,hz]; simp
 refine ⟨by simp [Dq,aT],fun _ _=>rfl,fun r hr j v hv=>?_,fun u hu=>?_,fun _ _ v hv=>pQ v hv⟩
 ·have hj:=(List.getElem?_eq_some_iff.1 hv).1
  have ak:r*zs.length+j < n*zs.length:=by
   have:(r+1)*zs.length≤n*zs.length:=Nat.mul_le_mul_right _ hr
   rw [Nat.add_mul] at this; omega
  refine ⟨v,?_,GG.2 j v v hv hv⟩
  rw [Array.getElem?_toList,ky _ ak,Nat.mul_comm,Nat.mul_add_mod,Nat.mod_eq_of_lt hj]; exact hv
 ·obtain ⟨j,hj,rfl⟩:=List.getElem_of_mem hu
  have fL:j < n*zs.length:=by simpa [Dq,aT] using hj
  have h1:=ky j fL
  rw [← Array.getElem?_toList,List.getElem?_eq_getElem hj] at h1
  exact pQ _ (List.mem_of_getElem? h1.symm)
theorem Rk (hE:EnvOk P E) {ν:Nu} {tmps:List Value} {H:ax} {a:Act} {w:World} (hi:bt F ν tmps H a w) {t:TypeId} {x:Operand} {k:ax→Prop}
  (h:Nn E tmps H t x k) (ty:TypeId):∃ H' w',k H'∧bt F ν tmps H' a w'∧(Builtin.clear_ #[t] ty #[a.eval x]).run P w=.ok (.tuple #[]) w':=by
 obtain ⟨xv,J,hx⟩:=kg h (hi.lQ x)
 clear h
 obtain ⟨ti,ht,h⟩:=cI J
 clear J
 obtain ⟨d,hu,hd⟩:=(hE.ty _ _ ht).under
 split at h
 ·rename_i e hk
  rw [hk] at hd
  have hd:d=.slice e:=hd
  subst hd
  obtain ⟨te,he,J⟩:=cI h
  clear h
  have a9:=hE.ty _ _ he
  split at J
  ·rename_i id row sp n c
   obtain ⟨b,hb,h⟩:=gl J
   clear J
   split at h
   ·rename_i dg
    have dg:b.ae=te.size:=Nat.eq_of_beq_eq_true dg
    split at h
    ·rename_i N ae get _
     have dg:ae=te.size:=dg
     obtain ⟨⟨hN,cS⟩,h⟩:=h
     obtain ⟨ak,h⟩:=lJ h
     obtain ⟨l,hl,hB⟩:=hi.hp.aH id _ hb
     obtain ⟨i,im,gi,mX,z,hz,g8⟩:=a9.info
     have xk:=CR.aaW (ν:=ν) g8 (a9.self ν) a9.one (by rw [a9.len]; exact a9.bit.1) n
     rw [a9.len,← dg] at xk
     have hsc:∀ r,r < n→∀ v∈te.zero,cC v=true:=fun _ _ v hv=>dt cS v hv
     have wH:n=0∨(0 < n∧∃ c',a.eval x=.slice (some (l.at row 0)) n c'):=by
      rcases hx.Bv with ⟨l',c',cl,_,_,e⟩ | ⟨h0,_⟩
      ·rw [hl] at cl; cases cl
       rcases Nat.eq_zero_or_pos n with h | h
       ·exact .inl h
       ·exact .inr ⟨h,c',e⟩
      ·exact .inl h0
     rcases wH with h0 | ⟨kU,c',b9⟩
     ·subst h0
      have:=(hi.gZ (P:=P) hb hl (q:=row) (m:=0) hN (CR.nil _ _ (fun _=>te.zero)) (fun r hr=>absurd hr (by omega))).2
      refine ⟨_,w,h,this,?_⟩
      have:∃ o,a.eval x=.slice o 0 0∨∃ c',a.eval x=.slice o 0 c':=by
       rcases hx.Bv with ⟨l',c',_,_,_,e⟩ | ⟨_,bb,e⟩
       ·exact ⟨_,.inr ⟨_,e⟩⟩
       ·exact ⟨_,.inl e⟩
      obtain ⟨o,e | ⟨c',e⟩⟩:=this <;> rw [e] <;> cases o <;> simp [Builtin.clear_,dq hu]
     ·obtain ⟨h1,J⟩:=hi.gZ (P:=P) hb hl (q:=row) hN xk hsc
      refine ⟨_,_,h,J,?_⟩
      obtain ⟨m,rfl⟩:∃ m,n=m+1:=⟨n - 1,by omega⟩
      rw [b9]
      simp [Builtin.clear_,dq hu,vl im hz,h1]
    ·exact h.elim
   ·exact h.elim
  ·exact J.elim
 ·exact h.elim
theorem CR.pre {ν:Nu} {ae m q:Nat} {g:Nat→List Value} {L:List Value} (h:CR ν ae g m L) (hq:q≤m):CR ν ae g q (L.take (q*ae)):=by
 have hle:q*ae≤m*ae:=Nat.mul_le_mul_right _ hq
 refine ⟨by rw [List.length_take,h.len]; omega,fun r hr=>h.row r (by omega),fun r hr j v hv=>?_,fun u hu=>h.one u (List.mem_of_mem_take hu),fun r hr=>h.rR r (by omega)⟩
 obtain ⟨v',h1,J⟩:=h.cell r (by omega) j v hv
 have hj:j < ae:=by rw [← h.row r (by omega)]; exact (List.getElem?_eq_some_iff.1 hv).1
 have:(r+1)*ae≤q*ae:=Nat.mul_le_mul_right _ hr
 rw [Nat.add_mul] at this
 exact ⟨v',by rw [List.getElem?_take_of_lt (by omega)]; exact h1,J⟩
theorem Kn (hE:EnvOk P E) {ν:Nu} {tmps:List Value} {H:ax} {a:Act} {w:World} (hi:bt F ν tmps H a w) {t:TypeId} {xv yv x' y':Value} {k:Value→ax→Prop} (hx:ao ν xv x') (hy:ao ν yv y')
  (h:FA E H t xv yv k) (t2 ty:TypeId):∃ v H' w',k v H'∧ao ν v v∧bt F ν tmps H' a w'∧(Builtin.copy_ #[t,t2] ty #[x',y']).run P w=.ok v w':=by
 obtain ⟨ti,ht,J⟩:=cI h
 clear h
 obtain ⟨d,hu,hd⟩:=(hE.ty _ _ ht).under
 split at J
 ·rename_i e hk
  rw [hk] at hd
  have hd:d=.slice e:=hd
  subst hd
  obtain ⟨te,he,h⟩:=cI J
  clear J
  have a9:=hE.ty _ _ he
  obtain ⟨i,im,gi,mX,z,hz,g8⟩:=a9.info
  obtain ⟨s,J,xl,hs⟩:=Ep h
  clear h
  obtain ⟨oy,cy,L,j7,j8,hC,jF⟩:=hs ν w _ hi.hp hy
  have pR:s.jW=true→∀ r,r < s.m→∀ v∈s.get r,cC v=true:=fun h r hr v hv=>xl h r hr ν w hi.hp v hv
  split at J
  ·rename_i m news id row sp n c
   obtain ⟨b,hb,h⟩:=gl J
   clear J
   split at h
   ·rename_i dg
    have dg:b.ae=te.size:=Nat.eq_of_beq_eq_true dg
    split at h
    ·rename_i N ae get _
     have dg:ae=te.size:=dg
     obtain ⟨hN,h⟩:=h
     obtain ⟨ak,h⟩:=lJ h
     obtain ⟨l,hl,hB⟩:=hi.hp.aH id _ hb
     have y9:CR ν te.size news m L:=hC
     have Ox:Nat.min m n≤m:=Nat.min_le_left _ _
     have adq:Nat.min m n≤n:=Nat.min_le_right _ _
     have H8:CR ν ae news (Nat.min m n) (L.take (Nat.min m n*te.size)):=by rw [dg]; exact y9.pre Ox
     obtain ⟨h1,h3⟩:=hi.gZ (P:=P) hb hl (q:=row) (m:=Nat.min m n) (by omega) H8 (fun r hr=>pR rfl r (by show r < m; omega))
     have zg:y'=.slice oy m cy:=j7
     have hf:(Builtin.firstCells i.size (Nat.min m n) (.slice oy m cy)).run P w=.ok (L.take (Nat.min m n*te.size)).toArray w:=by
      cases oy with
      | none =>
       have j6:m=0:=j8 rfl
       subst j6
       have:L=[]:=List.eq_nil_of_length_eq_zero (by rw [y9.len]; simp)
       subst this
       rw [run_firstCells_none]; simp
      | some b0 =>
       refine run_firstCells_some (P:=P) w i.size (Nat.min m n) b0 m cy _ (by rw [gi]; exact (y9.pre Ox).len) fun j v hv=>jF b0 rfl j v ?_
       have:=(List.getElem?_eq_some_iff.1 hv).1
       rw [List.length_take] at this
       rw [List.getElem?_take_of_lt (by omega)] at hv
       exact hv
     rcases hx.Bv with ⟨l',c',cl,_,_,e⟩ | ⟨h0,bb,e⟩
     ·rw [hl] at cl; cases cl
      refine ⟨_,_,_,h,.int _ _,h3,?_⟩
      rw [e,zg]
      simp [Builtin.copy_,dq hu,Builtin.lenOf,sizeOf,typeInfo,im,hf,h1]
      rfl
     ·subst h0
      have hq:Nat.min m 0=0:=Nat.min_zero m
      have h4:=(hi.gZ (P:=P) hb hl (q:=row) (m:=Nat.min m 0) (news:=news) (L:=[]) (by omega) (by rw [hq]; exact CR.nil _ _ _) (fun r hr=>absurd hr (by omega))).2
      refine ⟨_,_,w,h,.int _ _,h4,?_⟩
      rw [e,zg]
      rw [hq,Nat.zero_mul,List.take_zero] at hf
      cases bb <;> simp [Builtin.copy_,dq hu,Builtin.lenOf,sizeOf,typeInfo,im,hq,hf] <;> rfl
    ·exact h.elim
   ·exact h.elim
  ·exact J.elim
 ·exact J.elim
theorem JW (hE:EnvOk P E) (bJ:kE F E) {ν:Nu} {tmps:List Value} {H:ax} {a:Act} {w:World} (hi:bt F ν tmps H a w) {t:TypeId} {xv yv x' y':Value} {k:Value→List Value→ax→Prop}
  (hx:ao ν xv x') (hy:ao ν yv y') (h:Fz E tmps H t xv yv k) (ty:TypeId) :
  ∃ v v' aj t' H' w',k v t' H'∧ao aj v v'∧bt F aj t' H' a w'∧(Builtin.append_ #[t,t] ty #[x',y']).run P w=.ok v' w'∧(AV xv=true→ν.le aj):=by
 obtain ⟨ti,ht,J⟩:=cI h
 clear h
 obtain ⟨d,hu,hd⟩:=(hE.ty _ _ ht).under
 split at J
 ·rename_i e hk
  rw [hk] at hd
  have hd:d=.slice e:=hd
  subst hd
  obtain ⟨te,he,h⟩:=cI J
  clear J
  have a9:=hE.ty _ _ he
  obtain ⟨i,im,gi,mX,z,hz,g8⟩:=a9.info
  obtain ⟨s,J,xl,hs⟩:=Ep h
  clear h
  obtain ⟨oy,cy,L,j7,j8,hC,jF⟩:=hs ν w _ hi.hp hy
  have hL:L.length=s.m*i.size:=by rw [gi]; exact hC.len
  have jd:z.cells.size=te.size:=by rw [g8]; simpa using a9.len
  have acv:=a9.bit
  have small:∀ q,q*te.bytes≤140737488355328→q≤140737488355328:=fun q hq=>by
   have:q*1≤q*te.bytes:=Nat.mul_le_mul_left _ (by omega)
   omega
  have pR:s.jW=true→∀ r,r < s.m→∀ v∈s.get r,cC v=true:=fun h r hr v hv=>xl h r hr ν w hi.hp v hv
  split at J
  ·-- onto nil
   have hx:=hx.o9
   split at J
   ·rename_i hm
    have xm:L=[]:=List.eq_nil_of_length_eq_zero (by rw [hL,hm]; simp)
    refine ⟨_,_,ν,_,_,w,J,.iY,hi,?_,fun _=>ν.le_refl⟩
    rw [hx,j7]
    have:=qR (P:=P) (w:=w) (ty:=ty) hu im (A:=none) (oy:=oy) (n:=0) (c:=0) (m:=s.m) (cy:=cy) (L:=L) hL jF j8 (by omega) (w2:=w) (fun a ha=>by cases ha) (fun _=>rfl)
    rw [hm] at this ⊢
    simpa using this
   ·rename_i m hm
    obtain ⟨hB,h⟩:=J
    have h:=lK h
    have bA:=Ac (P:=P) (w:=w) (ty:=ty) hu im hz (A:=none) (oy:=oy) (n:=0) (c:=0) (m:=s.m) (cy:=cy) (O:=[]) (L:=L) (by simp) (fun a ha=>by cases ha) (fun _=>⟨rfl,rfl⟩) hL jF j8 (by omega) (by omega) (by rw [mX,hm]; simpa using hB) (by have:=small _ hB; omega)
    have oB:ν H.length=none:=hi.fr _ (Nat.le_refl _)
    have dG:Ext (oh te.size s) te.size (fun _=>[]) 0 s.get s.m s.jW:=by
     cases s with
     | fl m g=>exact ⟨rfl,rfl,by simp [oh,ah.n,Src.m],fun r hr=>by rw [fV (by omega)]; rfl,fun _=>rfl⟩
     | ex L=>exact ⟨rfl,rfl,by simp [oh,ah.n,Src.m],fun r hr=>by rw [fV (by omega)]; rfl,fun h=>by simp [oh,ah.js] at h⟩
    have xk:=hC.mono (Nu.jN (l:=⟨w.heap.size,0,te.size,grownCap w (0+s.m) 0 e⟩) oB)
    have g9:=vt (CR.nil _ te.size (fun _=>[])) xk dG (fun h=>⟨fun r hr=>absurd hr (by omega),pR h⟩) (w:=w) jd (iw:=0) (e:=e)
    have dS:=grownCap_ge w (0+s.m) 0 e
    have cg:ao (ν.add H.length ⟨w.heap.size,0,te.size,grownCap w (0+s.m) 0 e⟩) (.slice (some ⟨H.length,0,none⟩) (m+1) aJ) (.slice (some ⟨w.heap.size,0,none⟩) (0+s.m) (grownCap w (0+s.m) 0 e)):=by
     have:=ao.slice (ν:=ν.add H.length ⟨w.heap.size,0,te.size,grownCap w (0+s.m) 0 e⟩) H.length 0 (0+s.m) aJ (grownCap w (0+s.m) 0 e) _ Nu.add_same (.inr rfl) dS (by simp)
     rw [show m+1=0+s.m by omega]
     simpa [Loc.at] using this
    have hq:=mw oB g9 (vo w _ _ _ _) (Nat.le_refl _) cg
    obtain ⟨H',h1,J⟩:=hi.quiet hq (k:=fun H'=>k _ tmps H') h
    refine ⟨_,_,_,_,_,_,h1,cg,J,?_,fun _=>Nu.jN oB⟩
    rw [hx,j7]
    simpa using bA
  ·rename_i id row n c
   obtain ⟨b,hb,h⟩:=gl J
   clear J
   obtain ⟨l,hl,hB⟩:=hi.hp.aH id b hb
   split at h
   ·rename_i dg
    have dg:b.ae=te.size:=Nat.eq_of_beq_eq_true dg
    rw [← dg] at hC jd
    -- what the slice may be
    have H9:∃ A c',x'=.slice (some A) n c'∧n≤c'∧(c'=c∨c=aJ)∧((A=l.at row 0∧row+c'≤l.cap)∨(n=0∧c'=0)):=by
     rcases hx.s6 with ⟨l',c',cl,h1,J,h3,e⟩ | ⟨h1,J,bb,e⟩
     ·rw [hl] at cl; cases cl
      exact ⟨_,c',e,J,h1,.inl ⟨rfl,h3⟩⟩
     ·exact ⟨bb,0,by rw [e,h1],by omega,J.imp (fun h=>h) (fun h=>h),.inr ⟨h1,rfl⟩⟩
    obtain ⟨A,c',b9,CP,kF,hA⟩:=H9
    -- its cells
    have hold:row+n≤b.n→∃ O,CR ν b.ae (fun j=>b.row (row+j)) n O∧∀ (j:Nat) u,O[j]?=some u→w.cell? (A.add j)=some u:=by
     intro hle
     rcases hA with ⟨rfl,_⟩ | ⟨h0,_⟩
     ·exact CR.F9 hB hle
     ·subst h0
      exact ⟨[],CR.nil _ _ _,fun j u hu=>by simp at hu⟩
    have si:b.ou=true→∀ r,r < b.n→∀ v∈b.row r,cC v=true:=fun h r hr v hv=>by
     cases b with
     | flat o n e g=>exact hB.plain rfl r hr v hv
     | aL o e rows =>
      have h:rows.all jo=true:=h
      have hr:r < rows.length:=hr
      have hv:v∈rows.getD r []:=hv
      rw [List.getD_eq_getElem?_getD,List.getElem?_eq_getElem hr] at hv
      exact xz (List.all_eq_true.1 h _ (List.getElem_mem hr)) v hv
     | bZ r=>cases h
    have lW:(b.ou && s.jW)=true→(∀ r,r < b.n→∀ v∈b.row r,cC v=true)∧∀ r,r < s.m→∀ v∈s.get r,cC v=true:=fun h=>by
     rw [Bool.and_eq_true] at h; exact ⟨si h.1,pR h.2⟩
    -- in its place
    have FB:∀ b' (q:Nat),b.nz=true→Ext b' b.ae b.row q s.get s.m (b.ou && s.jW)→row+n=q→q≤b.n→n+s.m≤c'→∃ w2,(Builtin.append_ #[t,t] ty #[x',y']).run P w=.ok (.slice (some A) (n+s.m) c') w2 ∧
      bN ν l b' w2∧Kept F.O F.W w2∧w.heap.size≤w2.heap.size∧∀ q,q≠l.aH→w2.heap[q]?=w.heap[q]?:=by
     intro b' q ho dG zh qe cJ
     rcases hA with ⟨rfl,fx⟩ | ⟨h0,nM⟩
     ·obtain ⟨h1,J⟩:=hB.extend (P:=P) ho qe hC dG lW (by omega)
      refine ⟨_,?_,J,hi.kp.setCells (hi.own id b l hb (ah.cQ ho).1 hl) _ _,by rw [n3]; exact Nat.le_refl _,fun q hq=>qO _ _ _ _ _ hq⟩
      rw [b9,j7]
      refine qR (P:=P) hu im hL jF j8 cJ (fun A' sj=>?_) (fun h=>by cases h)
      cases sj
      have:(l.at row 0).add (n*i.size)=l.at q 0:=by
       rw [Loc.jt]; unfold Loc.at; congr 1
       rw [hB.ae,← zh,Nat.add_mul,gi,dg]; omega
      rw [this]; exact h1
     ·have j6:s.m=0:=by omega
      have xm:L=[]:=List.eq_nil_of_length_eq_zero (by rw [hL,j6]; simp)
      refine ⟨w,?_,?_,hi.kp,Nat.le_refl _,fun _ _=>rfl⟩
      ·rw [b9,j7]
       refine qR (P:=P) hu im hL jF j8 cJ (fun A' sj=>by rw [xm]; rfl) (fun h=>by cases h)
      ·have dZ:b'.n=q:=by rw [dG.num,j6]; rfl
       have aX:∀ r,r < q→b'.row r=b.row r:=fun r hr=>by rw [dG.row r (by omega),iN hr]
       exact ⟨by rw [dG.ae]; exact hB.ae,fun r hr=>by rw [dZ] at hr; rw [aX r hr,dG.ae]; exact hB.len r (by omega),
        fun r hr j v hv=>by rw [dZ] at hr; rw [aX r hr] at hv; exact hB.cell r (by omega) j v hv,
        fun h r hr v hv=>by rw [dZ] at hr; rw [aX r hr] at hv; exact (lW (dG.flat h)).1 r (by omega) v hv,
        fun r hr v hv=>by rw [dZ] at hr; rw [aX r hr] at hv; exact hB.one r (by omega) v hv,
        fun _ _=>by obtain ⟨cur,tt,q1,q2,q3⟩:=hB.own (ah.cQ ho).1 (ah.cQ ho).2; exact ⟨cur,tt,q1,q2,by rw [dZ]; omega⟩,(fun r h=>by rw [(ah.cQ dG.own).2] at h; cases h),hB.live⟩
    have Oy:n+s.m≤c'→∀ aj,aj id=some l→ao aj (.slice (some ⟨id,row,none⟩) (n+s.m) c) (.slice (some A) (n+s.m) c'):=by
     intro cJ aj cl
     rcases hA with ⟨rfl,fx⟩ | ⟨h0,nM⟩
     ·exact .slice _ _ _ _ _ l cl kF cJ fx
     ·have j6:s.m=0:=by omega
      subst nM
      rw [h0,j6]
      exact .void _ _ _ _ kF
    have grow:(n+s.m)*te.bytes≤140737488355328→c' < n+s.m→∀ O,O.length=n*i.size→(∀ (j:Nat) u,O[j]?=some u→w.cell? (A.add j)=some u) →
      (Builtin.append_ #[t,t] ty #[x',y']).run P w=.ok (.slice (some ⟨w.heap.size,0,none⟩) (n+s.m) (grownCap w (n+s.m) c' e)) (w.drew.alloc (s8 (O++L).toArray z (grownCap w (n+s.m) c' e - (n+s.m)) e)):=by
     intro hB cJ O hO1 hO2
     rw [b9,j7]
     exact Ac (P:=P) (w:=w) (ty:=ty) hu im hz hO1 (fun a ha=>by cases ha; exact hO2) (fun h=>by cases h) hL jF j8 CP cJ (by rw [mX]; exact hB) (small _ hB)
    -- a block that stays
    have CQ:row+n=b.n→n+s.m≤c'→(vX b s fun b'=>iZ H id (some b') fun H'=>k (.slice (some ⟨id,row,none⟩) (n+s.m) c) tmps H') →
      ∃ v v' aj t' H' w',k v t' H'∧ao aj v v'∧bt F aj t' H' a w'∧(Builtin.append_ #[t,t] ty #[x',y']).run P w=.ok v' w'∧ν.le aj:=fun zh cJ h=>by
     obtain ⟨b',h,ho,dG⟩:=Ad h
     obtain ⟨ak,h⟩:=lJ h
     obtain ⟨w2,bA,g9,jf,oM,nD⟩:=FB b' _ ho dG zh (Nat.le_refl _) cJ
     refine ⟨_,_,ν,_,_,w2,h,Oy cJ ν hl,⟨hi.tm,(let ⟨_,_,tS,_⟩:=hB.own (ah.cQ ho).1 (ah.cQ ho).2; hi.df.gh tS nD),?_,fun j hj=>hi.fr j (by simpa using hj),jf,fun j bj lj hj nL cU=>?_,hi.mono⟩,bA,ν.le_refl⟩
     ·refine hi.hp.gh (id:=id) (fun _ _=>rfl) (fun j bj hj aI=>?_) (fun bj hj=>?_)
      ·rw [List.getElem?_set_ne (Ne.symm aI)] at hj
       refine ⟨bj,hj,rfl,fun lj cU p9=>p9.same (nD _ ?_) oM⟩
       exact Ne.symm (hi.hp.sep id j b bj l lj hb hj (Ne.symm aI) (ah.cQ ho).1 hl cU)
      ·rw [List.getElem?_set_self ak] at hj
       cases hj
       exact ⟨l,hl,g9,fun j lj bj aI hj cU=>Ne.symm (hi.hp.sep id j b bj l lj hb hj (Ne.symm aI) (ah.cQ ho).1 hl cU)⟩
     ·by_cases e':j=id
      ·subst e'; rw [hl] at cU; cases cU; exact hi.own j b l hb (ah.cQ ho).1 hl
      ·rw [List.getElem?_set_ne (Ne.symm e')] at hj; exact hi.own j bj lj hj nL cU
    -- a new block
    have CS:row+n≤b.n→(n+s.m)*te.bytes≤140737488355328→c' < n+s.m→(BT b row n s fun b'=>ja H fun aE=>oq H (some b') fun H'=>k (.slice (some ⟨aE,0,none⟩) (n+s.m) aJ) tmps H') →
      ∃ v v' aj t' H' w',k v t' H'∧ao aj v v'∧bt F aj t' H' a w'∧(Builtin.append_ #[t,t] ty #[x',y']).run P w=.ok v' w'∧ν.le aj:=fun hle ll cJ h=>by
     obtain ⟨b',h,dG⟩:=Km h
     have h:=lK h
     obtain ⟨O,hO,qf⟩:=hold hle
     have bA:=grow ll cJ O (by rw [hO.len,gi,dg]) qf
     have oB:ν H.length=none:=hi.fr _ (Nat.le_refl _)
     have kz:=Nu.jN (l:=⟨w.heap.size,0,b.ae,grownCap w (n+s.m) c' e⟩) oB
     have g9:=vt (hO.mono kz) (hC.mono kz) dG (fun h=>⟨fun r hr v hv=>(lW h).1 (row+r) (by omega) v hv,(lW h).2⟩) (w:=w) jd (iw:=c') (e:=e)
     have dS:=grownCap_ge w (n+s.m) c' e
     have cg:ao (ν.add H.length ⟨w.heap.size,0,b.ae,grownCap w (n+s.m) c' e⟩) (.slice (some ⟨H.length,0,none⟩) (n+s.m) aJ) (.slice (some ⟨w.heap.size,0,none⟩) (n+s.m) (grownCap w (n+s.m) c' e)):=by
      have:=ao.slice (ν:=ν.add H.length ⟨w.heap.size,0,b.ae,grownCap w (n+s.m) c' e⟩) H.length 0 (n+s.m) aJ (grownCap w (n+s.m) c' e) _ Nu.add_same (.inr rfl) dS (by simp)
      simpa [Loc.at] using this
     have hq:=mw oB g9 (vo w _ _ _ _) (Nat.le_refl _) cg
     obtain ⟨H',h1,J⟩:=hi.quiet hq (k:=fun H'=>k _ tmps H') h
     exact ⟨_,_,_,_,_,_,h1,cg,J,bA,kz⟩
    -- a block that is put in place of the old one
    have Hh:∀ b1:ah,b.nz=true→Ext b1 b.ae b.row n s.get s.m (b.ou && s.jW)→c=aJ→row=0→E.base≤id→n≤b.n→(n+s.m)*te.bytes≤140737488355328 →
      (yy id b1 fun b'=>∃ aa,∀ a:Nat→Value,tQ a id aa 0 tmps fun yz=>wF id H fun H1=>iZ H1 id (some b') fun H'=>k (.slice (some ⟨id,0,none⟩) (n+s.m) aJ) yz H') →
      ∃ v v' aj t' H' w',k v t' H'∧ao aj v v'∧bt F aj t' H' a w'∧(Builtin.append_ #[t,t] ty #[x',y']).run P w=.ok v' w':=fun b1 ho dG fo aaX BU dZ ll sA=>by
     subst aaX
     obtain ⟨b',h,ho1,Pn⟩:=Kk sA
     obtain ⟨aa,h⟩:=h
     obtain ⟨af,Ia⟩:=MD hi.tm
     obtain ⟨t',h,jg⟩:=DS (h af) ν _ hi.tm (fun j y hy aj=>by rw [Nat.zero_add]; exact Ia j y hy aj)
     obtain ⟨H1,h,lh,CT⟩:=DT h
     obtain ⟨ak,h⟩:=lJ h
     by_cases cJ:n+s.m≤c'
     ·obtain ⟨w2,bA,g9,jf,oM,nD⟩:=FB b1 _ ho dG (Nat.zero_add n) dZ cJ
      have g9:=Pn ν ν l w2 (fun _ _=>rfl) g9
      have hv:=Oy cJ ν hl
      rw [fo] at hv
      refine ⟨_,_,ν,_,_,w2,h,hv,⟨jg ν (fun _ _=>rfl),(let ⟨_,_,tS,_⟩:=hB.own (ah.cQ ho).1 (ah.cQ ho).2; hi.df.gh tS nD),?_,fun j hj=>hi.fr j (by simpa [lh] using hj),jf,fun j bj lj hj nL cU=>?_,hi.mono⟩,bA⟩
      ·refine hi.hp.gh (id:=id) (fun _ _=>rfl) (fun j bj hj aI=>?_) (fun bj hj=>?_)
       ·rw [List.getElem?_set_ne (Ne.symm aI)] at hj
        obtain ⟨b0,j9,uK,sA⟩:=CT j bj hj
        refine ⟨b0,j9,uK,fun lj cU p9=>sA ν ν lj w2 (fun _ _=>rfl) (p9.same (nD _ ?_) oM)⟩
        exact Ne.symm (hi.hp.sep id j b b0 l lj hb j9 (Ne.symm aI) (ah.cQ ho).1 hl cU)
       ·rw [List.getElem?_set_self ak] at hj
        cases hj
        exact ⟨l,hl,g9,fun j lj bj aI hj cU=>Ne.symm (hi.hp.sep id j b bj l lj hb hj (Ne.symm aI) (ah.cQ ho).1 hl cU)⟩
      ·by_cases e':j=id
       ·subst e'; rw [hl] at cU; cases cU; exact hi.own j b l hb (ah.cQ ho).1 hl
       ·rw [List.getElem?_set_ne (Ne.symm e')] at hj
        obtain ⟨b0,j9,uK,_⟩:=CT j bj hj
        exact hi.own j b0 lj j9 (by rw [← uK]; exact nL) cU
     ·have cJ:c' < n+s.m:=by omega
      obtain ⟨O,hO,qf⟩:=hold (by omega)
      have bA:=grow ll cJ O (by rw [hO.len,gi,dg]) qf
      have dS:=grownCap_ge w (n+s.m) c' e
      have gD:ν.off (ν.add id ⟨w.heap.size,0,b.ae,grownCap w (n+s.m) c' e⟩) id:=fun j hj=>Nu.iD hj
      have Hi:=vo w (O++L).toArray z (grownCap w (n+s.m) c' e - (n+s.m)) e
      have Ib:CR ν b.ae b.row n O:=hO.congr (fun r hr=>by simp)
      have g9:bN ν ⟨w.heap.size,0,b.ae,grownCap w (n+s.m) c' e⟩ b1 _:=vt Ib hC dG (fun h=>⟨fun r hr v hv=>(lW h).1 r (by omega) v hv,(lW h).2⟩) (w:=w) jd (iw:=c') (e:=e)
      have hF:F.ν.le (ν.add id ⟨w.heap.size,0,b.ae,grownCap w (n+s.m) c' e⟩):=by
       intro j lj hj
       have aI:j≠id:=by
        intro e'
        subst e'
        rw [F.fresh j (by have:=bJ.n0; omega)] at hj
        cases hj
       rw [Nu.iD aI]; exact hi.mono j lj hj
      have cg:ao (ν.add id ⟨w.heap.size,0,b.ae,grownCap w (n+s.m) c' e⟩) (.slice (some ⟨id,0,none⟩) (n+s.m) aJ) (.slice (some ⟨w.heap.size,0,none⟩) (n+s.m) (grownCap w (n+s.m) c' e)):=by
       have:=ao.slice (ν:=ν.add id ⟨w.heap.size,0,b.ae,grownCap w (n+s.m) c' e⟩) id 0 (n+s.m) aJ (grownCap w (n+s.m) c' e) _ Nu.add_same (.inr rfl) dS (by simp)
       simpa [Loc.at] using this
      have pS:id < H.length:=by rw [← lh]; exact ak
      refine ⟨_,_,ν.add id ⟨w.heap.size,0,b.ae,grownCap w (n+s.m) c' e⟩,_,_,_,h,cg,⟨jg _ gD,hi.df.below Hi,?_,fun j hj=>?_,hi.kp.below Hi,fun j bj lj hj nL cU=>?_,hF⟩,bA⟩
      ·refine hi.hp.gh (id:=id) gD (fun j bj hj aI=>?_) (fun bj hj=>?_)
       ·rw [List.getElem?_set_ne (Ne.symm aI)] at hj
        obtain ⟨b0,j9,uK,sA⟩:=CT j bj hj
        exact ⟨b0,j9,uK,fun lj cU p9=>sA ν _ lj _ gD (p9.below Hi)⟩
       ·rw [List.getElem?_set_self ak] at hj
        cases hj
        refine ⟨_,Nu.add_same,Pn ν _ _ _ gD g9,fun j lj bj aI hj cU=>?_⟩
        obtain ⟨lj',e1,e2⟩:=hi.hp.aH j bj hj
        rw [cU] at e1; cases e1
        have:=e2.live
        simp only
        omega
      ·have hj:H.length≤j:=by simpa [lh] using hj
       rw [Nu.iD (by omega)]; exact hi.fr j hj
      ·by_cases e':j=id
       ·subst e'
        rw [Nu.add_same] at cU
        cases cU
        exact .inr hi.kp.size
       ·rw [List.getElem?_set_ne (Ne.symm e')] at hj
        obtain ⟨b0,j9,uK,_⟩:=CT j bj hj
        rw [Nu.iD e'] at cU
        exact hi.own j b0 lj j9 (by rw [← uK]; exact nL) cU
    split at h
    ·rename_i fo
     have fo:c≠aJ:=of_decide_eq_false fo
     have hc:c'=c:=kF.resolve_right fo
     cases rQ:Nat.ble (n+s.m) c with
     | true =>
      have cJ:=Nat.le_of_ble_eq_true rQ
      obtain ⟨zh,h⟩:=Bb h rQ
      obtain ⟨v,v',aj,t',H',w',h1,J,h3,h4,h5⟩:=CQ zh (by omega) h
      exact ⟨v,v',aj,t',H',w',h1,J,h3,h4,fun _=>h5⟩
     | false =>
      have cJ:c < n+s.m:=by
       rcases Nat.lt_or_ge c (n+s.m) with h' | h'
       ·exact h'
       ·rw [Nat.ble_eq_true_of_le h'] at rQ; cases rQ
      obtain ⟨⟨hle,ll⟩,h⟩:=AS h rQ
      obtain ⟨v,v',aj,t',H',w',h1,J,h3,h4,h5⟩:=CS hle ll (by omega) h
      exact ⟨v,v',aj,t',H',w',h1,J,h3,h4,fun _=>h5⟩
    ·rename_i fo
     have fo:c=aJ:=of_decide_eq_true fo
     have nx:AV (.slice (some ⟨id,row,none⟩) n c)=true→False:=fun hx=>by rw [fo] at hx; simp [AV] at hx
     split at h
     ·have zi:row=0:=by
       cases row with
       | zero=>rfl
       | succ r=>exact h.elim
      clear CQ CS
      subst zi
      obtain ⟨⟨BU,⟨dZ,ho⟩,ll⟩,h⟩:=h
      obtain ⟨b1,h,dG⟩:=Km h
      obtain ⟨v,v',aj,t',H',w',h1,J,h3,h4⟩:=Hh b1 ho (by simpa using dG) fo rfl BU dZ ll h
      exact ⟨v,v',aj,t',H',w',h1,J,h3,h4,fun hx=>(nx hx).elim⟩
     ·split at h
      ·have zi:row=0:=by
        cases row with
        | zero=>rfl
        | succ r=>exact h.elim
       clear CQ CS
       subst zi
       obtain ⟨⟨BU,dZ,ll⟩,h⟩:=h
       obtain ⟨b1,h,ho,dG⟩:=Ad h
       obtain ⟨v,v',aj,t',H',w',h1,J,h3,h4⟩:=Hh b1 ho (by rw [dZ]; exact dG) fo rfl BU (Nat.le_of_eq dZ) ll h
       exact ⟨v,v',aj,t',H',w',h1,J,h3,h4,fun hx=>(nx hx).elim⟩
      ·have zi:row=0:=by
        cases row with
        | zero=>rfl
        | succ r=>exact h.elim
       clear CQ CS Hh
       subst zi
       obtain ⟨⟨dZ,ll⟩,h⟩:=h
       obtain ⟨b',h,ho,dG⟩:=Ad h
       obtain ⟨ak,h⟩:=lJ h
       have h:=lK h
       have gk:bt F ν tmps (H.set id none) a w:=by
        have hle:ax.le (H.set id none) H:=fun j bj hj=>by
         by_cases e':j=id
         ·subst e'; rw [List.getElem?_set_self ak] at hj; cases hj
         ·rw [List.getElem?_set_ne (Ne.symm e')] at hj; exact hj
        exact ⟨hi.tm,hi.df,hi.hp.rD hle,fun j hj=>hi.fr j (by simpa using hj),hi.kp,fun j bj lj hj nL cU=>hi.own j bj lj (hle j bj hj) nL cU,hi.mono⟩
       have oB:ν (H.set id none).length=none:=gk.fr _ (Nat.le_refl _)
       have iw:∀ j bj,(H.set id none)[j]?=some (some bj)→j≠id∧H[j]?=some (some bj):=fun j bj hj=>by
        by_cases e':j=id
        ·subst e'; rw [List.getElem?_set_self ak] at hj; cases hj
        ·rw [List.getElem?_set_ne (Ne.symm e')] at hj; exact ⟨e',hj⟩
       by_cases cJ:n+s.m≤c'
       ·obtain ⟨w2,bA,g9,jf,oM,nD⟩:=FB b' _ ho dG (by rw [dZ]; simp) (Nat.le_refl _) cJ
        have h:=xG h
        have kz:=Nu.jN (l:=l) oB
        have x9:∀ j bj,(H.set id none++[some b'])[j]?=some (some bj)→(j < (H.set id none).length∧j≠id∧H[j]?=some (some bj))∨(j=(H.set id none).length∧bj=b'):=fun j bj hj=>by
         rw [List.getElem?_append] at hj
         split at hj
         ·rename_i Hj
          exact .inl ⟨Hj,iw j bj hj⟩
         ·rename_i dS
          have:j - (H.set id none).length=0:=by
           rcases Nat.lt_or_ge (j - (H.set id none).length) 1 with h' | h'
           ·omega
           ·rw [List.getElem?_eq_none (by simpa using h')] at hj; cases hj
          rw [this] at hj
          cases hj
          exact .inr ⟨by omega,rfl⟩
        have hv:ao (ν.add (H.set id none).length l) (.slice (some ⟨(H.set id none).length,0,none⟩) (n+s.m) aJ) (.slice (some A) (n+s.m) c'):=by
         rcases hA with ⟨rfl,fx⟩ | ⟨h0,nM⟩
         ·exact .slice _ _ _ _ _ l Nu.add_same (.inr rfl) cJ fx
         ·have j6:s.m=0:=by omega
          subst nM
          rw [h0,j6]
          exact .void _ _ _ _ (.inr rfl)
        refine ⟨_,_,ν.add (H.set id none).length l,_,_,w2,h,hv,⟨hi.tm.mono kz,(let ⟨_,_,tS,_⟩:=hB.own (ah.cQ ho).1 (ah.cQ ho).2; hi.df.gh tS nD),⟨fun j bj hj=>?_,fun i j bi bj li lj h1 J aI xj e1 e2=>?_⟩,fun j hj=>?_,jf,fun j bj lj hj nL cU=>?_,Nu.le_trans hi.mono kz⟩,bA,fun hx=>(nx hx).elim⟩
        ·rcases x9 j bj hj with ⟨q1,q2,q3⟩ | ⟨q1,q2⟩
         ·obtain ⟨lj,e1,e2⟩:=hi.hp.aH j bj q3
          refine ⟨lj,kz _ _ e1,(e2.same (nD _ ?_) oM).mono kz⟩
          exact Ne.symm (hi.hp.sep id j b bj l lj hb q3 (Ne.symm q2) (ah.cQ ho).1 hl e1)
         ·subst q1; subst q2
          exact ⟨l,Nu.add_same,g9.mono kz⟩
        ·rcases x9 i bi h1 with ⟨q1,q2,q3⟩ | ⟨q1,q2⟩
         ·rw [Nu.iD (by omega)] at e1
          rcases x9 j bj J with ⟨p1,p2,p3⟩ | ⟨p1,p2⟩
          ·rw [Nu.iD (by omega)] at e2
           exact hi.hp.sep i j bi bj li lj q3 p3 aI xj e1 e2
          ·subst p1
           rw [Nu.add_same] at e2; cases e2
           exact Ne.symm (hi.hp.sep id i b bi l li hb q3 (Ne.symm q2) (ah.cQ ho).1 hl e1)
         ·subst q1
          rw [Nu.add_same] at e1; cases e1
          rcases x9 j bj J with ⟨p1,p2,p3⟩ | ⟨p1,p2⟩
          ·rw [Nu.iD (by omega)] at e2
           exact hi.hp.sep id j b bj l lj hb p3 (Ne.symm p2) (ah.cQ ho).1 hl e2
          ·exact absurd p1.symm aI
        ·have hj:H.length+1≤j:=by simpa using hj
         rw [Nu.iD (by simp; omega)]; exact hi.fr j (by omega)
        ·rcases x9 j bj hj with ⟨q1,q2,q3⟩ | ⟨q1,q2⟩
         ·rw [Nu.iD (by omega)] at cU
          exact hi.own j bj lj q3 nL cU
         ·subst q1
          rw [Nu.add_same] at cU; cases cU
          exact hi.own id b l hb (ah.cQ ho).1 hl
       ·obtain ⟨O,hO,qf⟩:=hold (by omega)
        have bA:=grow ll (by omega) O (by rw [hO.len,gi,dg]) qf
        have kz:=Nu.jN (l:=⟨w.heap.size,0,b.ae,grownCap w (n+s.m) c' e⟩) oB
        have Ib:CR ν b.ae b.row n O:=hO.congr (fun r hr=>by simp)
        have Hk:Ext b' b.ae b.row n s.get s.m (b.ou && s.jW):=by rw [dZ]; exact dG
        have g9:=vt (Ib.mono kz) (hC.mono kz) Hk (fun h=>⟨fun r hr v hv=>(lW h).1 r (by omega) v hv,(lW h).2⟩) (w:=w) jd (iw:=c') (e:=e)
        have dS:=grownCap_ge w (n+s.m) c' e
        have cg:ao (ν.add (H.set id none).length ⟨w.heap.size,0,b.ae,grownCap w (n+s.m) c' e⟩) (.slice (some ⟨(H.set id none).length,0,none⟩) (n+s.m) aJ) (.slice (some ⟨w.heap.size,0,none⟩) (n+s.m) (grownCap w (n+s.m) c' e)):=by
         have:=ao.slice (ν:=ν.add (H.set id none).length ⟨w.heap.size,0,b.ae,grownCap w (n+s.m) c' e⟩) (H.set id none).length 0 (n+s.m) aJ (grownCap w (n+s.m) c' e) _ Nu.add_same (.inr rfl) dS (by simp)
         simpa [Loc.at] using this
        have hq:=mw oB g9 (vo w _ _ _ _) (Nat.le_refl _) cg
        obtain ⟨H',h1,J⟩:=gk.quiet hq (k:=fun H'=>k _ tmps H') h
        exact ⟨_,_,_,_,_,_,h1,cg,J,bA,fun hx=>(nx hx).elim⟩
   ·exact h.elim
  ·rename_i id row b0 n c
   obtain ⟨b,hb,h⟩:=gl J
   clear J
   split at h
   ·rename_i dg
    have dg:b.ae=te.size:=Nat.eq_of_beq_eq_true dg
    split at h
    ·rename_i N ae get m news _
     have dg:ae=te.size:=dg
     obtain ⟨⟨gJ,hN⟩,h⟩:=h
     obtain ⟨ak,h⟩:=lJ h
     obtain ⟨l,hl,hB⟩:=hi.hp.aH id _ hb
     rw [ar] at h
     have H8:CR ν ae news m L:=by rw [dg]; exact hC
     have uL:∀ r,r < m→∀ v∈news r,cC v=true:=pR rfl
     obtain ⟨h1,J⟩:=hi.gZ (P:=P) hb hl (q:=row+n) (m:=m) (by omega) H8 uL
     have zg:y'=.slice oy m cy:=j7
     have Ic:L.length=m*i.size:=hL
     have Oz:oy=none→m=0:=j8
     rcases hx.VL with ⟨l',c',cl,h3,h4,h5,fo,e⟩ | ⟨h3,h4,fo,bb,e⟩
     ·rw [hl] at cl; cases cl
      subst fo
      refine ⟨_,_,ν,_,_,_,h,.lg _ _ _ _ c' l hl h3 (by omega) h5,J,?_,fun _=>ν.le_refl⟩
      rw [e,zg]
      refine qR (P:=P) hu im Ic jF Oz (by omega) (fun A' sj=>?_) (fun h=>by cases h)
      cases sj
      have e2:(l.at row 0).add (n*i.size)=l.at (row+n) 0:=by
       rw [Loc.jt]; unfold Loc.at; congr 1
       rw [show l.ae=ae from hB.ae,gi,Nat.add_mul,dg]; omega
      rw [e2]; exact h1
     ·have j6:m=0:=by omega
      subst fo
      subst h3
      subst j6
      subst h4
      have xm:L=[]:=List.eq_nil_of_length_eq_zero (by rw [Ic]; simp)
      subst xm
      refine ⟨_,_,ν,_,_,w,h,.ku _ _ bb,J,?_,fun _=>ν.le_refl⟩
      rw [e,zg]
      exact qR (P:=P) hu im Ic jF Oz (by omega) (fun A' sj=>rfl) (fun h=>by cases h)
    ·exact h.elim
   ·exact h.elim
  ·exact J.elim
 ·exact J.elim
theorem QQ (hE:EnvOk P E) (bJ:kE F E) {ν:Nu} {tmps:List Value} {H:ax} {a:Act} {w:World} (hi:bt F ν tmps H a w) {t:TypeId} {x y:Operand} {k:Value→List Value→ax→Prop}
  (h:ME E tmps H t x y k) (ty:TypeId):∃ v v' aj t' H' w',k v t' H'∧ao aj v v'∧bt F aj t' H' a w'∧(Builtin.append_ #[t,t] ty #[a.eval x,a.eval y]).run P w=.ok v' w':=by
 obtain ⟨xv,J,hx⟩:=kg h (hi.lQ x)
 clear h
 obtain ⟨yv,h,hy⟩:=kg J (hi.lQ y)
 obtain ⟨v,v',aj,t',H',w',h1,J,h3,h4,_⟩:=JW hE bJ hi hx hy h ty
 exact ⟨v,v',aj,t',H',w',h1,J,h3,h4⟩
end
end Go.Ae
/- Blocks that are not wanted any more are dropped, the others numbered anew. -/
namespace Go.Ae
open Go Go.RowKit
def wZ:List Nat→Nat→Nat→Option Nat
 | [],_,_=>none
 | a::l,id,k=>match Nat.beq a id with
  | true=>some k
  | false=>wZ l id (k+1)
theorem K7:∀ {l:List Nat} {id k j:Nat},wZ l id k=some j→k≤j∧l[j - k]?=some id
 | [],id,k,j,h=>by cases h
 | a::l,id,k,j,h=>by
  unfold wZ at h
  split at h
  ·rename_i e
   cases h
   exact ⟨Nat.le_refl _,by simp [Nat.eq_of_beq_eq_true e]⟩
  ·obtain ⟨h1,J⟩:=K7 h
   refine ⟨by omega,?_⟩
   rw [show j - k=(j - (k+1))+1 by omega,List.getElem?_cons_succ]; exact J
def gE (σ:List Nat):Nat→Value→Option Value
 | 0,_=>none
 | k+1,v=>match v with
  | .bool b=>some (.bool b)
  | .int q n=>some (.int q n)
  | .string s=>some (.string s)
  | .pointer none=>some (.pointer none)
  | .pointer (some ⟨id,row,sp⟩)=>match wZ σ id 0 with | some j=>some (.pointer (some ⟨j,row,sp⟩)) | none=>some (.chan none)
  | .slice none n c=>some (.slice none n c)
  | .slice (some ⟨id,row,sp⟩) n c=>match wZ σ id 0 with | some j=>some (.slice (some ⟨j,row,sp⟩) n c) | none=>some (.chan none)
  | .nilFunc=>some .nilFunc
  | .chan none=>some (.chan none)
  | .agg ⟨l⟩=>match l.foldr (fun v acc=>match gE σ k v,acc with | some x,some xs=>some (x::xs) | _,_=>none) (some []) with | some l'=>some (.agg ⟨l'⟩) | none=>none
  | .tuple ⟨l⟩=>match l.foldr (fun v acc=>match gE σ k v,acc with | some x,some xs=>some (x::xs) | _,_=>none) (some []) with | some l'=>some (.tuple ⟨l'⟩) | none=>none
  | .func fn ⟨l⟩ ⟨m⟩=>match l.foldr (fun v acc=>match gE σ k v,acc with | some x,some xs=>some (x::xs) | _,_=>none) (some []),m.foldr (fun v acc=>match gE σ k v,acc with | some x,some xs=>some (x::xs) | _,_=>none) (some []) with
   | some l',some m'=>some (.func fn ⟨l'⟩ ⟨m'⟩) | _,_=>none
  | _=>none
def mR (σ:List Nat) (k:Nat) (l:List Value):Option (List Value):=l.foldr (fun v acc=>match gE σ k v,acc with | some x,some xs=>some (x::xs) | _,_=>none) (some [])
theorem Er {σ:List Nat} {m:Nat} {x:Value} {xs l:List Value} (h:mR σ m (x::xs)=some l):∃ y ys,l=y::ys∧gE σ m x=some y∧mR σ m xs=some ys:=by
 unfold mR at h
 rw [List.foldr_cons] at h
 split at h
 ·rename_i y ys h1 J
  exact ⟨y,ys,(Option.some.inj h).symm,h1,J⟩
 ·cases h
theorem xQ {σ:List Nat} {m:Nat} {ν aj:Nu} (h:∀ v v2 r,gE σ m v=some v2→ao ν v r→ao aj v2 r):∀ {xs l rs:List Value},mR σ m xs=some l→bc ν xs rs→bc aj l rs
 | [],l,rs,h1,J=>by
  have:l=[]:=by simp [mR] at h1; exact h1
  rw [this,J.iC]; exact .nil _
 | x::xs,l,rs,h1,J=>by
  obtain ⟨y,ys,rfl,e1,e2⟩:=Er h1
  obtain ⟨r,bX,rfl,k1,k2⟩:=J.iQ
  exact .cons (h _ _ _ e1 k1) (xQ h e2 k2)
theorem Ga {σ:List Nat} {id j:Nat} {ν:Nu} (h:wZ σ id 0=some j):(ν.comp σ) j=ν id:=by
 have:=(K7 h).2
 rw [Nat.sub_zero] at this
 simp [Nu.comp,this]
theorem LR {σ:List Nat} {ν:Nu}:∀ (m:Nat) (v v2 r:Value),gE σ m v=some v2→ao ν v r→ao (ν.comp σ) v2 r:=by
 intro m
 induction m with
 | zero=>intro v v2 r h; simp [gE] at h
 | succ m ih =>
  intro v v2 r h hr
  cases hr with
  | bool b=>cases h; exact .bool b
  | int q n=>cases h; exact .int q n
  | str s=>cases h; exact .str s
  | lS=>cases h; exact .lS
  | ptr id row sp l hl =>
   unfold gE at h
   dsimp only at h
   split at h
   ·rename_i j hj
    cases h
    exact .ptr j row sp l (by rw [Ga hj]; exact hl)
   ·cases h; exact .dead _ rfl
  | iY=>cases h; exact .iY
  | slice id row n c c' l hl hc hn hr =>
   unfold gE at h
   dsimp only at h
   split at h
   ·rename_i j hj
    cases h
    exact .slice j row n c c' l (by rw [Ga hj]; exact hl) hc hn hr
   ·cases h; exact .dead _ rfl
  | void id row c a hc =>
   unfold gE at h
   dsimp only at h
   split at h
   ·cases h; exact .void _ row c a hc
   ·cases h; exact .dead _ rfl
  | lg id row m' n c' l hl hm hn hr =>
   unfold gE at h
   dsimp only at h
   split at h
   ·rename_i j hj
    cases h
    exact .lg j row m' n c' l (by rw [Ga hj]; exact hl) hm hn hr
   ·cases h; exact .dead _ rfl
  | ku id row a =>
   unfold gE at h
   dsimp only at h
   split at h
   ·cases h; exact .ku _ row a
   ·cases h; exact .dead _ rfl
  | lT=>cases h; exact .lT
  | func fn xs ys mW c5 h1 J h3 h4 =>
   unfold gE at h
   dsimp only at h
   split at h
   ·rename_i l1 l2 e1 e2
    cases h
    have t1:=xQ ih e1 ⟨h1,J⟩
    have t2:=xQ ih e2 ⟨h3,h4⟩
    exact .func _ _ _ _ _ t1.1 t1.2 t2.1 t2.2
   ·cases h
  | agg xs ys h1 J =>
   unfold gE at h
   dsimp only at h
   split at h
   ·rename_i l1 e1
    cases h
    have t1:=xQ ih e1 ⟨h1,J⟩
    exact .agg _ _ t1.1 t1.2
   ·cases h
  | tuple xs ys h1 J =>
   unfold gE at h
   dsimp only at h
   split at h
   ·rename_i l1 e1
    cases h
    have t1:=xQ ih e1 ⟨h1,J⟩
    exact .tuple _ _ t1.1 t1.2
   ·cases h
  | dead w hw=>cases h; exact .dead _ (by assumption)
theorem Uj {σ:List Nat} {m:Nat} {v v2:Value} (h:gE σ m v=some v2) (h1:v.oneCell'=true):v2.oneCell'=true:=by
 cases m with
 | zero=>simp [gE] at h
 | succ m =>
  unfold gE at h
  split at h
  all_goals first
   | (exfalso; simp [Value.oneCell'] at h1; done)
   | (cases h; rfl)
   | (split at h <;> first | (cases h; rfl) | cases h)
   | cases h
theorem E4 {σ:List Nat} {m:Nat} {p:Value→Prop} (hp:∀ v v2,gE σ m v=some v2→p v→p v2):∀ {xs l:List Value},mR σ m xs=some l→(∀ v∈xs,p v)→(l.length=xs.length∧∀ v∈l,p v)
 | [],l,h,_=>by
  have:l=[]:=by simp [mR] at h; exact h
  subst this
  exact ⟨rfl,fun v hv=>by simp at hv⟩
 | x::xs,l,h,hx=>by
  obtain ⟨y,ys,rfl,e1,e2⟩:=Er h
  obtain ⟨h1,J⟩:=E4 hp e2 (fun v hv=>hx v (by simp [hv]))
  refine ⟨by simp [h1],fun v hv=>?_⟩
  rcases List.mem_cons.1 hv with e | e
  ·rw [e]; exact hp x y e1 (hx x (by simp))
  ·exact J v e
/-- The slots that are kept; the others may hold anything. -/
def yQ (a:Nat→Value) (σ aa:List Nat):Nat→List Value→(List Value→Prop)→Prop
 | _,[],k=>k []
 | i,v::l,k=>match H0 i aa with
  | true=>yO (gE σ 3 v) fun v'=>yQ a σ aa (i+1) l fun l'=>k (v'::l')
  | false=>yQ a σ aa (i+1) l fun l'=>k (a i::l')
theorem Es {a:Nat→Value} {σ aa:List Nat}:∀ {t:List Value} {i:Nat} {k:List Value→Prop},yQ a σ aa i t k→∀ (ν:Nu) r,bc ν t r→(∀ (j:Nat) (y:Value),r[j]?=some y→∀ aj:Nu,ao aj (a (i+j)) y)→∃ t',k t'∧bc (ν.comp σ) t' r
 | [],i,k,h,ν,r,hr,ha=>⟨[],h,by rw [hr.iC]; exact .nil _⟩
 | v::l,i,k,h,ν,r,hr,ha=>by
  obtain ⟨y,ys,rfl,h1,J⟩:=hr.iQ
  obtain ⟨hx,ha⟩:=LQ ha
  unfold yQ at h
  split at h
  ·obtain ⟨v',e,h⟩:=Eo h
   obtain ⟨l',h3,h4⟩:=Es h ν ys J ha
   exact ⟨_,h3,.cons (LR 3 _ _ _ e h1) h4⟩
  ·obtain ⟨l',h3,h4⟩:=Es h ν ys J ha
   exact ⟨_,h3,.cons (hx _) h4⟩
def FC (σ:List Nat):List (List Value)→(List (List Value)→Prop)→Prop
 | [],k=>k []
 | r::l,k=>yO (mR σ 3 r) fun r'=>FC σ l fun l'=>k (r'::l')
theorem JA {σ:List Nat}:∀ {l:List (List Value)} {k:List (List Value)→Prop},FC σ l k→∃ l',k l'∧l'.length=l.length∧∀ (i:Nat) r',l'[i]?=some r'→∃ r,l[i]?=some r∧mR σ 3 r=some r'
 | [],k,h=>⟨[],h,rfl,fun i r hr=>by simp at hr⟩
 | r::l,k,h=>by
  obtain ⟨r',e,h⟩:=Eo h
  obtain ⟨l',h,h1,J⟩:=JA h
  refine ⟨_,h,by simp [h1],fun i q hq=>?_⟩
  cases i with
  | zero=>simp at hq; subst hq; exact ⟨r,rfl,e⟩
  | succ i=>simpa using J i q (by simpa using hq)
def OA (σ:List Nat) (b:ah) (k:ah→Prop):Prop :=
 match b with
 | .flat o n e g=>k (.flat o n e g)
 | .aL o e rows=>FC σ rows fun iF=>k (.aL o e iF)
 | .bZ r=>k (.bZ r)
theorem Ta {σ:List Nat} {b:ah} {k:ah→Prop} (h:OA σ b k):∃ b',k b'∧b'.own=b.own∧∀ (ν:Nu) (l:Loc) (w:World),bN ν l b w→bN (ν.comp σ) l b' w:=by
 cases b with
 | flat o n e g =>
  exact ⟨_,h,rfl,fun ν l w hB=>hB.E3 (hB.plain rfl)⟩
 | bZ r=>exact ⟨_,h,rfl,fun ν l w hB=>hB.E3 (fun r hr=>absurd hr (Nat.not_lt_zero r))⟩
 | aL o e rows =>
  obtain ⟨iF,h,h1,J⟩:=JA h
  refine ⟨_,h,rfl,fun ν l w hB=>?_⟩
  have aX:∀ r,r < iF.length→∃ q,(ah.aL o e rows).row r=q∧mR σ 3 q=some ((ah.aL o e iF).row r)∧r < rows.length:=by
   intro r hr
   obtain ⟨q,h3,h4⟩:=J r _ (List.getElem?_eq_getElem hr)
   refine ⟨q,by simp [ah.row,List.getD,h3],?_,by omega⟩
   simpa [ah.row,List.getD,List.getElem?_eq_getElem hr] using h4
  -- cell by cell, against the real cells of the row
  have real:∀ (xs:List Value) (P:Nat→Value→Prop),(∀ (j:Nat) v,xs[j]?=some v→∃ v',P j v'∧ao ν v v')→∀ l,mR σ 3 xs=some l→∀ (j:Nat) v,l[j]?=some v→∃ v',P j v'∧ao (ν.comp σ) v v':=by
   intro xs
   induction xs with
   | nil =>
    intro P _ l hl j v hv
    have:l=[]:=by simp [mR] at hl; exact hl
    rw [this] at hv; simp at hv
   | cons x xs ih =>
    intro P hP l hl j v hv
    obtain ⟨y,ys,rfl,e1,e2⟩:=Er hl
    cases j with
    | zero =>
     simp at hv; subst hv
     obtain ⟨v',h3,h4⟩:=hP 0 x rfl
     exact ⟨v',h3,LR 3 _ _ _ e1 h4⟩
    | succ j =>
     exact ih (fun j=>P (j+1)) (fun j v hv=>hP (j+1) v (by simpa using hv)) ys e2 j v (by simpa using hv)
  refine ⟨hB.ae,fun r hr=>?_,fun r hr j v hv=>?_,fun h=>by simp [ah.js] at h,fun r hr v hv=>?_,fun ho _=>?_,(fun r h=>nomatch h),hB.live⟩
  ·obtain ⟨q,h3,h4,h5⟩:=aX r hr
   have:=(E4 (p:=fun _=>True) (fun _ _ _ _=>trivial) h4 (fun _ _=>trivial)).1
   rw [this,← h3]; exact hB.len r h5
  ·obtain ⟨q,h3,h4,h5⟩:=aX r hr
   exact real q (fun j v'=>w.cell? (l.at r j)=some v') (fun j v hv=>hB.cell r h5 j v (by rw [h3]; exact hv)) _ h4 j v hv
  ·obtain ⟨q,h3,h4,h5⟩:=aX r hr
   exact (E4 (p:=fun v=>v.oneCell'=true) (fun _ _ h h'=>Uj h h') h4 (fun v hv=>hB.one r h5 v (by rw [h3]; exact hv))).2 v hv
  ·obtain ⟨cur,t,q1,q2,q3⟩:=hB.own ho rfl
   exact ⟨cur,t,q1,q2,by simp only [ah.n] at q3 ⊢; omega⟩
/-- The blocks that stay. -/
def tT (H:ax):Nat→(Option ah→Prop)→Prop:=fun id k=>match H,id with
 | [],_=>k none
 | b::_,0=>k b
 | _::H,n+1=>tT H n k
theorem Ko:∀ {H:ax} {id:Nat} {k:Option ah→Prop},tT H id k→∃ b,k b∧∀ c,b=some c→H[id]?=some (some c)
 | [],_,k,h=>by
  have h:k none:=by unfold tT at h; exact h
  exact ⟨none,h,fun c hc=>by cases hc⟩
 | b::_,0,k,h=>by
  have h:k b:=by unfold tT at h; exact h
  exact ⟨b,h,fun c hc=>by rw [hc]; rfl⟩
 | _::H,n+1,k,h=>by
  have h:tT H n k:=by unfold tT at h; exact h
  obtain ⟨b,h1,J⟩:=Ko h
  exact ⟨b,h1,fun c hc=>by simpa using J c hc⟩
def Cp (σ:List Nat) (H:ax):List Nat→(ax→Prop)→Prop
 | [],k=>k []
 | s::l,k=>tT H s fun b=>match b with
  | none=>Cp σ H l fun H'=>k (none::H')
  | some b=>OA σ b fun b'=>Cp σ H l fun H'=>k (some b'::H')
theorem Et {σ:List Nat} {H:ax}:∀ {l:List Nat} {k:ax→Prop},Cp σ H l k→∃ H',k H'∧H'.length=l.length∧∀ (j:Nat) b',H'[j]?=some (some b')→∃ s b,l[j]?=some s∧H[s]?=some (some b)∧b'.own=b.own ∧
  ∀ (ν:Nu) (lc:Loc) (w:World),bN ν lc b w→bN (ν.comp σ) lc b' w
 | [],k,h=>⟨[],h,rfl,fun j b hj=>by simp at hj⟩
 | s::l,k,h=>by
  obtain ⟨b,h,hb⟩:=Ko h
  cases b with
  | none =>
   obtain ⟨H',h1,J,h3⟩:=Et (l:=l) h
   refine ⟨_,h1,by simp [J],fun j b' hj=>?_⟩
   cases j with
   | zero=>simp at hj
   | succ j=>simpa using h3 j b' (by simpa using hj)
  | some b =>
   obtain ⟨b1,h,ho,hr⟩:=Ta h
   obtain ⟨H',h1,J,h3⟩:=Et (l:=l) h
   refine ⟨_,h1,by simp [J],fun j b' hj=>?_⟩
   cases j with
   | zero=>simp at hj; subst hj; exact ⟨s,b,rfl,hb b rfl,ho,hr⟩
   | succ j=>simpa using h3 j b' (by simpa using hj)
def BV (a:Nat):List Nat→Bool
 | []=>true
 | b::l=>match Nat.beq a b with
  | true=>false
  | false=>BV a l
theorem Kp {a:Nat}:∀ {l:List Nat},BV a l=true→a ∉ l
 | [],_=>by simp
 | b::l,h=>by
  unfold BV at h
  split at h
  ·cases h
  ·rename_i e
   rw [List.mem_cons,not_or]
   exact ⟨Nat.ne_of_beq_eq_false e,Kp h⟩
def Cq:List Nat→Bool
 | []=>true
 | a::l=>match BV a l with
  | true=>Cq l
  | false=>false
theorem K8:∀ {l:List Nat},Cq l=true→l.Nodup
 | [],_=>by simp
 | a::l,h=>by
  unfold Cq at h
  split at h
  ·rename_i e; exact List.nodup_cons.2 ⟨Kp e,K8 h⟩
  ·cases h
def preB (base:Nat):Nat→List Nat→Bool
 | k,[]=>Nat.ble base k
 | k,a::l=>match Nat.ble base k with
  | true=>true
  | false=>match Nat.beq a k with
   | true=>preB base (k+1) l
   | false=>false
theorem K9 {base:Nat}:∀ {l:List Nat} {k:Nat},preB base k l=true→∀ j,k+j < base→l[j]?=some (k+j)
 | [],k,h,j,hj=>by
  have:=Nat.le_of_ble_eq_true h
  omega
 | a::l,k,h,j,hj=>by
  unfold preB at h
  split at h
  ·rename_i e; have:=Nat.le_of_ble_eq_true e; omega
  ·split at h
   ·rename_i e
    have e:=Nat.eq_of_beq_eq_true e
    cases j with
    | zero=>simp [e]
    | succ j =>
     have:=K9 h j (by omega)
     rw [List.getElem?_cons_succ,this]; congr 1; omega
   ·cases h
def Gb (base:Nat) (σ:List Nat):Bool:=match preB base 0 σ with
 | true=>Cq σ
 | false=>false
theorem Rl {base:Nat} {σ:List Nat} (h:Gb base σ=true):(∀ j,j < base→σ[j]?=some j)∧σ.Nodup:=by
 unfold Gb at h
 split at h
 ·rename_i e
  exact ⟨fun j hj=>by have:=K9 e j (by omega); simpa using this,K8 h⟩
 ·cases h
def Hl (E:Env) (σ aa:List Nat) (t:List Value) (H:ax) (k:SK):Prop :=
 match Gb E.base σ with
 | true=>∀ a:Nat→Value,yQ a σ aa 0 t fun t'=>Cp σ H σ fun H'=>k t' H'
 | false=>False
theorem Tb {E:Env} {F:Fr} (bJ:kE F E) {σ aa:List Nat} {ν:Nu} {t:List Value} {H:ax} {a:Act} {w:World} {k:SK} (hi:bt F ν t H a w) (h:Hl E σ aa t H k) :
  ∃ t' H',k t' H'∧bt F (ν.comp σ) t' H' a w:=by
 unfold Hl at h
 split at h
 ·rename_i hb
  obtain ⟨zj,dx⟩:=Rl hb
  obtain ⟨af,Ia⟩:=MD hi.tm
  obtain ⟨t',h,ht⟩:=Es (h af) ν _ hi.tm (fun j y hy aj=>by rw [Nat.zero_add]; exact Ia j y hy aj)
  obtain ⟨H',h,lh,hH⟩:=Et h
  have mJ:∀ (j s:Nat),σ[j]?=some s→(ν.comp σ) j=ν s:=fun j s hj=>by simp [Nu.comp,hj]
  refine ⟨t',H',h,⟨ht,hi.df,⟨fun j b' hj=>?_,fun i j bi bj li lj aM fL aI ho e1 e2=>?_⟩,fun j hj=>?_,hi.kp,fun j b' l hj ho hl=>?_,fun id l bm=>?_⟩⟩
  ·obtain ⟨s,b,h1,J,h3,h4⟩:=hH j b' hj
   obtain ⟨l,h5,h6⟩:=hi.hp.aH s b J
   exact ⟨l,by rw [mJ j s h1]; exact h5,h4 ν l w h6⟩
  ·obtain ⟨s,b,h1,J,h3,h4⟩:=hH i bi aM
   obtain ⟨s',b',eP,jG,sB,qh⟩:=hH j bj fL
   rw [mJ i s h1] at e1
   rw [mJ j s' eP] at e2
   refine hi.hp.sep s s' b b' li lj J jG (fun e=>aI ?_) (by rw [← h3]; exact ho) e1 e2
   subst e
   exact (List.getElem?_inj (List.getElem?_eq_some_iff.1 h1).1 dx).1 (h1.trans eP.symm)
  ·rw [lh] at hj
   simp [Nu.comp,List.getElem?_eq_none hj]
  ·obtain ⟨s,b,h1,J,h3,h4⟩:=hH j b' hj
   rw [mJ j s h1] at hl
   exact hi.own s b l J (by rw [← h3]; exact ho) hl
  ·have ak:id < F.n0:=by
    rcases Nat.lt_or_ge id F.n0 with h | h
    ·exact h
    ·rw [F.fresh id h] at bm; cases bm
   rw [mJ id id (zj id (by have:=bJ.n0; omega))]
   exact hi.mono id l bm
 ·exact h.elim
/-- The state as it is, or without what is not wanted. -/
def Hm (E:Env) (t:List Value) (H:ax) (k:SK):Prop:=k t H∨∃ σ aa,Hl E σ aa t H k
theorem La {E:Env} {F:Fr} (bJ:kE F E) {ν:Nu} {t:List Value} {H:ax} {a:Act} {w:World} {k:SK} (hi:bt F ν t H a w) (h:Hm E t H k) :
  ∃ aj t' H',k t' H'∧bt F aj t' H' a w:=by
 rcases h with h | ⟨σ,aa,h⟩
 ·exact ⟨ν,t,H,h,hi⟩
 ·obtain ⟨t',H',h1,J⟩:=Tb bJ hi h
  exact ⟨_,t',H',h1,J⟩
/-- Some slots hold what is said; of the others nothing is said. -/
inductive bu:List (Option Value)→List Value→Prop
 | nil:bu [] []
 | aa {v:Value} {ps:List (Option Value)} {vs:List Value} (h:bu ps vs):bu (some v::ps) (v::vs)
 | skip {v:Value} {ps:List (Option Value)} {vs:List Value} (h:bu ps vs):bu (none::ps) (v::vs)
def pI (a:Nat→Value):Nat→List (Option Value)→List Value
 | _,[]=>[]
 | i,some v::ps=>v::pI a (i+1) ps
 | i,none::ps=>a i::pI a (i+1) ps
/-- A run of dead slots. -/
def aB (n:Nat) (ps:List (Option Value)):List (Option Value):=match n with
 | 0=>ps
 | n+1=>none::aB n ps
def zs (a:Nat→Value) (i n:Nat) (l:List Value):List Value:=match n with
 | 0=>l
 | n+1=>a i::zs a (i+1) n l
theorem bu.sk:∀ (n:Nat) {ps:List (Option Value)} {vs:List Value},bu ps (vs.drop n)→Nat.ble n vs.length=true→bu (aB n ps) vs
 | 0,_,_,h,_=>h
 | n+1,_,[],_,h=>by simp at h
 | n+1,_,v::vs,h,hn=>.skip (bu.sk n (vs:=vs) h (by simpa using hn))
theorem bI {ps:List (Option Value)} {vs:List Value} (h:bu ps vs):∃ a:Nat→Value,vs=pI a 0 ps:=by
 have key:∀ (ps:List (Option Value)) (vs:List Value),bu ps vs→∀ i,∃ a:Nat→Value,vs=pI a i ps:=by
  intro ps vs h
  induction h with
  | nil=>exact fun i=>⟨fun _=>undef,rfl⟩
  | aa h ih=>
   intro i
   obtain ⟨a,ha⟩:=ih (i+1)
   exact ⟨a,by rw [ha]; rfl⟩
  | @skip v ps vs h ih =>
   intro i
   obtain ⟨a,ha⟩:=ih (i+1)
   refine ⟨fun j=>if j=i then v else a j,?_⟩
   have e:∀ (ps:List (Option Value)) (k:Nat),i < k→pI (fun j=>if j=i then v else a j) k ps=pI a k ps:=by
    intro ps
    induction ps with
    | nil=>intros; rfl
    | cons p ps ih =>
     intro k hk
     cases p with
     | none=>simp only [pI,ih (k+1) (by omega),if_neg (show k≠i by omega)]
     | some p=>simp only [pI,ih (k+1) (by omega)]
   simp only [pI,e ps (i+1) (by omega),ha,if_true]
 exact key ps vs h 0
end Go.Ae
/- The abstract evaluation of code: regions in the text's order; and that it stands for the model's run. -/
namespace Go.Ae
open Go Go.RowKit
def NS (E:Env) (o:Oper) (tmps:List Value) (H:ax) (k:SK) (q:Prop):Prop :=
 match o.op with
 | .store t x y=>BA E tmps H t x y fun t' H'=>db t' o.dst undef fun uJ=>k uJ H'
 | .call c=>match c.callee with
  | .builtin .append=>match c.args.toList,c.argTypes.toList with
   | [x,y],[t,t']=>match Nat.beq t t' with
    | true=>ME E tmps H t x y fun v t1 H1=>db t1 o.dst v fun t2=>k t2 H1
    | false=>q
   | _,_=>False
  | .builtin .clear=>match c.args.toList,c.argTypes.toList with
   | [x],[t]=>Nn E tmps H t x fun H1=>db tmps o.dst (.tuple #[]) fun t2=>k t2 H1
   | _,_=>False
  | .builtin .copy=>match c.args.toList,c.argTypes.toList with
   | [x,y],[t,_]=>bQ tmps x fun xv=>bQ tmps y fun yv=>FA E H t xv yv fun v H1=>db tmps o.dst v fun t2=>k t2 H1
   | _,_=>False
  | .value f=>bQ tmps f fun fv=>match fv with
   | .func (.func g) a b=>match E.Ψ g with
    | some G=>pr tmps c.args.toList fun vs=>pP a.toList vs fun l=>pP l b.toList fun args=>G args H fun v H'=>db tmps o.dst v fun t'=>k t' H'
    | none=>q
   | .func (.yield l) a b=>match a.toList,b.toList,E.ys with
    | [],[],(l',G)::_=>l'=l∧pr tmps c.args.toList fun vs=>G vs H fun v H'=>db tmps o.dst v fun t'=>k t' H'
    | _,_,_=>False
   | _=>False
  | _=>q
 | _=>q
def yA (E:Env) (o:Oper) (tmps:List Value) (H:ax) (k:SK):Prop :=
 NS E o tmps H k (ja H fun aE=>kD E o.op tmps H aE fun v nb=>db tmps o.dst v fun t'=>uk H nb fun H'=>k t' H')
def wI (E:Env) (ops:List Oper) (o:Oper) (tmps:List Value) (H:ax) (k:SK):Prop :=
 match o.guard with
 | none=>yA E o tmps H k
 | some (j,want)=>match (ops[j]?).bind (·.dst) with
  | some d=>pO tmps d fun v=>match v with
   | .bool b=>match want with
    | true=>br b (yA E o tmps H k) (db tmps o.dst undef fun t'=>k t' H)
    | false=>br b (db tmps o.dst undef fun t'=>k t' H) (yA E o tmps H k)
   | .tuple _=>db tmps o.dst undef fun t'=>k t' H
   | _=>False
  | none=>False
def mS (E:Env) (ops:List Oper):List Oper→List Value→ax→SK→Prop
 | [],t,H,k=>k t H
 | [o],t,H,k=>wI E ops o t H k
 | o::p::l,t,H,k=>wI E ops o t H fun t' H'=>mS E ops (p::l) t' H' k
theorem Lb {E:Env} {ops l:List Oper} {o:Oper} {t:List Value} {H:ax} {k:SK} (h:mS E ops (o::l) t H k):wI E ops o t H fun t' H'=>mS E ops l t' H' k:=by
 cases l with
 | nil=>exact h
 | cons p l=>exact h
section
variable {P:Program} {E:Env} {r:Option Nat} {n:Nat} {F:Fr}
/-- Where the blocks lie that may be written. -/
def tH (ν:Nu) (H:ax) (x:Nat):Prop:=∃ id c l,H[id]?=some (some c)∧c.own=true∧ν id=some l∧x=l.aH
/-- Behind a call. -/
theorem bt.called {ν aj:Nu} {tmps:List Value} {H H':ax} {a:Act} {w w':World} (hi:bt F ν tmps H a w) (hle:ν.le aj) (zk:bR aj H' w') (yR:∀ id,H'.length≤id→aj id=none)
  (sC:Kept (tH ν H) w w') (jX:∀ id b l,H'[id]?=some (some b)→b.own=true→aj id=some l→tH ν H l.aH∨w.heap.size≤l.aH):bt F aj tmps H' a w':=by
 have hO:∀ x,tH ν H x→F.O x∨F.W.heap.size≤x:=by
  rintro x ⟨id,c,l,h1,J,h3,rfl⟩
  exact hi.own id c l h1 J h3
 refine ⟨hi.tm.mono hle,AF hi.df fun D hD=>?_,zk,yR,hi.kp.then sC hO,fun id b l h5 h6 h7=>(jX id b l h5 h6 h7).elim (hO _) (fun h=>.inr (Nat.le_trans hi.kp.size h)),Nu.le_trans hi.mono hle⟩
 refine (sC.aH D (Array.getElem?_eq_some_iff.1 hD).1 ?_).trans hD
 rintro ⟨id,c,l,h1,J,h3,rfl⟩
 obtain ⟨l',h4,hB⟩:=hi.hp.aH id c h1
 rw [h3] at h4; cases h4
 cases hr:c.rc with
 | none =>
  obtain ⟨cur,t,h5,_⟩:=hB.own J hr
  rw [h5] at hD; cases hD
 | some r =>
  have:=hB.lr r hr
  rw [this] at hD; cases hD
theorem Kq (hE:jy P E) (bJ:kE F E) {o:Oper} {ν:Nu} {tmps:List Value} {H:ax} {a:Act} {w:World} (hi:bt F ν tmps H a w) {k:SK}
  (h:yA E o tmps H k) {next:Act→World→Prop} {Q:Exit→Act→World→Prop}
  (hk:∀ ν t' H' a' w',bt F ν t' H' a' w'→k t' H'→next a' w'):o.wpIn (WF r) n P a w next Q:=by
 have quiet:(ja H fun aE=>kD E o.op tmps H aE fun v nb=>db tmps o.dst v fun t'=>uk H nb fun H'=>k t' H')→o.wpIn (WF r) n P a w next Q:=by
  intro h
  have h:=lK h
  obtain ⟨v,nb,qi,hq⟩:=AE (P:=P) hE.toEnvOk h
  refine hq o ν a w r n rfl (fun x _=>hi.lQ x) hi.hp (hi.fr _ (Nat.le_refl _)) next Q (fun v' w' aj hp=>?_)
  have rG:∀ (k':ax→Prop),uk H nb k'→∃ H',k' H'∧bt F aj tmps H' a w':=fun k' HZ=>hi.quiet hp HZ
  -- first the new block, then the slot
  cases hd:o.dst with
  | none =>
   rw [hd] at qi
   obtain ⟨H',h1,J⟩:=rG _ qi
   exact hk _ _ _ _ _ J h1
  | some d =>
   rw [hd] at qi
   obtain ⟨h1,J⟩:=n7 qi
   obtain ⟨H',h3,h4⟩:=rG _ J
   refine hk aj (tmps.set d v) H' _ w' ⟨?_,h4.df,h4.hp,h4.fr,h4.kp,h4.own,h4.mono⟩ h3
   rw [qZ]
   exact h4.tm.set hp.val d
 unfold yA NS at h
 split at h
 ·rename_i t x y ho
  exact Ri hE.toEnvOk ho hi h hk
 ·rename_i c ho
  split at h
  ·rename_i hc
   split at h
   ·rename_i x y t t' hx ht
    split at h
    ·rename_i hb
     have hb:t=t':=Nat.eq_of_beq_eq_true hb
     subst hb
     obtain ⟨v,v',aj,t1,H1,w1,h,hv,aM,bA⟩:=QQ hE.toEnvOk bJ hi h o.type
     obtain ⟨t2,h,gL⟩:=aM.dst hv h
     have hx:c.args=#[x,y]:=Array.ext' hx
     have ht:c.argTypes=#[t,t]:=Array.ext' ht
     exact jm (by simp [ho]) (by simp [execOp,ho,resolve,hc,hx,ht,invoke,builtin,bA]) next Q (hk _ _ _ _ _ gL h)
    ·exact quiet h
   ·exact h.elim
  ·rename_i hc
   split at h
   ·rename_i x t hx ht
    obtain ⟨H1,w1,h,aM,bA⟩:=Rk hE.toEnvOk hi h o.type
    obtain ⟨t2,h,gL⟩:=aM.dst (.tuple [] [] rfl (fun i x y hx _=>by simp at hx)) h
    have hx:c.args=#[x]:=Array.ext' hx
    have ht:c.argTypes=#[t]:=Array.ext' ht
    exact jm (by simp [ho]) (by simp [execOp,ho,resolve,hc,hx,ht,invoke,builtin,bA]) next Q (hk _ _ _ _ _ gL h)
   ·exact h.elim
  ·rename_i hc
   split at h
   ·rename_i x y t t2 hx ht
    obtain ⟨xv,J,uF⟩:=kg h (hi.lQ x)
    clear h
    obtain ⟨yv,h,uG⟩:=kg J (hi.lQ y)
    obtain ⟨v,H1,w1,h,hv,aM,bA⟩:=Kn hE.toEnvOk hi uF uG h t2 o.type
    obtain ⟨t2,h,gL⟩:=aM.dst hv h
    have hx:c.args=#[x,y]:=Array.ext' hx
    have ht:c.argTypes=#[t,_]:=Array.ext' ht
    exact jm (by simp [ho]) (by simp [execOp,ho,resolve,hc,hx,ht,invoke,builtin,bA]) next Q (hk _ _ _ _ _ gL h)
   ·exact h.elim
  ·rename_i f hc
   have h0:=h
   obtain ⟨fv,J,hf⟩:=kg h (hi.lQ f)
   clear h
   split at J
   ·rename_i g xa ya
    split at J
    ·rename_i G hG
     obtain ⟨vs,h,fe⟩:=DE J (fun z _=>hi.lQ z)
     clear J
     have J:=vB (vB h)
     clear h
     have a9:=hE.ft g G hG
     obtain ⟨ys,c5,jE,h3,h4⟩:=hf.rh
     have nr:=(h3.append fe).append h4
     refine ⟨fun _ _=>trivial,?_⟩
     have bA:(execOp a.eval o).run P w=.ok (.enter g ⟨(ys++c.args.toList.map a.eval)++c5⟩) w:=by
      simp only [execOp,ho,resolve,hc,jE,Deferred.ofValue,Sem.run_bind,Sem.run_pure,Result.andThen_ok,invoke,a9.enters]
      congr 2
      apply Array.ext'
      simp
     rw [Oper.semAt_eq _ _ _ (by simp [ho]),bA]
     refine ⟨fun h=>by simp [WF,Fence.wide] at h,?_⟩
     have yu:=a9.calls _ H _ J ν _ w (n - 1) (tH ν H) nr hi.hp hi.fr (fun id b l h5 h6 h7=>⟨id,b,l,h5,h6,h7,rfl⟩)
     have x8:CallsIn (WF r) (n - 1) P g ⟨(ys++c.args.toList.map a.eval)++c5⟩ w _:=yu
     refine x8.mono ?_
     rintro e w' ⟨v,v',aj,H',rfl,h,hv,hle,zk,yR,sC,jX⟩
     have aM:bt F aj tmps H' a w':=hi.called hle zk yR sC jX
     obtain ⟨t',h,gL⟩:=aM.dst hv h
     exact hk _ _ _ _ _ gL h
    ·exact quiet J
   ·rename_i l xa ya
    split at J
    ·rename_i l' G rest uM zl CU
     obtain ⟨rfl,J⟩:=J
     obtain ⟨vs,J,fe⟩:=DE J (fun z _=>hi.lQ z)
     obtain ⟨ys,c5,jE,h3,h4⟩:=hf.rh
     rw [uM] at h3; rw [zl] at h4
     have e1:=h3.iC
     have e2:=h4.iC
     subst e1; subst e2
     obtain ⟨fn,tm,Po,body,hy,YB⟩:=hE.ys l' G rest CU _ H _ J ν _ w (n - 1) (tH ν H) (Nu.le_trans bJ.nu hi.mono) fe hi.hp hi.fr (fun id b l h5 h6 h7=>⟨id,b,l,h5,h6,h7,rfl⟩)
     refine ⟨fun _ _=>trivial,?_⟩
     have bA:(execOp a.eval o).run P w=.ok (.round l' fn tm Po body) w:=by
      simp only [execOp,ho,resolve,hc,jE,Deferred.ofValue,Sem.run_bind,Sem.run_pure,Result.andThen_ok,invoke]
      have e:(⟨List.map a.eval c.args.toList⟩:Array Value)=Array.map a.eval c.args:=Array.ext' (by simp)
      rw [e] at hy
      simpa using hy
     rw [Oper.semAt_eq _ _ _ (by simp [ho]),bA]
     refine ⟨fun h=>by simp [WF,Fence.wide] at h,?_⟩
     have VQ:RoundIn (WF r) (n - 1) P l' fn tm Po body w _:=YB
     refine VQ.mono ?_
     rintro e w' ⟨v,v',aj,H',rfl,h,hv,hle,zk,yR,sC,jX⟩
     have aM:bt F aj tmps H' a w':=hi.called hle zk yR sC jX
     obtain ⟨t',h,gL⟩:=aM.dst hv h
     exact hk _ _ _ _ _ gL h
    ·exact J.elim
   ·exact J.elim
  ·exact quiet h
 ·exact quiet h
theorem xJ {ops:Array Oper} {tmps:Array Value} {j:Nat} {d:Tmp} (hd:(ops[j]?).bind (·.dst)=some d):yielded ops tmps j=match tmps[d]? with | some (.bool b)=>some b | _=>none:=by
 unfold yielded
 rw [hd]
 rfl
theorem DV (hE:jy P E) (bJ:kE F E) {ops:Array Oper} {o:Oper} {ν:Nu} {tmps:List Value} {H:ax} {a:Act} {w:World} (hi:bt F ν tmps H a w) {k:SK}
  (h:wI E ops.toList o tmps H k) {next:Act→World→Prop} {Q:Exit→Act→World→Prop}
  (hk:∀ ν t' H' a' w',bt F ν t' H' a' w'→k t' H'→next a' w') :
  if Region.wanted o (yielded ops a.tmps) then o.wpIn (WF r) n P a w next Q else (∀ f,o.about P w a.eval=some f→(WF r).fn f)∧next (a.put o.dst undef) w:=by
 unfold wI at h
 have skip:(db tmps o.dst undef fun t'=>k t' H)→(∀ f,o.about P w a.eval=some f→(WF r).fn f)∧next (a.put o.dst undef) w:=fun h=>by
  obtain ⟨t',h1,J⟩:=hi.dst (.undef ν) h
  exact ⟨fun _ _=>trivial,hk _ _ _ _ _ J h1⟩
 split at h
 ·rename_i hg
  have:Region.wanted o (yielded ops a.tmps)=true:=by simp [Region.wanted,hg]
  rw [if_pos this]
  exact Kq hE bJ hi h hk
 ·rename_i j want hg
  split at h
  ·rename_i d hd
   have cM:(ops[j]?).bind (·.dst)=some d:=by simpa using hd
   obtain ⟨v,hv,h⟩:=n6 h
   obtain ⟨v',uI,hr⟩:=hi.tm.get hv
   have acw:a.tmps[d]?=some v':=by simpa using uI
   have hy:=xJ (tmps:=a.tmps) cM
   rw [acw] at hy
   split at h
   ·rename_i b
    have:=hr.jM
    subst this
    have hw:Region.wanted o (yielded ops a.tmps)=(b == want):=by
     simp only [Region.wanted,hg,hy]
     cases b <;> cases want <;> rfl
    rw [hw]
    cases want <;> cases b <;> first | exact Kq hE bJ hi h hk | exact skip h
   ·rename_i vs
    obtain ⟨ys,rfl,_⟩:=ao.nj (xs:=vs.toList) hr
    have hw:Region.wanted o (yielded ops a.tmps)=false:=by
     simp only [Region.wanted,hg,hy]
     rfl
    rw [hw]
    simp only [Bool.false_eq_true,if_false]
    exact skip h
   ·exact h.elim
  ·exact h.elim
theorem Lc (hE:jy P E) (bJ:kE F E) {ops:Array Oper} {Q:Exit→Act→World→Prop}:∀ {l:List Oper} {idx:List Nat} {ν:Nu} {tmps:List Value} {H:ax} {a:Act} {w:World} {k:SK},
  idx.map (ops[·]?)=l.map some→bt F ν tmps H a w→mS E ops.toList l tmps H k→(∀ ν t' H' a' w',bt F ν t' H' a' w'→k t' H'→Q .normal a' w')→wpOpsIn (WF r) n P ops Q idx a w
 | [],idx,ν,tmps,H,a,w,k,he,hi,h,hk=>by
  have:idx=[]:=by cases idx with
   | nil=>rfl
   | cons=>simp at he
  subst this
  exact hk _ _ _ _ _ hi h
 | o::l,idx,ν,tmps,H,a,w,k,he,hi,h,hk=>by
  cases idx with
  | nil=>simp at he
  | cons i idx =>
   simp only [List.map_cons,List.cons.injEq] at he
   simp only [wpOpsIn,he.1]
   exact DV hE bJ hi (Lb h) (fun ν t' H' a' w' aM h'=>Lc hE bJ he.2 aM h' hk)
theorem QR (hE:jy P E) (bJ:kE F E) {ops:Array Oper} {Q:Exit→Act→World→Prop} {id:Nat} {ν:Nu} {tmps:List Value} {H:ax} {a:Act} {w:World} {k:SK}
  (hi:bt F ν tmps H a w) (h:mS E ops.toList ops.toList tmps H k) (hk:∀ ν t' H' a' w',bt F ν t' H' a' w'→k t' H'→Q .normal a' w'):(Code.region id ops false).wpIn (WF r) n P Q a w:=by
 refine wpIn_region (Lc hE bJ ?_ hi h hk)
 apply List.ext_getElem?
 intro i
 simp only [List.getElem?_map,List.getElem?_range,Array.getElem?_toList]
 by_cases ak:i < ops.size
 ·simp [ak]
 ·simp [ak]
end
end Go.Ae
/- The abstract evaluation of a function's body, and contracts out of it. -/
namespace Go.Ae
open Go Go.RowKit
abbrev XK:=Nat→List Value→ax→Prop
/-- Rounds of a loop, a bounded number of them. -/
def Be (body:List Value→ax→SK→Prop):Nat→List Value→ax→Prop
 | 0,_,_=>False
 | m+1,t,H=>body t H (Be body m)
def GH:List Value→List Nat→List Value→(List Value→Prop)→Prop
 | t,[],[],k=>k t
 | t,p::ps,x::xs,k=>wU t p x fun t'=>GH t' ps xs k
 | _,_,_,_=>False
theorem Kr:∀ {t:List Value} {ps:List Nat} {xs:List Value} {k:List Value→Prop},GH t ps xs k→ps.length=xs.length∧∃ t1,k t1∧∀ (ν:Nu) (a:Array Value) (as:List Value),bc ν t a.toList→bc ν xs as→bc ν t1 ((ps.zip as).foldl (fun t (p,v)=>t.setIfInBounds p v) a).toList
 | t,[],[],k,h=>⟨rfl,t,h,fun ν a as ha hx=>ha⟩
 | t,p::ps,x::xs,k,h=>by
  obtain ⟨ak,h⟩:=n7 h
  obtain ⟨h1,t1,J,h3⟩:=Kr h
  refine ⟨by simp [h1],t1,J,fun ν a as ha hx=>?_⟩
  obtain ⟨y,ys,rfl,k1,k2⟩:=hx.iQ
  refine h3 ν (a.setIfInBounds p y) ys ?_ k2
  rw [Array.toList_setIfInBounds]
  exact ha.set k1 p
 | _,[],_::_,_,h=>h.elim
 | _,_::_,[],_,h=>h.elim
def BW (H:ax) (id:Nat) (k:Loop→Prop):Prop :=
 gu H id fun b=>match b with
  | .bZ r=>k r
  | _=>False
/-- The end of a round: the record, and what yield answers. -/
def BX (R:LoopState→Option Code→Loop) (γ:Nat) (jump:Option Code) (K:Value→ax→Prop) (H:ax):Prop :=
 BW H γ fun r=>r=R .busy none∧iZ H γ (some (.bZ (R (match jump with | none=>.ready | some _=>.done) jump))) fun H'=>K (.bool (match jump with | none=>true | some _=>false)) H'
/-- Behind the iterator. -/
def YC (R:LoopState→Option Code→Loop) (γ:Nat) (t:List Value) (kn:SK) (kx:XK) (kr:SK) (H:ax):Prop :=
 BW H γ fun r=>iZ H γ none fun H'=>match r.state,r.pending with
  | .busy,_=>False
  | _,none=>kn t H'
  | _,some (.exit i)=>kx i t H'
  | _,some .ret=>kr t H'
  | _,_=>False
def vc:Env→(Env→List Oper→List Value→ax→SK→Prop)→Code→List Value→ax→SK→XK→SK→Prop
 | _,_,.skip,t,H,kn,_,_=>kn t H
 | E,_,.region _ ops false,t,H,kn,_,_=>mS E ops.toList ops.toList t H kn
 | E,D,.region _ ops true,t,H,kn,_,_=>D E ops.toList t H kn
 | E,D,.seq a b,t,H,kn,kx,kr=>vc E D a t H (fun t H=>vc E D b t H kn kx kr) kx kr
 | E,D,.cond c x y,t,H,kn,kx,kr=>bQ t c fun v=>match v with
  | .bool b=>br b (vc E D x t H kn kx kr) (vc E D y t H kn kx kr)
  | _=>False
 | E,D,.block id c,t,H,kn,kx,kr=>vc E D c t H kn (fun i t H=>match Nat.beq i id with | true=>kn t H | false=>kx i t H) kr
 | _,_,.exit id,t,H,_,kx,_=>kx id t H
 | _,_,.ret,t,H,_,_,kr=>kr t H
 | E,D,.loop c,t,H,_,kx,kr =>
  (∃ I:Nat→List Value→ax→Prop,(Hm E t H fun t H=>∃ n,I n t H)∧∀ n t H,I n t H→vc E D c t H (fun t H=>Hm E t H fun t H=>∃ m,m < n∧I m t H) kx kr) ∨
  (∃ m,Be (fun t H k=>vc E D c t H k kx kr) m t H)
 | E,D,.rangeFunc g ps assign body,t,H,kn,kx,kr=>match E.rd with
  | true=>False
  | false=>bQ t g fun gv=>match gv with
   | .func (.func f) a b=>match a.toList,E.It f with
    | [],some I=>∀ (l:Nat) (nu:Nu) (fn:FuncId) (tm:Array Value) (df:Nat),ja H fun γ=>oq H (some (.bZ ⟨.ready,none,fn,tm,ps,assign,body,df⟩)) fun H1 =>
     I l (fun args H K=>BW H γ fun r=>r=⟨.ready,none,fn,tm,ps,assign,body,df⟩∧GH t ps.toList args fun t1=>ja H fun n0 =>
       vc { E with base:=n0,rd:=true } D assign t1 H (fun t2 H2=>BW H2 γ fun r2=>r2=⟨.ready,none,fn,tm,ps,assign,body,df⟩∧iZ H2 γ (some (.bZ ⟨.busy,none,fn,tm,ps,assign,body,df⟩)) fun H3 =>
         vc { E with base:=n0,rd:=true } D body t2 H3 (fun _ H4=>BX (fun s p=>⟨s,p,fn,tm,ps,assign,body,df⟩) γ none K H4) (fun i _ H4=>BX (fun s p=>⟨s,p,fn,tm,ps,assign,body,df⟩) γ (some (.exit i)) K H4)
          (fun _ H4=>BX (fun s p=>⟨s,p,fn,tm,ps,assign,body,df⟩) γ (some .ret) K H4))
        (fun _ _ _=>False) (fun _ _=>False))
      nu (.func (.yield l) #[] #[]::b.toList) H1 fun _ H2=>YC (fun s p=>⟨s,p,fn,tm,ps,assign,body,df⟩) γ t kn kx kr H2
    | _,_=>False
   | _=>False
 | _,_,_,_,_,_,_,_=>False
def vN (E:Env) (H:ax) (tmps:List Value):List ResultVar→(List Value→Prop)→Prop
 | [],k=>k []
 | .tmp t::l,k=>pO tmps t fun v=>vN E H tmps l fun vs=>k (v::vs)
 | .cell a t::l,k=>pO tmps a fun av=>match av with
  | .pointer (some ⟨id,row,sp⟩)=>cE E.tt t fun ti=>gu H id fun b=>G9 b row fun cs=>tN cs (sp.getD 0) ti.size fun us=>vN E H tmps l fun vs=>k (valOf ti.agg us::vs)
  | _=>False
def Cr (vs:List Value) (k:Value→Prop):Prop :=
 match vs with
 | [v]=>k v
 | vs=>k (.tuple ⟨vs⟩)
/-- A value without addresses, two levels deep. -/
def wj:Value→Bool
 | .bool _ | .int _ _ | .string _ | .pointer none | .nilFunc=>true
 | .agg cs=>jo cs.toList
 | .func _ a b=>a.toList.isEmpty && b.toList.isEmpty
 | _=>false
def sX:List Value→Bool
 | []=>true
 | v::l=>wj v && sX l
def BB:Value→Bool
 | .tuple vs=>sX vs.toList
 | .func _ a b=>sX a.toList && sX b.toList
 | v=>wj v
theorem bc.Ld {ν:Nu}:∀ {l:List Value},jo l=true→bc ν l l
 | [],_=>.nil ν
 | v::l,h=>by
  simp only [jo,Bool.and_eq_true] at h
  exact .cons (ao.kh h.1) (bc.Ld h.2)
theorem JX {v:Value} (h:wj v=true):(∀ ν,ao ν v v)∧∀ ν w,ao ν v w→w=v:=by
 cases v with
 | bool b=>exact ⟨fun ν=>.bool b,fun ν w hw=>hw.jM⟩
 | int k n=>exact ⟨fun ν=>.int k n,fun ν w hw=>hw.fu⟩
 | string s=>exact ⟨fun ν=>.str s,fun ν w hw=>hw.rr⟩
 | pointer a =>
  cases a with
  | none=>exact ⟨fun ν=>.lS,fun ν w hw=>by cases hw; rfl⟩
  | some a=>simp [wj] at h
 | nilFunc=>exact ⟨fun ν=>.lT,fun ν w hw=>by cases hw; rfl⟩
 | agg cs =>
  have h':jo cs.toList=true:=h
  refine ⟨fun ν=>?_,fun ν w hw=>?_⟩
  ·have:=bc.Ld (ν:=ν) h'
   exact .agg _ _ this.1 this.2
  ·obtain ⟨ys,rfl,hy⟩:=ao.tE (xs:=cs.toList) hw
   rw [bc.ki (xz h') hy]
 | func fn a b =>
  simp only [wj,Bool.and_eq_true,List.isEmpty_iff] at h
  refine ⟨fun ν=>?_,fun ν w hw=>?_⟩
  ·have e1:a=⟨[]⟩:=Array.ext' h.1
   have e2:b=⟨[]⟩:=Array.ext' h.2
   subst e1; subst e2
   exact .func fn [] [] [] [] rfl (fun i x y hx _=>by simp at hx) rfl (fun i x y hx _=>by simp at hx)
  ·obtain ⟨ys,c5,rfl,h1,J⟩:=hw.rh
   rw [h.1] at h1; rw [h.2] at J
   rw [h1.iC,J.iC]
   rw [Array.ext' (xs:=a) (ys:=⟨[]⟩) h.1,Array.ext' (xs:=b) (ys:=⟨[]⟩) h.2]
 | _=>simp [wj] at h
theorem z7:∀ {l:List Value},sX l=true→(∀ ν,bc ν l l)∧∀ ν m,bc ν l m→m=l
 | [],_=>⟨fun ν=>.nil ν,fun ν m hm=>hm.iC⟩
 | v::l,h=>by
  simp only [sX,Bool.and_eq_true] at h
  obtain ⟨h1,J⟩:=JX h.1
  obtain ⟨h3,h4⟩:=z7 h.2
  refine ⟨fun ν=>.cons (h1 ν) (h3 ν),fun ν m hm=>?_⟩
  obtain ⟨y,ys,rfl,k1,k2⟩:=hm.iQ
  rw [J ν y k1,h4 ν ys k2]
theorem xC {v:Value} (h:BB v=true):(∀ ν,ao ν v v)∧∀ ν w,ao ν v w→w=v:=by
 cases v with
 | tuple vs =>
  have h':sX vs.toList=true:=h
  obtain ⟨h1,J⟩:=z7 h'
  refine ⟨fun ν=>.tuple _ _ (h1 ν).1 (h1 ν).2,fun ν w hw=>?_⟩
  obtain ⟨ys,rfl,hy⟩:=ao.nj (xs:=vs.toList) hw
  rw [J ν ys hy]
 | func fn a b =>
  simp only [BB,Bool.and_eq_true] at h
  obtain ⟨h1,J⟩:=z7 h.1
  obtain ⟨h3,h4⟩:=z7 h.2
  refine ⟨fun ν=>.func fn _ _ _ _ (h1 ν).1 (h1 ν).2 (h3 ν).1 (h3 ν).2,fun ν w hw=>?_⟩
  obtain ⟨ys,c5,rfl,k1,k2⟩:=hw.rh
  rw [J ν ys k1,h4 ν c5 k2]
 | _=>exact JX h
def AG:List Value→Bool
 | []=>true
 | v::l=>BB v && AG l
theorem Dr:∀ {l:List Value},AG l=true→(∀ ν,bc ν l l)∧∀ ν m,bc ν l m→m=l
 | [],_=>⟨fun ν=>.nil ν,fun ν m hm=>hm.iC⟩
 | v::l,h=>by
  simp only [AG,Bool.and_eq_true] at h
  obtain ⟨h1,J⟩:=xC h.1
  obtain ⟨h3,h4⟩:=Dr h.2
  refine ⟨fun ν=>.cons (h1 ν) (h3 ν),fun ν m hm=>?_⟩
  obtain ⟨y,ys,rfl,k1,k2⟩:=hm.iQ
  rw [J ν y k1,h4 ν ys k2]
/-- How a region that draws its order may be evaluated. -/
def mY (P:Program) (D:Env→List Oper→List Value→ax→SK→Prop):Prop :=
 ∀ (E:Env),jy P E→∀ (r:Option Nat) (n:Nat) (F:Fr),kE F E→∀ (ops:Array Oper) (Q:Exit→Act→World→Prop) (id:Nat) (ν:Nu) (tmps:List Value) (H:ax) (a:Act) (w:World) (k:SK),
  bt F ν tmps H a w→D E ops.toList tmps H k→(∀ ν t' H' a' w',bt F ν t' H' a' w'→k t' H'→Q .normal a' w')→(Code.region id ops true).wpIn (WF r) n P Q a w
section
variable {P:Program} {E:Env} {r:Option Nat} {n:Nat} {F:Fr} {D:Env→List Oper→List Value→ax→SK→Prop}
/-- The record turns. -/
theorem bt.MF {F:Fr} {ν:Nu} {t:List Value} {H:ax} {a:Act} {w:World} (hi:bt F ν t H a w) {γ:Nat} {r:Loop} {l:Loc} (r':Loop) (hb:H[γ]?=some (some (.bZ r))) (hl:ν γ=some l) :
  bt F ν t (H.set γ (some (.bZ r'))) a (w.putObj l.aH (.loop r')):=by
 have ak:γ < H.length:=(List.getElem?_eq_some_iff.1 hb).1
 obtain ⟨l',cl,hB⟩:=hi.hp.aH γ _ hb
 rw [hl] at cl; cases cl
 have Cs:=hB.lr r rfl
 have hw:l.aH < w.heap.size:=(Array.getElem?_eq_some_iff.1 Cs).1
 have cZ:∀ (id:Nat) (b:ah),(H.set γ (some (.bZ r')))[id]?=some (some b)→(id=γ∧b=.bZ r')∨(id≠γ∧H[id]?=some (some b)):=fun id b h=>by
  by_cases e:id=γ
  ·subst e; rw [List.getElem?_set_self ak] at h; cases h; exact .inl ⟨rfl,rfl⟩
  ·rw [List.getElem?_set_ne (Ne.symm e)] at h; exact .inr ⟨e,h⟩
 refine ⟨hi.tm,AF hi.df fun D hD=>(World.putObj_heap_other (fun e=>by rw [e,Cs] at hD; cases hD)).trans hD,⟨fun id b h=>?_,fun i j bi bj li lj h1 J aI ho e1 e2=>?_⟩,fun id bm=>hi.fr id (by simpa using bm),
  hi.kp.then (O':=fun x=>x=l.aH) ⟨rfl,rfl,rfl,by simp,fun b h1 J=>World.putObj_heap_other J⟩ (fun b bE=>by subst bE; exact hi.own γ _ _ hb rfl hl),fun id b l' h ho cl=>?_,hi.mono⟩
 ·rcases cZ id b h with ⟨rfl,rfl⟩ | ⟨aI,h⟩
  ·exact ⟨l,hl,hB.ae,fun r hr=>absurd hr (Nat.not_lt_zero r),fun r hr=>absurd hr (Nat.not_lt_zero r),(fun h=>nomatch h),fun r hr=>absurd hr (Nat.not_lt_zero r),(fun _ h=>nomatch h),fun r hr=>by cases hr; exact World.putObj_heap_same hw,by simpa using hw⟩
  ·obtain ⟨l',cl,hB'⟩:=hi.hp.aH id b h
   exact ⟨l',cl,hB'.same (World.putObj_heap_other (Ne.symm (hi.hp.sep γ id _ b l l' hb h (Ne.symm aI) rfl hl cl))) (by simp)⟩
 ·rcases cZ i bi h1 with ⟨rfl,rfl⟩ | ⟨hni,g1⟩ <;> rcases cZ j bj J with ⟨rfl,rfl⟩ | ⟨hnj,g2⟩
  ·exact absurd rfl aI
  ·exact hi.hp.sep _ j _ bj li lj hb g2 aI rfl e1 e2
  ·exact hi.hp.sep i _ bi _ li lj g1 hb aI ho e1 e2
  ·exact hi.hp.sep i j bi bj li lj g1 g2 aI ho e1 e2
 ·rcases cZ id b h with ⟨rfl,rfl⟩ | ⟨aI,h⟩
  ·exact hi.own _ _ _ hb rfl cl
  ·exact hi.own id b l' h ho cl
theorem Uk (hD:mY P D):∀ (c:Code) {E:Env} {r:Option Nat} {n:Nat} {F:Fr},jy P E→kE F E→(E.rd=false→r=none)→∀ {ν:Nu} {t:List Value} {H:ax} {a:Act} {w:World} {kn:SK} {kx:XK} {kr:SK} {Q:Exit→Act→World→Prop},
  bt F ν t H a w→vc E D c t H kn kx kr→(∀ ν t H a w,bt F ν t H a w→kn t H→Q .normal a w)→(∀ i ν t H a w,bt F ν t H a w→kx i t H→Q (.exit i) a w) →
  (∀ ν t H a w,bt F ν t H a w→kr t H→Q .ret a w)→c.wpIn (WF r) n P Q a w:=by
 intro c
 induction c with
 | skip=>exact fun hE bJ fg=>fun hi h hn _ _=>wpIn_skip (hn _ _ _ _ _ hi h)
 | region id ops d =>
  intro E r n F hE bJ fg ν t H a w kn kx kr Q hi h hn _ _
  cases d with
  | false=>exact QR hE bJ hi h hn
  | true=>exact hD E hE r n F bJ ops Q id ν t H a w kn hi h hn
 | seq x y Ie Ig =>
  intro E r n F hE bJ fg ν t H a w kn kx kr Q hi h hn hx hr
  exact wpIn_seq (Ie hE bJ fg hi h (fun ν t H a w aM h'=>Ig hE bJ fg aM h' hn hx hr) hx hr)
 | cond c x y Ie Ig =>
  intro E r n F hE bJ fg ν t H a w kn kx kr Q hi h hn hx hr
  obtain ⟨v,h,hv⟩:=kg h (hi.lQ c)
  split at h
  ·rename_i b
   have hb:=hv.jM
   exact wpIn_cond_split hb (fun e=>Ie hE bJ fg hi (Bb h e) hn hx hr) (fun e=>Ig hE bJ fg hi (AS h e) hn hx hr)
  ·exact h.elim
 | block id c ih =>
  intro E r n F hE bJ fg ν t H a w kn kx kr Q hi h hn hx hr
  refine wpIn_block (ih hE bJ fg hi h hn (fun i ν t H a w aM h'=>?_) hr)
  simp only [Exit.inBlock]
  split at h'
  ·rename_i e
   rw [if_pos (Nat.eq_of_beq_eq_true e)]; exact hn _ _ _ _ _ aM h'
  ·rename_i e
   rw [if_neg (Nat.ne_of_beq_eq_false e)]; exact hx _ _ _ _ _ _ aM h'
 | loop c ih =>
  intro E r n F hE bJ fg ν t H a w kn kx kr Q hi h hn hx hr
  rcases h with ⟨I,h00,tU⟩ | ⟨m,hm⟩
  ·-- by an invariant
   obtain ⟨ν,t,H,⟨m0,h0⟩,hi⟩:=La bJ hi h00
   have key:∀ (m:Nat) ν t H a w,bt F ν t H a w→I m t H→∀ (b:Frame) (k:List Item) (cs:List Frame),b.roundOf=(WF r).round→(WF r).fn b.fn→(WF r).room (cs.length+1+n) →
     ∃ e a' w',Q e a' w'∧ArrivesIn (Machine.fenced P (WF r)) P (lone (b.atR a (.code c::.inLoop c::k)) cs w) b k cs e a' w':=by
    intro m
    induction m using Nat.strongRecOn with
    | _ m Ih =>
     intro ν t H a w hi hI b k cs mZ hb cJ
     have:=ih hE bJ fg (Q:=fun e a w=>match e with | .normal=>∃ m' ν t H,m' < m∧bt F ν t H a w∧I m' t H | e=>Q e a w) hi (tU m t H hI)
      (fun ν t H a w aM h'=>let ⟨ν2,t2,H2,⟨m',ak,zm⟩,gL⟩:=La bJ aM h'; ⟨m',ν2,t2,H2,ak,gL,zm⟩) hx hr b (.inLoop c::k) cs mZ hb cJ
     obtain ⟨e,lX,lY,hq,jA⟩:=this
     cases e with
     | normal =>
      obtain ⟨m',aj,t',H',ak,aM,zm⟩:=hq
      obtain ⟨Hn,Ho,Hp,GI,FD⟩:=Ih m' ak aj t' H' lX lY aM zm b k cs mZ hb cJ
      exact ⟨Hn,Ho,Hp,GI,.of_steps (StepsIn.trans jA (.one (fenced_calm hb cJ rfl) stepR_inLoop)) FD⟩
     | exit id=>exact ⟨_,lX,lY,hq,.pass (x:=.inLoop c) rfl (fun _ _=>.inl (by simp)) jA⟩
     | goto l=>exact ⟨_,lX,lY,hq,.pass (x:=.inLoop c) rfl (fun _ _=>.inl (by simp)) jA⟩
     | ret=>exact ⟨_,lX,lY,hq,.pass (x:=.inLoop c) rfl (fun _ _=>.inl (by simp)) jA⟩
     | panic ch=>exact ⟨_,lX,lY,hq,.pass (x:=.inLoop c) rfl (fun _ _=>.inl (by simp)) jA⟩
     | outgrown=>exact ⟨_,lX,lY,hq,.pass (x:=.inLoop c) rfl (fun _ _=>.inl (by simp)) jA⟩
   intro b k cs mZ hb cJ
   obtain ⟨e,a',w',hq,jA⟩:=key m0 ν t H a w hi h0 b k cs mZ hb cJ
   exact ⟨e,a',w',hq,.of_steps (.one (fenced_calm hb cJ rfl) stepR_loop) jA⟩
  ·-- round by round
   have key:∀ (m:Nat) ν t H a w,bt F ν t H a w→Be (fun t H k=>vc E D c t H k kx kr) m t H→∀ (b:Frame) (k:List Item) (cs:List Frame),b.roundOf=(WF r).round→(WF r).fn b.fn→(WF r).room (cs.length+1+n) →
     ∃ e a' w',Q e a' w'∧ArrivesIn (Machine.fenced P (WF r)) P (lone (b.atR a (.code c::.inLoop c::k)) cs w) b k cs e a' w':=by
    intro m
    induction m with
    | zero=>exact fun ν t H a w _ h=>h.elim
    | succ m Ih =>
     intro ν t H a w hi hI b k cs mZ hb cJ
     have:=ih hE bJ fg (Q:=fun e a w=>match e with | .normal=>∃ ν t H,bt F ν t H a w∧Be (fun t H k=>vc E D c t H k kx kr) m t H | e=>Q e a w) hi hI
      (fun ν t H a w aM h'=>⟨ν,t,H,aM,h'⟩) hx hr b (.inLoop c::k) cs mZ hb cJ
     obtain ⟨e,lX,lY,hq,jA⟩:=this
     cases e with
     | normal =>
      obtain ⟨aj,t',H',aM,zm⟩:=hq
      obtain ⟨Hn,Ho,Hp,GI,FD⟩:=Ih aj t' H' lX lY aM zm b k cs mZ hb cJ
      exact ⟨Hn,Ho,Hp,GI,.of_steps (StepsIn.trans jA (.one (fenced_calm hb cJ rfl) stepR_inLoop)) FD⟩
     | exit id=>exact ⟨_,lX,lY,hq,.pass (x:=.inLoop c) rfl (fun _ _=>.inl (by simp)) jA⟩
     | goto l=>exact ⟨_,lX,lY,hq,.pass (x:=.inLoop c) rfl (fun _ _=>.inl (by simp)) jA⟩
     | ret=>exact ⟨_,lX,lY,hq,.pass (x:=.inLoop c) rfl (fun _ _=>.inl (by simp)) jA⟩
     | panic ch=>exact ⟨_,lX,lY,hq,.pass (x:=.inLoop c) rfl (fun _ _=>.inl (by simp)) jA⟩
     | outgrown=>exact ⟨_,lX,lY,hq,.pass (x:=.inLoop c) rfl (fun _ _=>.inl (by simp)) jA⟩
   intro b k cs mZ hb cJ
   obtain ⟨e,a',w',hq,jA⟩:=key m ν t H a w hi hm b k cs mZ hb cJ
   exact ⟨e,a',w',hq,.of_steps (.one (fenced_calm hb cJ rfl) stepR_loop) jA⟩
 | exit id=>exact fun hE bJ fg=>fun hi h _ hx _=>wpIn_exit (hx _ _ _ _ _ _ hi h)
 | ret=>exact fun hE bJ fg=>fun hi h _ _ hr=>wpIn_ret (hr _ _ _ _ _ hi h)
 | rangeFunc g ps assign body iha ihb =>
  intro E r n F hE bJ fg ν t H a w kn kx kr Q hi h hn hx hr
  unfold vc at h
  split at h
  ·exact h.elim
  rename_i acx
  obtain rfl:=fg acx
  obtain ⟨gv,h,hg⟩:=kg h (hi.lQ g)
  split at h
  ·rename_i f xa ya
   split at h
   ·rename_i I uM hI
    obtain ⟨zs,Ii,dS,hz,nN⟩:=hg.rh
    rw [uM] at hz
    have oH:=hz.iC
    subst oH
    have Pp:=hE.HX f I hI
    refine wpIn_rangeFunc ?_
    intro fn hfn
    obtain ⟨W1,zn⟩:∃ W1,W1=(w.alloc (.deferred (some []))).alloc (.loop { state:=.ready,pending:=none,fn,tmps:=a.tmps,params:=ps,assign,body,defers:=w.heap.size }):=⟨_,rfl⟩
    refine ⟨w.heap.size+1,[{ target:=.collected w.heap.size,args:=#[] }],W1,{ target:=.fn (.func f) ⟨Ii⟩,args:=#[.func (.yield (w.heap.size+1)) #[] #[]] },W1,f,
     #[.func (.yield (w.heap.size+1)) #[] #[]]++⟨Ii⟩,W1,by rw [zn]; exact run_enterLoop_outer _ _ _ _ _,?_,fun _ _=>trivial,?_,fun h=>by simp [WF,Fence.wide] at h,?_⟩
    ·simp only [resolve,dS]
     simp [go_sem]
    ·simp [invoke,go_sem,Pp.enters]
    -- the record's block
    have mI:ν H.length=none:=hi.fr _ (Nat.le_refl _)
    obtain ⟨fN,yS⟩:∃ fN,fN=ν.add H.length ⟨w.heap.size+1,0,0,0⟩:=⟨_,rfl⟩
    have rT:ν.le fN:=by rw [yS]; exact Nu.jN mI
    have h:=xG (lK (h (w.heap.size+1) fN fn a.tmps w.heap.size))
    have Hq:Below w.heap.size w W1:=by
     rw [zn]; exact ((Below.refl _ w).alloc (Nat.le_refl _) _).alloc (by simp) _
    have aT:W1.heap.size=w.heap.size+2:=by rw [zn]; simp
    have Cs:W1.heap[w.heap.size+1]?=some (.loop { state:=.ready,pending:=none,fn,tmps:=a.tmps,params:=ps,assign,body,defers:=w.heap.size }):=by
     rw [zn]; have:=World.alloc_heap_new (w.alloc (.deferred (some []))) (.loop { state:=.ready,pending:=none,fn,tmps:=a.tmps,params:=ps,assign,body,defers:=w.heap.size }); rwa [World.size_alloc] at this
    have aaY:W1.heap[w.heap.size]?=some (.deferred (some [])):=by
     rw [zn]; exact (Below.heap_alloc _ _ _ (by simp)).trans (World.alloc_heap_new w _)
    have lh:bR fN (H++[some (.bZ { state:=.ready,pending:=none,fn,tmps:=a.tmps,params:=ps,assign,body,defers:=w.heap.size })]) W1:=by
     rw [yS]
     refine hi.hp.push (b:=.bZ { state:=.ready,pending:=none,fn,tmps:=a.tmps,params:=ps,assign,body,defers:=w.heap.size }) Hq mI _ (fun j c hj=>?_) (by simp) ⟨rfl,fun r hr=>absurd hr (Nat.not_lt_zero r),fun r hr=>absurd hr (Nat.not_lt_zero r),(fun h=>nomatch h),fun r hr=>absurd hr (Nat.not_lt_zero r),(fun _ h=>nomatch h),fun r hr=>by cases hr; exact Cs,by rw [aT]; simp⟩
     rw [List.getElem?_append] at hj
     split at hj
     ·rename_i ak
      exact .inr ⟨by omega,hj⟩
     ·rename_i dS
      have:j - H.length=0:=by
       rcases Nat.eq_zero_or_pos (j - H.length) with e | e
       ·exact e
       ·rw [List.getElem?_eq_none (by simp; omega)] at hj; cases hj
      rw [this] at hj
      simp at hj
      exact .inl ⟨by omega,hj.symm⟩
    have acy:∀ id,(H++[some (ah.bZ { state:=.ready,pending:=none,fn,tmps:=a.tmps,params:=ps,assign,body,defers:=w.heap.size })]).length≤id→fN id=none:=fun id bm=>by
     rw [List.length_append] at bm
     rw [yS,Nu.iD (by simp at bm; omega)]
     exact hi.fr id (by simp at bm; omega)
    have nr:bc fN (.func (.yield (w.heap.size+1)) #[] #[]::ya.toList) (#[Value.func (.yield (w.heap.size+1)) #[] #[]]++(⟨Ii⟩:Array Value)).toList:=by
     simp only [Array.toList_append]
     exact .cons (.func _ [] [] [] [] rfl (fun i x y hx _=>by simp at hx) rfl (fun i x y hx _=>by simp at hx)) (nN.mono rT)
    have CV:fN H.length=some ⟨w.heap.size+1,0,0,0⟩:=by rw [yS]; exact Nu.add_same
    refine (Pp.calls _ _ fN ?_ _ _ _ h fN _ W1 (n - 1) (tH fN (H++[some (.bZ { state:=.ready,pending:=none,fn,tmps:=a.tmps,params:=ps,assign,body,defers:=w.heap.size })])) (fun _ _ h=>h) nr lh acy (fun id b l h1 J h3=>⟨id,b,l,h1,J,h3,rfl⟩)).mono ?_
    ·intro xs Hy K hG uN as wy m O Hr m5 Pq Ct aaZ
     obtain ⟨by0,acz,hG⟩:=gl hG
     split at hG
     ·rename_i ry
      obtain ⟨rfl,hG⟩:=hG
      obtain ⟨ly,Ij,hBy⟩:=Pq.aH _ _ acz
      have OB:=Hr _ _ CV
      rw [Ij] at OB; cases OB
      have aa0:=hBy.lr _ rfl
      obtain ⟨hlen,t1,hG,ht1⟩:=Kr hG
      have hG:=lK hG
      have Cu:(⟨as⟩:Array Value).size=ps.size:=by
       have:=m5.1
       simp at this ⊢
       simpa [this] using hlen.symm
      refine ⟨fn,_,assign,body,run_yield aa0 Cu,roundIn_of_wpIn trivial ?_⟩
      have Pr:jy P { E with base:=Hy.length,rd:=true }:=⟨⟨hE.ty,hE.eq,hE.fn,hE.ft⟩,hE.HX,hE.ys⟩
      have Ps:kE ⟨wy,O,uN,Hy.length,Ct⟩ { E with base:=Hy.length,rd:=true }:=⟨Nat.le_refl _,Nu.le_trans bJ.nu (Nu.le_trans hi.mono (Nu.le_trans rT Hr))⟩
      have gL:bt ⟨wy,O,uN,Hy.length,Ct⟩ uN t1 Hy { tmps:=(ps.zip ⟨as⟩).foldl (fun tmps (t,a)=>tmps.setIfInBounds t a) a.tmps,defers:=[] } wy:=by
       refine ⟨?_,Marks.nil _ _,Pq,Ct,Kept.refl wy,fun id b l h1 J h3=>.inl (aaZ id b l h1 J h3),uN.le_refl⟩
       have:=ht1 uN a.tmps as (hi.tm.mono (Nu.le_trans rT Hr)) m5
       rw [← Array.foldl_toList]
       simpa using this
      refine iha (r:=some (w.heap.size+1)) Pr Ps (fun h=>by cases h) gL hG ?_ (fun _ _ _ _ _ _ _ h=>h.elim) (fun _ _ _ _ _ _ h=>h.elim)
      intro ν5 t5 H5 a5 w5 Ik h5
      obtain ⟨b5,Pt,h5⟩:=gl h5
      split at h5
      ·rename_i r5
       obtain ⟨rfl,h5⟩:=h5
       obtain ⟨adt,h5⟩:=lJ h5
       obtain ⟨l5,Pu,hB5⟩:=Ik.hp.aH _ _ Pt
       have OC:=Ik.mono _ _ Ij
       rw [Pu] at OC; cases OC
       have aa1:=hB5.lr _ rfl
       refine ⟨_,run_beginRound aa1 rfl,?_⟩
       have hi6:=Ik.MF { state:=.busy,pending:=none,fn,tmps:=a.tmps,params:=ps,assign,body,defers:=w.heap.size } Pt Pu
       have fin:∀ (jump:Option Code) Il t7 H7 a7 w7,bt ⟨wy,O,uN,Hy.length,Ct⟩ Il t7 H7 a7 w7→BX (fun s p=>⟨s,p,fn,a.tmps,ps,assign,body,w.heap.size⟩) H.length jump K H7 →
         ∃ v w',(Instr.endRound (w.heap.size+1) jump).run P w7=.ok v w'∧F8 K uN O wy (.returned v) w':=by
        intro jump Il t7 H7 a7 w7 Im h7
        obtain ⟨b7,Pv,h7⟩:=gl h7
        split at h7
        ·rename_i r7
         obtain ⟨rfl,h7⟩:=h7
         obtain ⟨adu,h7⟩:=lJ h7
         obtain ⟨l7,Pw,hB7⟩:=Im.hp.aH _ _ Pv
         have OD:=Im.mono _ _ Ij
         rw [Pw] at OD; cases OD
         have aa2:=hB7.lr _ rfl
         have he:=run_endRound (P:=P) jump aa2
         refine ⟨_,_,he,?_⟩
         have zo:=Im.MF { state:=if jump.isNone then .ready else .done,pending:=jump,fn,tmps:=a.tmps,params:=ps,assign,body,defers:=w.heap.size } Pv Pw
         refine ⟨.bool jump.isNone,_,Il,_,rfl,?_,.bool _,zo.mono,zo.hp,zo.fr,zo.kp,zo.own⟩
         cases jump <;> exact h7
        ·exact h7.elim
       refine ihb (r:=some (w.heap.size+1)) Pr Ps (fun h=>by cases h) hi6 h5 (fun ν t H a w hi h=>fin none _ _ _ _ _ hi h) (fun i ν t H a w hi h=>fin (some (.exit i)) _ _ _ _ _ hi h) (fun ν t H a w hi h=>fin (some .ret) _ _ _ _ _ hi h)
      ·exact h5.elim
     ·exact hG.elim
    ·rintro e w3 ⟨v,v',ν3,H3,rfl,h3,Io,Hs,CW,acA,OE,aa3⟩
     obtain ⟨b3,sD,h3⟩:=gl h3
     split at h3
     ·rename_i r3
      obtain ⟨acB,h3⟩:=lJ h3
      obtain ⟨l3,Px,hB3⟩:=CW.aH _ _ sD
      have OF:=Hs _ _ CV
      rw [Px] at OF; cases OF
      have GJ:w3.heap[w.heap.size+1]?=some (.loop r3):=hB3.lr r3 rfl
      have ak:w.heap.size+1 < w3.heap.size:=(Array.getElem?_eq_some_iff.1 GJ).1
      have CX:bt F ν3 t (H3.set H.length none) { a with defers:=[{ target:=.collected w.heap.size,args:=#[] }]++a.defers } (w3.putObj (w.heap.size+1) (.loop { r3 with state:=.exhausted })):=by
       have GK:∀ x,tH fN (H++[some (.bZ { state:=.ready,pending:=none,fn,tmps:=a.tmps,params:=ps,assign,body,defers:=w.heap.size })]) x→(F.O x∨F.W.heap.size≤x)∧W1.heap[x]?≠some (.deferred (some [])):=by
        rintro x ⟨id,c,l,h1,J,h3,rfl⟩
        obtain ⟨l',h4,hB⟩:=lh.aH id c h1
        rw [h3] at h4; cases h4
        refine ⟨?_,fun hd=>?_⟩
        ·by_cases bm:id < H.length
         ·rw [List.getElem?_append_left bm] at h1
          rw [yS,Nu.iD (by omega)] at h3
          exact hi.own id c l h1 J h3
         ·have:id=H.length:=by
           have:=(List.getElem?_eq_some_iff.1 h1).1
           simp at this; omega
          subst this
          rw [CV] at h3; cases h3
          exact .inr (by have:=hi.kp.size; show _≤w.heap.size+1; omega)
        ·cases hr:c.rc with
         | none=>obtain ⟨cur,tt,h5,_⟩:=hB.own J hr; rw [h5] at hd; cases hd
         | some r=>rw [hB.lr r hr] at hd; cases hd
       have NT:∀ D:Nat,W1.heap[D]?=some (Obj.deferred (some []))→(w3.putObj (w.heap.size+1) (.loop { r3 with state:=.exhausted })).heap[D]?=some (Obj.deferred (some [])):=fun D hD=>by
        have Ip:=(OE.aH D (Array.getElem?_eq_some_iff.1 hD).1 (fun h=>(GK D h).2 hD)).trans hD
        exact (World.putObj_heap_other (fun e=>by rw [e,GJ] at Ip; cases Ip)).trans Ip
       have cZ:∀ (id:Nat) (b:ah),(H3.set H.length none)[id]?=some (some b)→id≠H.length∧H3[id]?=some (some b):=fun id b hb=>by
        by_cases e:id=H.length
        ·subst e; rw [List.getElem?_set_self acB] at hb; cases hb
        ·rw [List.getElem?_set_ne (Ne.symm e)] at hb; exact ⟨e,hb⟩
       refine ⟨hi.tm.mono (Nu.le_trans rT Hs),?_,⟨fun id b hb=>?_,fun i j bi bj li lj h1 J=>?_⟩,fun id bm=>acA id (by simpa using bm),?_,fun id b l hb ho hl=>?_,Nu.le_trans hi.mono (Nu.le_trans rT Hs)⟩
       ·refine ⟨List.nodup_cons.2 ⟨fun hm=>?_,hi.df.1⟩,fun d hd=>?_⟩
        ·obtain ⟨D,e,_,hD⟩:=hi.df.2 _ hm
         have:=(Array.getElem?_eq_some_iff.1 hD).1
         cases e
         omega
        ·rcases List.mem_cons.1 hd with rfl | hd
         ·exact ⟨_,rfl,hi.kp.size,NT _ aaY⟩
         ·obtain ⟨D,e,h0,hD⟩:=hi.df.2 d hd
          exact ⟨D,e,h0,NT D ((Hq.block D (Array.getElem?_eq_some_iff.1 hD).1).trans hD)⟩
       ·obtain ⟨aI,hb⟩:=cZ id b hb
        obtain ⟨l,hl,hB⟩:=CW.aH id b hb
        have Hg:=CW.sep _ id _ b _ l sD hb (Ne.symm aI) rfl Px hl
        exact ⟨l,hl,hB.same (World.putObj_heap_other (Ne.symm Hg)) (by simp)⟩
       ·exact CW.sep i j bi bj li lj (cZ i bi h1).2 (cZ j bj J).2
       ·refine (hi.kp.below Hq).then (OE.then (O':=fun x=>x=w.heap.size+1) ⟨rfl,rfl,rfl,by simp,fun b h1 J=>World.putObj_heap_other J⟩ (fun b hb=>.inl (by subst hb; exact ⟨H.length,.bZ { state:=.ready,pending:=none,fn,tmps:=a.tmps,params:=ps,assign,body,defers:=w.heap.size },_,by simp,rfl,CV,rfl⟩))) (fun b hb=>(GK b hb).1)
       ·rcases aa3 id b l (cZ id b hb).2 ho hl with h | h
        ·exact (GK _ h).1
        ·exact .inr (by have:=hi.kp.size; omega)
      by_cases NU:r3.state=.busy
      ·rw [NU] at h3; exact h3.elim
      ·have he:=run_endLoop (P:=P) GJ NU
       generalize w3.putObj (w.heap.size+1) (.loop { r3 with state:=.exhausted })=w4 at CX he
       refine ⟨r3.pending,w4,he,?_⟩
       clear he
       have pick:∀ {X:Prop},(match r3.state,r3.pending with
        | .busy,_=>False
        | _,none=>kn t (H3.set H.length none)
        | _,some (.exit i)=>kx i t (H3.set H.length none)
        | _,some .ret=>kr t (H3.set H.length none)
        | _,_=>False)→(∀ s,(match (generalizing:=false) s,r3.pending with
        | LoopState.busy,_=>False
        | _,none=>kn t (H3.set H.length none)
        | _,some (.exit i)=>kx i t (H3.set H.length none)
        | _,some .ret=>kr t (H3.set H.length none)
        | _,_=>False)→X)→X:=fun h k=>k _ h
       refine pick h3 fun s h3=>?_
       cases hp:r3.pending with
       | none =>
        rw [hp] at h3
        cases s <;> first | exact h3.elim | exact hn _ _ _ _ _ CX h3
       | some c =>
        rw [hp] at h3
        cases c <;> cases s <;> first | exact h3.elim | exact wpIn_exit (hx _ _ _ _ _ _ CX h3) | exact wpIn_ret (hr _ _ _ _ _ CX h3)
     ·exact h3.elim
   ·exact h.elim
  ·exact h.elim
 | _=>exact fun _ _ _=>fun _ h _ _ _=>h.elim
def yB (tmps:Array Value):ResultVar→Sem Value
 | .tmp t=>pure (tmps.getD t undef)
 | .cell x t=>do loadVar t (← asAddr (tmps.getD x undef))
theorem RN (fn:Func) (tmps:Array Value):results fn tmps=(do let vs ← fn.results.mapM (yB tmps); pure (if h:vs.size=1 then vs[0] else .tuple vs)):=rfl
theorem RO (a:Addr):asAddr (.pointer (some a))=pure a:=rfl
theorem Ds (hE:jy P E) {ν:Nu} {tmps:List Value} {H:ax} {a:Act} {w:World} (hi:bt F ν tmps H a w):∀ {l:List ResultVar} {k:List Value→Prop},vN E H tmps l k →
  ∃ vs fA,k vs∧bc ν vs fA∧(l.mapM (yB a.tmps)).run P w=.ok fA w
 | [],k,h=>⟨[],[],h,.nil ν,rfl⟩
 | .tmp t::l,k,h=>by
  obtain ⟨v,hv,h⟩:=n6 h
  obtain ⟨v',uI,hr⟩:=hi.tm.get hv
  obtain ⟨vs,fA,h1,J,h3⟩:=Ds hE hi h
  have e:a.tmps.getD t undef=v':=by
   have:a.tmps[t]?=some v':=by simpa using uI
   simp [this]
  exact ⟨v::vs,v'::fA,h1,.cons hr J,by simp only [List.mapM_cons,yB,Sem.run_bind,Sem.run_pure,Result.andThen_ok,h3,e]⟩
 | .cell x t::l,k,h=>by
  obtain ⟨v,hv,h⟩:=n6 h
  obtain ⟨v',uI,hr⟩:=hi.tm.get hv
  split at h
  ·rename_i id row sp
   obtain ⟨ti,ht,h⟩:=cI h
   obtain ⟨b,hb,h⟩:=gl h
   obtain ⟨aX,h⟩:=K1 h
   obtain ⟨us,h,hl,r9⟩:=xF h
   obtain ⟨lc,dy,hB⟩:=hi.hp.aH id b hb
   obtain ⟨lc',OG,he⟩:=hr.og
   rw [dy] at OG; cases OG
   obtain ⟨us',h1,J,h3⟩:=Kg hB aX hl r9
   obtain ⟨vs,fA,k1,k2,k3⟩:=Ds hE hi h
   have e:a.tmps.getD x undef=v':=by
    have:a.tmps[x]?=some v':=by simpa using uI
    simp [this]
   refine ⟨_,_::fA,k1,.cons (D9 h1) k2,?_⟩
   simp only [List.mapM_cons,yB,Sem.run_bind,Result.andThen_ok,e,he,RO,Sem.run_pure,Jw (hE.ty _ _ ht) J h3,k3]
  ·exact h.elim
/-- Blocks of deferred calls have been shut; all else is as it was. -/
structure nE (n0:Nat) (w w':World):Prop where
 os:w'.os=w.os
 tape:w'.tape=w.tape
 output:w'.output=w.output
 size:w'.heap.size=w.heap.size
 low:∀ q:Nat,q < n0→w'.heap[q]?=w.heap[q]?
 same:∀ (q:Nat) (o:Obj),(∀ c,o≠.deferred c)→w.heap[q]?=some o→w'.heap[q]?=some o
theorem nE.refl (n0:Nat) (w:World):nE n0 w w:=⟨rfl,rfl,rfl,rfl,fun _ _=>rfl,fun _ _ _ h=>h⟩
theorem nE.trans {n0:Nat} {w w' Py:World} (h:nE n0 w w') (k:nE n0 w' Py):nE n0 w Py :=
 ⟨k.os.trans h.os,k.tape.trans h.tape,k.output.trans h.output,k.size.trans h.size,fun q hq=>(k.low q hq).trans (h.low q hq),fun q o ho hq=>k.same q o ho (h.same q o ho hq)⟩
theorem Ul {n0 D:Nat} {w:World} (hD:w.heap[D]?=some (Obj.deferred (some []))) (h0:n0≤D):nE n0 w (w.putObj D (.deferred none)) :=
 ⟨rfl,rfl,rfl,by simp,fun q hq=>World.putObj_heap_other (by omega),fun q o ho hq=>(World.putObj_heap_other (fun e=>by subst e; rw [hD] at hq; cases hq; exact ho _ rfl)).trans hq⟩
theorem JB {fn:Func} {tmps:Array Value} {R:Ending→World→Prop} {n0:Nat}:∀ (ds:List Deferred) (w:World),Marks n0 ds w→(∀ w',nE n0 w w'→∃ v,(results fn tmps).run P w'=.ok v w'∧R (.returned v) w')→LeavesInM Fence.wide n P fn tmps R ds .returning w
 | [],w,_,h=>h w (nE.refl n0 w)
 | d::ds,w,hm,h=>by
  obtain ⟨D,rfl,h0,hD⟩:=hm.2 d (List.mem_cons_self ..)
  have jH:=List.nodup_cons.1 hm.1
  refine ⟨by simp,.inl ⟨D,w.putObj D (.deferred none),rfl,run_takeDeferred hD,?_⟩⟩
  refine JB ds _ ⟨jH.2,fun e he=>?_⟩ fun w' hw'=>h w' ((Ul hD h0).trans hw')
  obtain ⟨D',rfl,h1,zt⟩:=hm.2 e (List.mem_cons_of_mem _ he)
  exact ⟨D',rfl,h1,(World.putObj_heap_other (fun e2=>jH.1 (by rw [← e2]; exact he))).trans zt⟩
theorem bN.shut {ν:Nu} {l:Loc} {b:ah} {n0:Nat} {w w':World} (h:bN ν l b w) (hs:nE n0 w w'):bN ν l b w':=by
 refine ⟨h.ae,h.len,fun r hr j v hv=>?_,h.plain,h.one,fun ho hc=>?_,fun r hr=>hs.same _ _ (fun c=>by simp) (h.lr r hr),by rw [hs.size]; exact h.live⟩
 ·obtain ⟨v',h1,J⟩:=h.cell r hr j v hv
  refine ⟨v',?_,J⟩
  have h3:=h1
  unfold World.cell? at h3
  cases ho:w.heap[(l.at r j).block]? with
  | none=>simp [ho] at h3
  | some o =>
   have:∀ c,o≠Obj.deferred c:=fun c e=>by subst e; simp [ho] at h3
   rw [World.cell?_of_block (a:=l.at r j) ((hs.same _ _ this ho).trans ho.symm)]
   exact h1
 ·obtain ⟨cur,t,h1,J⟩:=h.own ho hc
  exact ⟨cur,t,hs.same _ _ (fun c=>by simp) h1,J⟩
theorem bR.shut {ν:Nu} {H:ax} {n0:Nat} {w w':World} (h:bR ν H w) (hs:nE n0 w w'):bR ν H w' :=
 ⟨fun id b hi=>let ⟨l,h1,J⟩:=h.aH id b hi; ⟨l,h1,J.shut hs⟩,h.sep⟩
/-- The evaluation of a whole function. -/
def cc (E:Env) (D:Env→List Oper→List Value→ax→SK→Prop) (fn:Func) (args:List Value) (H:ax) (K:Value→ax→Prop):Prop :=
 match fn.body with
 | some c=>ja H fun n0=>pP args (List.replicate (fn.ntmps - args.length) undef) fun t0 =>
  vc { E with base:=n0 } D c t0 H (fun t H=>vN { E with base:=n0 } H t fn.results.toList fun vs=>Cr vs fun v=>K v H) (fun _ _ _=>False) (fun t H=>vN { E with base:=n0 } H t fn.results.toList fun vs=>Cr vs fun v=>K v H)
 | none=>False
theorem jy.at {E:Env} (hE:jy P E) (n0:Nat):jy P { E with base:=n0 }:=⟨⟨hE.ty,hE.eq,hE.fn,hE.ft⟩,hE.HX,hE.ys⟩
theorem xR (hE:jy P E) (hD:mY P D) {f:FuncId} {fn:Func} (hf:P.funcs[f]?=some fn) {args as:List Value} {H:ax} {ν:Nu} {w:World} {O:Nat→Prop} {K:Value→ax→Prop} {n:Nat}
  (h:cc E D fn args H K) (ha:bc ν args as) (hH:bR ν H w) (fM:∀ id,H.length≤id→ν id=none)
  (jX:∀ id b l,H[id]?=some (some b)→b.own=true→ν id=some l→O l.aH) (hnu:E.nu.le ν) {R:Ending→World→Prop}
  (hR:∀ aj v v' t H' a w',bt ⟨w,O,ν,H.length,fM⟩ aj t H' a w'→K v H'→ao aj v v'→R (.returned v') w'):CallsIn Fence.wide n P f ⟨as⟩ w R:=by
 unfold cc at h
 split at h
 ·rename_i c hc
  have h:=vB (lK h)
  refine callsIn_of_wp_marks hf hc trivial ?_
  have hi:bt ⟨w,O,ν,H.length,fM⟩ ν (args++List.replicate (fn.ntmps - args.length) undef) H { tmps:=(⟨as⟩:Array Value)++Array.replicate (fn.ntmps - (⟨as⟩:Array Value).size) undef,defers:=[] } w:=by
   refine ⟨?_,Marks.nil _ _,hH,fM,Kept.refl w,fun id b l h1 J h3=>.inl (jX id b l h1 J h3),ν.le_refl⟩
   have e:((⟨as⟩:Array Value)++Array.replicate (fn.ntmps - (⟨as⟩:Array Value).size) undef).toList=as++List.replicate (fn.ntmps - args.length) undef:=by
    simp [ha.1]
   rw [e]
   refine ha.append ⟨rfl,fun i x y hx hy=>?_⟩
   rw [hx] at hy; cases hy
   have:=List.mem_of_getElem? hx
   simp at this
   rw [this.2]; exact .undef ν
  have Pz:=hE.at H.length
  have fin:∀ aj t H' a w',bt ⟨w,O,ν,H.length,fM⟩ aj t H' a w'→(vN { E with base:=H.length } H' t fn.results.toList fun vs=>Cr vs fun v=>K v H')→LeavesInM Fence.wide n P fn a.tmps R a.defers .returning w':=by
   intro aj t H' a w' gk h'
   refine JB a.defers w' gk.df fun w2 hs=>?_
   have aM:bt ⟨w,O,ν,H.length,fM⟩ aj t H' { tmps:=a.tmps,defers:=[] } w2 :=
    ⟨gk.tm,Marks.nil _ _,gk.hp.shut hs,gk.fr,⟨hs.os.trans gk.kp.os,hs.tape.trans gk.kp.tape,hs.output.trans gk.kp.output,by rw [hs.size]; exact gk.kp.size,fun b h1 J=>(hs.low b h1).trans (gk.kp.aH b h1 J)⟩,gk.own,gk.mono⟩
   obtain ⟨vs,fA,h1,J,h3⟩:=Ds Pz aM h'
   have acC:(fn.results.mapM (yB a.tmps)).run P w2=.ok ⟨fA⟩ w2:=by
    rw [Array.mapM_eq_mapM_toList]
    simp only [Sem.run_map,h3,Result.andThen_ok]
   rw [RN]
   simp only [Sem.run_bind,acC,Result.andThen_ok,Sem.run_pure]
   refine ⟨_,rfl,?_⟩
   unfold Cr at h1
   split at h1
   ·rename_i v
    obtain ⟨y,ys,rfl,k1,k2⟩:=J.iQ
    rw [k2.iC]
    exact hR _ _ _ _ _ _ _ aM h1 k1
   ·rename_i aI
    have hlen:¬ ((⟨fA⟩:Array Value).size=1):=by
     intro e
     have:vs.length=1:=by rw [J.1]; exact e
     obtain ⟨v,rfl⟩:=List.length_eq_one_iff.1 this
     exact aI v rfl
    rw [dif_neg hlen]
    exact hR _ _ _ _ _ _ _ aM h1 (.tuple _ _ J.1 J.2)
  exact Uk hD c (r:=none) (F:=⟨w,O,ν,H.length,fM⟩) Pz ⟨Nat.le_refl _,hnu⟩ (fun _=>rfl) hi h (fun ν t H a w' aM h'=>fin ν t H a w' aM h') (fun _ _ _ _ _ _ _ h'=>h'.elim) (fun ν t H a w' aM h'=>fin ν t H a w' aM h')
 ·exact h.elim
theorem Bf {E:Env} {ν:Nu} (h:E.nu=fun _=>none):E.nu.le ν:=by rw [h]; exact fun _ _ h=>nomatch h
/-- A contract without blocks out of the evaluation. -/
theorem bf {S:bz} (hE:EnvOk P E) (hD:mY P D) {f:FuncId} {fn:Func} (hf:P.funcs[f]?=some fn) (nJ:∀ args w,(callFunc f args).run P w=.ok (.enter f args) w)
  (ha:∀ i,AG (S.args i)=true) (hv:∀ i,BB (S.val i)=true) (h:∀ i,S.pre i→cc E D fn (S.args i) [] fun v _=>v=S.val i)
  (hI:gB P E:=by exact gB.none rfl) (hy:E.ys=[]:=by rfl) (hu:E.nu=(fun _=>none):=by rfl):aZ P f S:=by
 refine ⟨nJ,fun i hp ν as w n has=>?_⟩
 have e:=(Dr (ha i)).2 ν as has
 subst e
 refine xR (O:=fun _=>False) (ν:=fun _=>none) (hE.x hI hy) hD hf (h i hp) ((Dr (ha i)).1 _) ⟨fun id b hb=>by simp at hb,fun i j bi bj li lj hi=>by simp at hi⟩ (fun _ _=>rfl) (fun id b l hb=>by simp at hb) (Bf hu) ?_
 rintro aj v v' t H a w' hi rfl hr
 exact ⟨v',rfl,by rw [(xC (hv i)).2 _ _ hr]; exact (xC (hv i)).1 ν,⟨hi.kp.os,hi.kp.tape,hi.kp.output,hi.kp.size,fun k hk=>hi.kp.aH k hk (fun h=>h)⟩⟩
/-- A function walked through where it is called. -/
theorem iV (hE:EnvOk P E) (hD:mY P D) {f:FuncId} {fn:Func} (hf:P.funcs[f]?=some fn) (nJ:∀ args w,(callFunc f args).run P w=.ok (.enter f args) w)
  (hI:gB P E:=by exact gB.none rfl) (hy:E.ys=[]:=by rfl) (hu:E.nu=(fun _=>none):=by rfl):fK P f (cc E D fn):=by
 refine ⟨nJ,fun args H K h ν as w n O ha hH fM jX=>xR (hE.x hI hy) hD hf h ha hH fM jX (Bf hu) ?_⟩
 intro aj v v' t H' a w' hi hk hv
 exact ⟨v,v',aj,H',rfl,hk,hv,hi.mono,hi.hp,hi.fr,hi.kp,hi.own⟩
/-- An iterator walked through where it is ranged over. -/
theorem NV (hE:EnvOk P E) (hD:mY P D) {f:FuncId} {fn:Func} (hf:P.funcs[f]?=some fn) (nJ:∀ args w,(callFunc f args).run P w=.ok (.enter f args) w)
  (hI:gB P E:=by exact gB.none rfl):yN P f (fun l G nu=>cc { E with ys:=[(l,G)],nu:=nu } D fn):=by
 refine ⟨nJ,fun l G bh hY args H K h ν as w n O hle ha hH fM jX=>?_⟩
 refine xR (E:={ E with ys:=[(l,G)],nu:=bh }) ⟨⟨hE.ty,hE.eq,hE.fn,hE.ft⟩,hI,fun l' G' r e=>by cases e; exact hY⟩ hD hf h ha hH fM jX hle ?_
 intro aj v v' t H' a w' hi hk hv
 exact ⟨v,v',aj,H',rfl,hk,hv,hi.mono,hi.hp,hi.fr,hi.kp,hi.own⟩
end
end Go.Ae
/- A table of types, checked by evaluation. -/
namespace Go.Ae
open Go Go.RowKit
def Eu:Value→Bool
 | .bool _ | .int _ _ | .string _ | .pointer none | .nilFunc=>true
 | .slice none 0 0=>true
 | _=>false
theorem QC {v:Value} (h:Eu v=true):(∀ ν,ao ν v v)∧v.oneCell'=true:=by
 unfold Eu at h
 split at h
 ·exact ⟨fun ν=>.bool _,rfl⟩
 ·exact ⟨fun ν=>.int _ _,rfl⟩
 ·exact ⟨fun ν=>.str _,rfl⟩
 ·exact ⟨fun ν=>.lS,rfl⟩
 ·exact ⟨fun ν=>.lT,rfl⟩
 ·exact ⟨fun ν=>.iY,rfl⟩
 ·cases h
def Ax:List Value→Bool
 | []=>true
 | v::l=>Eu v && Ax l
theorem Jn:∀ {l:List Value},Ax l=true→(∀ ν,bc ν l l)∧∀ v∈l,v.oneCell'=true
 | [],_=>⟨fun ν=>.nil ν,fun v hv=>by simp at hv⟩
 | v::l,h=>by
  simp only [Ax,Bool.and_eq_true] at h
  obtain ⟨h1,J⟩:=QC h.1
  obtain ⟨h3,h4⟩:=Jn h.2
  exact ⟨fun ν=>.cons (h1 ν) (h3 ν),fun u hu=>by
   rcases List.mem_cons.1 hu with e | e
   ·rw [e]; exact J
   ·exact h4 u e⟩
def vY (P:Program):List Field→List (Nat × Nat × Bool)→Bool
 | [],[]=>true
 | f::l,x::m=>Nat.beq f.offset x.1 && Nat.ble 1 x.2.1 && (match P.info? f.type with | some i=>Nat.beq i.size x.2.1 | none=>false) &&
  (match P.underlying f.type with | some d=>(tF d == x.2.2) | none=>false) && vY P l m
 | _,_=>false
theorem JC {P:Program}:∀ {l:List Field} {m:List (Nat × Nat × Bool)},vY P l m=true→l.length=m.length∧∀ (i:Nat) f x,l[i]?=some f→m[i]?=some x→xY P f x
 | [],[],_=>⟨rfl,fun i f x h=>by simp at h⟩
 | f::l,x::m,h=>by
  simp only [vY,Bool.and_eq_true] at h
  obtain ⟨⟨⟨⟨h1,J⟩,h3⟩,h4⟩,h5⟩:=h
  obtain ⟨k1,k2⟩:=JC h5
  refine ⟨by simp [k1],fun i g y hg hy=>?_⟩
  cases i with
  | zero =>
   simp at hg hy
   subst hg; subst hy
   refine ⟨Nat.eq_of_beq_eq_true h1,Nat.le_of_ble_eq_true J,?_,?_⟩
   ·split at h3
    ·exact ⟨_,by assumption,Nat.eq_of_beq_eq_true h3⟩
    ·cases h3
   ·split at h4
    ·exact ⟨_,by assumption,by simpa using h4⟩
    ·cases h4
  | succ i=>exact k2 i g y (by simpa using hg) (by simpa using hy)
 | [],_::_,h=>by simp [vY] at h
 | _::_,[],h=>by simp [vY] at h
def GL (P:Program) (t:TypeId) (k:TK):Bool :=
 match k,P.underlying t with
 | .int q,some (.int q')=>decide (q=q')
 | .bool,some .bool=>true
 | .str,some .string=>true
 | .struct fs,some (.struct fields)=>vY P fields.toList fs
 | .slice e,some (.slice e')=>Nat.beq e e'
 | .array n e,some (.array n' e')=>Nat.beq n n' && Nat.beq e e'
 | .other,some d=>!tF d
 | _,_=>false
theorem RP {P:Program} {t:TypeId} {k:TK} (h:GL P t k=true):∃ d,P.underlying t=some d∧CI P k d:=by
 unfold GL at h
 split at h
 ·exact ⟨_,by assumption,by rw [of_decide_eq_true h]; rfl⟩
 ·exact ⟨_,by assumption,rfl⟩
 ·exact ⟨_,by assumption,rfl⟩
 ·obtain ⟨h1,J⟩:=JC h
  exact ⟨_,by assumption,_,rfl,by simpa using h1,fun i f x hf hx=>J i f x (by simpa using hf) hx⟩
 ·exact ⟨_,by assumption,by rw [Nat.eq_of_beq_eq_true h]; rfl⟩
 ·simp only [Bool.and_eq_true] at h
  exact ⟨_,by assumption,by rw [Nat.eq_of_beq_eq_true h.1,Nat.eq_of_beq_eq_true h.2]; rfl⟩
 ·exact ⟨_,by assumption,by simpa [CI] using h⟩
 ·cases h
def No (ti:TI):Bool:=Ax ti.zero && Nat.beq ti.zero.length ti.size && Nat.ble 1 ti.size && Nat.ble 1 ti.bytes
theorem aG {P:Program} {t:TypeId} {ti:TI} (h1:(P.info? t).map (fun i=>(i.size,i.bytes,i.zero.map fun z=>z.cells.toList))=some (ti.size,ti.bytes,some ti.zero)) (J:GL P t ti.kind=true) (h3:No ti=true):ay P t ti:=by
 obtain ⟨i,hi,he⟩:=Option.map_eq_some_iff.1 h1
 simp only [Prod.mk.injEq] at he
 obtain ⟨e1,e2,e3⟩:=he
 obtain ⟨z,hz,nN⟩:=Option.map_eq_some_iff.1 e3
 simp only [No,Bool.and_eq_true] at h3
 obtain ⟨⟨⟨k1,k2⟩,k3⟩,k4⟩:=h3
 obtain ⟨k5,k6⟩:=Jn k1
 exact ⟨⟨i,hi,e1,e2,z,hz,Array.ext' nN⟩,RP J,k5,Nat.eq_of_beq_eq_true k2,k6,Nat.le_of_ble_eq_true k3,Nat.le_of_ble_eq_true k4⟩
/-! ### '==' of structs -/
/-- The cells of a type, as its '==' goes through them: kinds, or a struct's fields. -/
inductive ET where
 | bool | int (k:IntKind) | str
 | struct (fs:List (Nat × ET))      -- each field's size and shape
end Go.Ae
/- Regions that draw their order: whatever order the machine takes, it comes to what the text's order gives, if the operations ahead of the last ones write nothing and each slot has its order. -/
namespace Go.Ae
open Go Go.RowKit
/-- The slots that an operation reads (its guard's too). -/
def ik:List Operand→List Tmp
 | []=>[]
 | .tmp t::l=>t::ik l
 | _::l=>ik l
theorem oY {t:Tmp}:∀ {l:List Operand},Operand.tmp t∈l→t∈ik l
 | .tmp u::l,h=>by
  rcases List.mem_cons.1 h with e | e
  ·cases e; simp [ik]
  ·simp [ik,oY e]
 | .const v::l,h=>by
  rcases List.mem_cons.1 h with e | e
  ·cases e
  ·simpa [ik] using oY e
 | .global v::l,h=>by
  rcases List.mem_cons.1 h with e | e
  ·cases e
  ·simpa [ik] using oY e
 | .func v::l,h=>by
  rcases List.mem_cons.1 h with e | e
  ·cases e
  ·simpa [ik] using oY e
def iO (ops:List Oper) (o:Oper):List Tmp :=
 ik o.op.operands.toList++(match o.guard with | some (j,_)=>(match (ops[j]?).bind (·.dst) with | some d=>[d] | none=>[]) | none=>[])
/-- The check, by evaluation. masks: for each operation some of those that must have gone before it. -/
def Bg (ops:List Oper) (aP:List (List Nat)):Bool :=
 (List.range ops.length).all fun j=>match ops[j]? with
  | some o=>(aP.getD j []).all fun i=>i < j && o.after.toList.any fun e=>Region.binds .any e && (e.on == i || ((aP.getD e.on []).contains i && decide (e.on < j)))
  | none=>true
def BC (ops:List Oper) (m:Nat) (aP:List (List Nat)):Bool :=
 decide (m≤ops.length) && Bg ops aP &&
 (List.range ops.length).all (fun j=>match ops[j]? with
  | some o=>o.after.toList.all fun e=>!Region.binds .any e || decide (e.on < j)
  | none=>true) &&
 (List.range m).all (fun j=>match ops[j]? with
  | some o=>(List.range m).all fun i=>i == j || match ops[i]? with
   | some p=>match p.dst with
    | some d=>(o.dst != some d) && (!(iO ops o).contains d || (aP.getD j []).contains i || (aP.getD i []).contains j)
    | none=>true
   | none=>true
  | none=>true) &&
 (List.range ops.length).all (fun j=>decide (j < m) || (List.range j).all fun i=>(aP.getD j []).contains i)
/-- New blocks of the operations that have gone before. -/
def kO:List (Option ah)→Nat→List Nat→(List (Option ah)→Prop)→Prop
 | [],_,_,k=>k []
 | b::S,i,mask,k=>match mask with
  | m::ms=>match Nat.beq m i with
   | true=>kO S (i+1) ms fun S'=>k (b::S')
   | false=>kO S (i+1) (m::ms) fun S'=>k (none::S')
  | []=>kO S (i+1) [] fun S'=>k (none::S')
def m6:ax→List (Option ah)→(ax→Prop)→Prop
 | [],S,k=>k S
 | b::H,S,k=>m6 H S fun G=>k (b::G)
theorem s9:∀ {H:ax} {S:List (Option ah)} {k:ax→Prop},m6 H S k→k (H++S)
 | [],_,_,h=>h
 | _::H,S,k,h=>s9 (H:=H) h
def iW:List (Option ah)→Option ah→(List (Option ah)→Prop)→Prop
 | [],b,k=>k [b]
 | c::S,b,k=>iW S b fun S'=>k (c::S')
theorem sT:∀ {S:List (Option ah)} {b:Option ah} {k:List (Option ah)→Prop},iW S b k→k (S++[b])
 | [],_,_,h=>h
 | _::S,b,k,h=>sT (S:=S) h
def kP (E:Env) (ops:List Oper) (H:ax) (n0:Nat):List Oper→List (List Nat)→Nat→List Value→List (Option ah)→(List Value→List (Option ah)→Prop)→Prop
 | [],_,_,t,S,k=>k t S
 | o::l,mask::aP,j,t,S,k =>
  match o.guard with
  | none=>kO S 0 mask fun Sm=>m6 H Sm fun G=>kD E o.op t G (n0+j) fun v nb=>db t o.dst v fun t'=>iW S nb fun S'=>kP E ops H n0 l aP (j+1) t' S' k
  | some (g,want)=>match (ops[g]?).bind (·.dst) with
   | some d=>pO t d fun v=>match v with
    | .bool b=>br (b == want)
      (kO S 0 mask fun Sm=>m6 H Sm fun G=>kD E o.op t G (n0+j) fun v nb=>db t o.dst v fun t'=>iW S nb fun S'=>kP E ops H n0 l aP (j+1) t' S' k)
      (db t o.dst undef fun t'=>iW S none fun S'=>kP E ops H n0 l aP (j+1) t' S' k)
    | .tuple _=>db t o.dst undef fun t'=>iW S none fun S'=>kP E ops H n0 l aP (j+1) t' S' k
    | _=>False
   | none=>False
 | _::_,[],_,_,_,_=>False
def tV:List Oper→Nat→(List Oper→List Oper→Prop)→Prop
 | l,0,k=>k [] l
 | [],_+1,_=>False
 | o::l,m+1,k=>tV l m fun a b=>k (o::a) b
theorem xK:∀ {l:List Oper} {m:Nat} {k:List Oper→List Oper→Prop},tV l m k→m≤l.length∧k (l.take m) (l.drop m)
 | l,0,_,h=>⟨by simp,by simpa [tV] using h⟩
 | [],_+1,_,h=>h.elim
 | o::l,m+1,k,h=>by
  obtain ⟨h1,J⟩:=xK (l:=l) h
  exact ⟨by simp; omega,by simpa using J⟩
/-- A region that draws. -/
def NW (E:Env) (ops:List Oper) (t:List Value) (H:ax) (k:SK):Prop :=
 ∃ (m:Nat) (aP:List (List Nat)),BC ops m aP=true∧ja H fun n0=>tV ops m fun hd tl=>kP E ops H n0 hd aP 0 t [] fun t' S=>m6 H S fun G=>mS E ops tl t' G k
/-! ### What the evaluation says of each operation -/
structure cV where
 v:Value
 nb:Option ah
 run:Bool
/-- The slots and the new blocks when the operations of D have gone. -/
def bM (ops:List Oper) (i:Nat):Option Tmp:=(ops[i]?).bind (·.dst)
def a8 (ops:List Oper) (rs:List cV) (D:Nat→Bool) (t0:List Value):Nat→List Value
 | 0=>t0
 | i+1=>match D i,bM ops i,rs[i]? with
  | true,some d,some r=>(a8 ops rs D t0 i).set d r.v
  | _,_,_=>a8 ops rs D t0 i
def ko (rs:List cV) (D:Nat→Bool) (m:Nat):List (Option ah):=(List.range m).map fun i=>if D i then (rs[i]?).bind (·.nb) else none
section
variable {ops:List Oper} {rs:List cV} {t0:List Value}
theorem qQ (D:Nat→Bool):∀ m,(a8 ops rs D t0 m).length=t0.length
 | 0=>rfl
 | m+1=>by
  unfold a8
  split
  ·rw [List.length_set]; exact qQ D m
  ·exact qQ D m
/-- No two of the first m write one slot. -/
def wJ (ops:List Oper) (m:Nat):Prop:=∀ i j d,i < m→j < m→bM ops i=some d→bM ops j=some d→i=j
theorem vD (D:Nat→Bool) {d:Tmp}:∀ m,(∀ i,i < m→D i=true→bM ops i=some d→rs[i]?=none)→(a8 ops rs D t0 m)[d]?=t0[d]?
 | 0,_=>rfl
 | m+1,h=>by
  unfold a8
  split
  ·rename_i d' r hD hd hr
   have aI:d'≠d:=fun e=>by subst e; rw [h m (by omega) hD hd] at hr; cases hr
   rw [List.getElem?_set_ne aI]
   exact vD D m (fun i hi=>h i (by omega))
  ·exact vD D m (fun i hi=>h i (by omega))
theorem ta (D:Nat→Bool) {d:Tmp} {i:Nat} {r:cV} (hd:bM ops i=some d) (hr:rs[i]?=some r) (hD:D i=true) (ak:d < t0.length) :
  ∀ m,i < m→wJ ops m→(a8 ops rs D t0 m)[d]?=some r.v
 | 0,h,_=>by omega
 | m+1,h,ha=>by
  by_cases e:i=m
  ·subst e
   unfold a8
   rw [hD,hd,hr]
   dsimp only
   rw [List.getElem?_set_self]
   rw [qQ]; exact ak
  ·have ih:=ta D hd hr hD ak m (by omega) (fun a b c h1 J=>ha a b c (by omega) (by omega))
   unfold a8
   split
   ·rename_i d' r' zt cM jb
    have aI:d'≠d:=fun e'=>by subst e'; exact e (ha i m d' (by omega) (by omega) hd cM)
    rw [List.getElem?_set_ne aI]; exact ih
   ·exact ih
/-- What two views have in common. -/
theorem xL {D D':Nat→Bool} {d:Tmp} {m:Nat} (ha:wJ ops m) (ak:∀ i d,i < m→bM ops i=some d→d < t0.length) (h:∀ i,i < m→bM ops i=some d→D i=D' i) :
  (a8 ops rs D t0 m)[d]?=(a8 ops rs D' t0 m)[d]?:=by
 by_cases hex:∃ i r,i < m∧bM ops i=some d∧D i=true∧rs[i]?=some r
 ·obtain ⟨i,r,hi,hd,hD,hr⟩:=hex
  rw [ta D hd hr hD (ak i d hi hd) m hi ha,ta D' hd hr (by rw [← h i hi hd]; exact hD) (ak i d hi hd) m hi ha]
 ·rw [vD D m,vD D' m]
  ·intro i hi hD hd
   cases hr:rs[i]? with
   | none=>rfl
   | some r=>exact absurd ⟨i,r,hi,hd,by rw [h i hi hd]; exact hD,hr⟩ hex
  ·intro i hi hD hd
   cases hr:rs[i]? with
   | none=>rfl
   | some r=>exact absurd ⟨i,r,hi,hd,hD,hr⟩ hex
/-- One more has gone. -/
theorem Ks {D D':Nat→Bool} {m j:Nat} (ha:wJ ops m) (ak:∀ i d,i < m→bM ops i=some d→d < t0.length) (hj:j < m) (hDj:D j=false) (zt:∀ i,D' i=(D i || i == j)) {r:cV} (hr:rs[j]?=some r) :
  a8 ops rs D' t0 m=match bM ops j with | some d=>(a8 ops rs D t0 m).set d r.v | none=>a8 ops rs D t0 m:=by
 apply List.ext_getElem?
 intro x
 have PA:∀ i,i≠j→D' i=D i:=fun i hi=>by rw [zt i]; simp [hi]
 cases hd:bM ops j with
 | none =>
  dsimp only
  refine xL ha ak (fun i hi fC=>PA i (fun e=>?_))
  subst e; rw [hd] at fC; cases fC
 | some d =>
  dsimp only
  by_cases e:d=x
  ·subst e
   have hl:=ak j d hj hd
   rw [List.getElem?_set_self (by rw [qQ]; exact hl)]
   exact ta D' hd hr (by rw [zt j]; simp) hl m hj ha
  ·rw [List.getElem?_set_ne e]
   refine xL ha ak (fun i hi fC=>PA i (fun e'=>?_))
   subst e'; rw [hd] at fC; cases fC; exact e rfl
theorem qT {D:Nat→Bool} {m i:Nat} {b:ah}:(ko rs D m)[i]?=some (some b)↔i < m∧D i=true∧(rs[i]?).bind (·.nb)=some b:=by
 unfold ko
 rw [List.getElem?_map]
 by_cases h:i < m
 ·simp only [List.getElem?_range h,Option.map_some,Option.some.injEq]
  cases D i <;> simp [h]
 ·rw [List.getElem?_eq_none (by simp; omega)]
  simp [h]
theorem JD (D:Nat→Bool) (m:Nat):(ko rs D m).length=m:=by simp [ko]
end
/-- Operations that give a value out of their operands alone. -/
def lM:Op→Bool
 | .move _=>true
 | .extract _ _=>true
 | .binOp _ _ _ _ _=>true
 | .slice _ _ _ _ _=>true
 | _=>false
/-- Operations that give a value out of their operands and the heap. -/
def lN:Op→Bool
 | .load _ _=>true
 | .indexAddr _ _ _=>true
 | .call c=>match c.callee with
  | .builtin .len=>true
  | _=>false
 | _=>false
/-- What the evaluation says of head operation j. -/
structure oi (P:Program) (ops:List Oper) (t0:List Value) (H:ax) (aP:List (List Nat)) (rs:List cV) (j:Nat):Prop where
 ok:∃ o r,ops[j]?=some o∧rs[j]?=some r∧(∀ d,o.dst=some d→d < t0.length) ∧
  ((∃ G:ax,(∀ id b,G[id]?=some (some b)→(id < H.length∧H[id]?=some (some b))∨(∃ i,id=H.length+i∧i < j∧i∈aP.getD j []∧(rs[i]?).bind (·.nb)=some b)) ∧
    (∀ (ν:Nu) (a:Act) (w:World) (q:Option Nat) (n:Nat),(∀ x∈o.op.operands,eW ν (a8 ops rs (fun i=>decide (i < j)) t0 j) a x)→bR ν G w→ν (H.length+j)=none →
     ∀ next Q,(∀ v' w' aj,mH ν aj (H.length+j) w w' r.v v' r.nb→next (a.put o.dst v') w')→o.wpIn (WF q) n P a w next Q) ∧
    (o.guard=none∨∃ g want d b,o.guard=some (g,want)∧bM ops g=some d∧(a8 ops rs (fun i=>decide (i < j)) t0 j)[d]?=some (.bool b)∧(b == want)=true)) ∨
    (r.v=undef∧r.nb=none∧∃ g want d v,o.guard=some (g,want)∧bM ops g=some d∧(a8 ops rs (fun i=>decide (i < j)) t0 j)[d]?=some v∧((∃ b,v=.bool b∧(b == want)=false)∨∃ vs,v=.tuple vs)))
 mv:∀ o,ops[j]?=some o→(lM o.op || lN o.op)=true→o.guard=none→∃ r,rs[j]?=some r∧r.nb=none∧∃ G:ax,(∀ id b,G[id]?=some (some b)→(id < H.length∧H[id]?=some (some b))∨(∃ i,id=H.length+i∧i < j∧i∈aP.getD j []∧(rs[i]?).bind (·.nb)=some b)) ∧
  (lM o.op=true→∀ (bh:Nu) (w0:World),bR bh G w0→pF P bh o.op (a8 ops rs (fun i=>decide (i < j)) t0 j) r.v)∧(lN o.op=true→∀ bh,nq P bh G o.op (a8 ops rs (fun i=>decide (i < j)) t0 j) r.v)
/-- The same, and what such an operation gives. -/
theorem RQ {P:Program} {E:Env} (hE:EnvOk P E) {op:Op} {tmps:List Value} {H:ax} {aE:Nat} {k:QK} (h:kD E op tmps H aE k) :
  ∃ v nb,k v nb∧(∀ (o:Oper) (ν:Nu) (a:Act) (w:World) (r:Option Nat) (n:Nat),o.op=op→(∀ x∈op.operands,eW ν tmps a x)→bR ν H w→ν aE=none →
   ∀ next Q,(∀ v' w' aj,mH ν aj aE w w' v v' nb→next (a.put o.dst v') w')→o.wpIn (WF r) n P a w next Q) ∧
   (lM op=true→nb=none∧∀ (bh:Nu) (w0:World),bR bh H w0→pF P bh op tmps v)∧(lN op=true→nb=none∧∀ bh,nq P bh H op tmps v):=by
 have mk:lN op=false→∀ v,k v none→(∀ (bh:Nu) (w0:World),bR bh H w0→pF P bh op tmps v)→∃ v nb,k v nb∧(∀ (o:Oper) (ν:Nu) (a:Act) (w:World) (r:Option Nat) (n:Nat),o.op=op→(∀ x∈op.operands,eW ν tmps a x)→bR ν H w→ν aE=none →
   ∀ next Q,(∀ v' w' aj,mH ν aj aE w w' v v' nb→next (a.put o.dst v') w')→o.wpIn (WF r) n P a w next Q) ∧
   (lM op=true→nb=none∧∀ (bh:Nu) (w0:World),bR bh H w0→pF P bh op tmps v)∧(lN op=true→nb=none∧∀ bh,nq P bh H op tmps v):=by
  intro qj v hk hp
  refine ⟨v,none,hk,fun o ν a w r n ho ha hH hn next Q hN=>?_,fun _=>⟨rfl,hp⟩,fun h=>by rw [qj] at h; cases h⟩
  obtain ⟨u,k1,k2⟩:=(hp ν w hH).2 o ν a w ν.le_refl ho ha
  exact jm (v':=u) (w':=w) (by rw [ho]; exact (hp ν w hH).1) k2 next Q (hN _ _ ν ⟨ν.le_refl,fun _ _=>rfl,k1,Below.refl _ _,fun _=>rfl,(fun b hb=>by cases hb)⟩)
 by_cases hp:lM op=true
 ·cases op with
  | move x =>
   have h':BQ tmps x k:=h
   obtain ⟨v,hk,hv⟩:=cK h'
   exact mk rfl v hk fun bh w0 _=>⟨by simp,fun o ν a w hle ho ha=>⟨a.eval x,hv ν a (ha x (by simp [Op.operands])),by simp [execOp,ho]⟩⟩
  | extract x i =>
   have h':EW tmps x i k:=h
   obtain ⟨v0,h',hv⟩:=cK h'
   split at h'
   ·rename_i vs
    obtain ⟨u,h1,J⟩:=n6 h'
    refine mk rfl u J fun bh w0 _=>⟨by simp,fun o ν a w hle ho ha=>?_⟩
    obtain ⟨ys,he,hy⟩:=ao.nj (xs:=vs.toList) (hv ν a (ha x (by simp [Op.operands])))
    obtain ⟨u',h3,h4⟩:=hy.get h1
    exact ⟨u',h4,by simp [execOp,ho,he,Instr.extract,h3]⟩
   ·exact h'.elim
  | binOp op t x y ty =>
   have h':Cm E.tt E.eqs tmps op t x y k:=h
   obtain ⟨v,hk,hv⟩:=Kh hE.ty hE.eq (ty:=ty) h'
   exact mk rfl v hk fun bh _ _=>hv bh
  | slice t x lo hi mx =>
   obtain ⟨v,hk,hv⟩:=Jx hE.ty h
   exact mk rfl v hk hv
  | _=>cases hp
 ·have hv:rP P op tmps H k→∃ v nb,k v nb∧(∀ (o:Oper) (ν:Nu) (a:Act) (w:World) (r:Option Nat) (n:Nat),o.op=op→(∀ x∈op.operands,eW ν tmps a x)→bR ν H w→ν aE=none →
   ∀ next Q,(∀ v' w' aj,mH ν aj aE w w' v v' nb→next (a.put o.dst v') w')→o.wpIn (WF r) n P a w next Q) ∧
   (lM op=true→nb=none∧∀ (bh:Nu) (w0:World),bR bh H w0→pF P bh op tmps v)∧(lN op=true→nb=none∧∀ bh,nq P bh H op tmps v):=fun ⟨v,hk,hv⟩ =>
   ⟨v,none,hk,fun o ν a w r n ho ha hH hn next Q hN=>by
    obtain ⟨u,k1,k2⟩:=(hv ν).2 o ν a w ν.le_refl ho ha hH
    exact jm (v':=u) (w':=w) (by rw [ho]; exact (hv ν).1) k2 next Q (hN _ _ ν ⟨ν.le_refl,fun _ _=>rfl,k1,Below.refl _ _,fun _=>rfl,(fun b hb=>by cases hb)⟩),fun h=>absurd h hp,fun _=>⟨rfl,hv⟩⟩
  by_cases hh:lN op=true
  ·cases op with
   | load t x=>exact hv (MA hE.ty h)
   | indexAddr t x i=>exact hv (Jy hE.ty h)
   | call c =>
    cases hc:c.callee with
    | builtin b =>
     cases b with
     | len =>
      unfold kD at h
      simp only [hc] at h
      split at h
      ·rename_i x t hx ht
       exact hv (Nl hE.ty hc (Array.ext' hx) (Array.ext' ht) h)
      ·exact h.elim
     | _=>simp [lN,hc] at hh
    | _=>simp [lN,hc] at hh
   | _=>cases hh
  ·obtain ⟨v,nb,hk,hq⟩:=AE (P:=P) hE h
   exact ⟨v,nb,hk,hq,fun h=>absurd h hp,fun h=>absurd h hh⟩
theorem vv:∀ {S:List (Option ah)} {i:Nat} {mask:List Nat} {k:List (Option ah)→Prop},kO S i mask k→∃ S',k S'∧S'.length=S.length∧∀ j b,S'[j]?=some (some b)→S[j]?=some (some b)∧(i+j)∈mask
 | [],i,mask,k,h=>⟨[],by simpa [kO] using h,rfl,fun j b hb=>by simp at hb⟩
 | c::S,i,[],k,h=>by
  obtain ⟨S',h1,J,h3⟩:=vv (S:=S) (i:=i+1) (mask:=[]) (by simpa [kO] using h)
  refine ⟨none::S',h1,by simp [J],fun j b hb=>?_⟩
  cases j with
  | zero=>simp at hb
  | succ j=>have:=h3 j b (by simpa using hb); simp at this
 | c::S,i,m::ms,k,h=>by
  unfold kO at h
  dsimp only at h
  split at h
  ·rename_i e
   have e:=Nat.eq_of_beq_eq_true e
   obtain ⟨S',h1,J,h3⟩:=vv (S:=S) h
   refine ⟨c::S',h1,by simp [J],fun j b hb=>?_⟩
   cases j with
   | zero=>simp at hb; subst hb; exact ⟨by simp,by simp [e]⟩
   | succ j =>
    obtain ⟨k1,k2⟩:=h3 j b (by simpa using hb)
    exact ⟨by simpa using k1,by rw [show i+(j+1)=i+1+j by omega]; simp [k2]⟩
  ·obtain ⟨S',h1,J,h3⟩:=vv (S:=S) h
   refine ⟨none::S',h1,by simp [J],fun j b hb=>?_⟩
   cases j with
   | zero=>simp at hb
   | succ j =>
    obtain ⟨k1,k2⟩:=h3 j b (by simpa using hb)
    exact ⟨by simpa using k1,by rw [show i+(j+1)=i+1+j by omega]; exact k2⟩
theorem DW {ops:List Oper} {rs:List cV} {D:Nat→Bool} {t0:List Value} {m:Nat}:a8 ops rs D t0 (m+1)=(match D m,bM ops m,rs[m]? with
  | true,some d,some r=>(a8 ops rs D t0 m).set d r.v
  | _,_,_=>a8 ops rs D t0 m):=rfl
theorem sP {ops:List Oper} {rs bX:List cV} {D:Nat→Bool} {t0:List Value}:∀ {m:Nat},(∀ i,i < m→rs[i]?=bX[i]?)→a8 ops rs D t0 m=a8 ops bX D t0 m
 | 0,_=>rfl
 | m+1,h=>by
  unfold a8
  rw [h m (by omega),sP (m:=m) (fun i hi=>h i (by omega))]
theorem xA {ops:List Oper} {rs:List cV} {D D':Nat→Bool} {t0:List Value}:∀ {m:Nat},(∀ i,i < m→D i=D' i)→a8 ops rs D t0 m=a8 ops rs D' t0 m
 | 0,_=>rfl
 | m+1,h=>by
  unfold a8
  rw [h m (by omega),xA (m:=m) (fun i hi=>h i (by omega))]
theorem vE {ops:List Oper} {rs:List cV} {D:Nat→Bool} {t0:List Value} {j:Nat}:∀ {m:Nat},j≤m→(∀ i,j≤i→i < m→D i=false)→a8 ops rs D t0 m=a8 ops rs D t0 j
 | 0,h,_=>by rw [Nat.le_zero.1 h]
 | m+1,h,hD=>by
  by_cases e:j=m+1
  ·rw [e]
  ·rw [DW,hD m (by omega) (by omega)]
   exact vE (m:=m) (by omega) (fun i h1 J=>hD i h1 (by omega))
theorem oi.more {P:Program} {ops:List Oper} {t0:List Value} {H:ax} {aP:List (List Nat)} {rs:List cV} {j:Nat} (h:oi P ops t0 H aP rs j) (hj:j < rs.length) (r:cV):oi P ops t0 H aP (rs++[r]) j:=by
 have he:∀ i,i≤j→(rs++[r])[i]?=rs[i]?:=fun i hi=>by rw [List.getElem?_append_left (by omega)]
 have hv:∀ D,a8 ops (rs++[r]) D t0 j=a8 ops rs D t0 j:=fun D=>sP (fun i hi=>he i (by omega))
 obtain ⟨o,q,h1,J,h3,h4⟩:=h.ok
 refine ⟨⟨o,q,h1,by rw [he j (Nat.le_refl _)]; exact J,h3,?_⟩,fun o ho hx hg=>?_⟩
 rotate_left
 ·obtain ⟨r',k1,k2,k3⟩:=h.mv o ho hx hg
  obtain ⟨G,g1,g2⟩:=k3
  exact ⟨r',by rw [he j (Nat.le_refl _)]; exact k1,k2,G,fun id b hb=>(g1 id b hb).imp (fun x=>x) (fun ⟨i,q1,q2,q3,q4⟩=>⟨i,q1,q2,q3,by rw [he i (by omega)]; exact q4⟩),by rw [hv]; exact g2⟩
 rw [hv]
 rcases h4 with ⟨G,g1,g2,g3⟩ | h4
 ·exact .inl ⟨G,fun id b hb=>(g1 id b hb).imp (fun x=>x) (fun ⟨i,k1,k2,k3,k4⟩=>⟨i,k1,k2,k3,by rw [he i (by omega)]; exact k4⟩),g2,g3⟩
 ·exact .inr h4
theorem Ev {P:Program} {E:Env} (hE:EnvOk P E) {ops:List Oper} {t0:List Value} {H:ax} {aP:List (List Nat)} {k:List Value→List (Option ah)→Prop} :
  ∀ {l:List Oper} {ms:List (List Nat)} {j:Nat} {rs:List cV},rs.length=j→(∀ (i:Nat) o,l[i]?=some o→ops[j+i]?=some o)→(∀ i,i < l.length→ms.getD i []=aP.getD (j+i) []) →
  (∀ i,i < j→oi P ops t0 H aP rs i)→kP E ops H H.length l ms j (a8 ops rs (fun i=>decide (i < j)) t0 j) (rs.map (·.nb)) k →
  ∃ bX:List cV,bX.length=j+l.length∧(∀ i,i < j+l.length→oi P ops t0 H aP bX i)∧k (a8 ops bX (fun i=>decide (i < j+l.length)) t0 (j+l.length)) (bX.map (·.nb))
 | [],ms,j,rs,hl,_,_,a9,h=>⟨rs,hl,a9,h⟩
 | o::l,[],j,rs,hl,_,_,a9,h=>h.elim
 | o::l,mask::ms,j,rs,hl,ho,hm,a9,h=>by
  have nO:ops[j]?=some o:=by have:=ho 0 o rfl; simpa using this
  have BY:mask=aP.getD j []:=by have:=hm 0 (by simp); simpa using this
  -- the next step, whatever this one's result
  have next:∀ (r:cV) t',(t'=match o.dst with | some d=>(a8 ops rs (fun i=>decide (i < j)) t0 j).set d r.v | none=>a8 ops rs (fun i=>decide (i < j)) t0 j) →
    (oi P ops t0 H aP (rs++[r]) j)→kP E ops H H.length l ms (j+1) t' (rs.map (·.nb)++[r.nb]) k →
    ∃ bX:List cV,bX.length=j+(o::l).length∧(∀ i,i < j+(o::l).length→oi P ops t0 H aP bX i)∧k (a8 ops bX (fun i=>decide (i < j+(o::l).length)) t0 (j+(o::l).length)) (bX.map (·.nb)):=by
   intro r t' jg hj h'
   have hv:a8 ops (rs++[r]) (fun i=>decide (i < j+1)) t0 (j+1)=t':=by
    have hr:(rs++[r])[j]?=some r:=by rw [← hl]; simp
    have hd:bM ops j=o.dst:=by simp [bM,nO]
    have yC:a8 ops (rs++[r]) (fun i=>decide (i < j+1)) t0 j=a8 ops rs (fun i=>decide (i < j)) t0 j:=by
     rw [sP (bX:=rs) (fun i hi=>by rw [List.getElem?_append_left (by omega)])]
     exact xA (fun i hi=>by simp; omega)
    have Ht:decide (j < j+1)=true:=by simp
    rw [jg,DW,hr,hd,yC,Ht]
    cases o.dst <;> rfl
   rw [← hv] at h'
   have h'':kP E ops H H.length l ms (j+1) (a8 ops (rs++[r]) (fun i=>decide (i < j+1)) t0 (j+1)) ((rs++[r]).map (·.nb)) k:=by simpa using h'
   obtain ⟨bX,k1,k2,k3⟩:=Ev hE (l:=l) (ms:=ms) (j:=j+1) (rs:=rs++[r]) (by simp [hl]) (fun i p hp=>by have:=ho (i+1) p (by simpa using hp); rwa [show j+1+i=j+(i+1) by omega])
    (fun i hi=>by have:=hm (i+1) (by simp; omega); rw [show j+1+i=j+(i+1) by omega]; simpa using this)
    (fun i hi=>by
     by_cases e:i=j
     ·subst e; exact hj
     ·exact (a9 i (by omega)).more (by omega) r) h''
   have e:j+1+l.length=j+(o::l).length:=by simp; omega
   rw [e] at k1 k2 k3
   exact ⟨bX,k1,k2,k3⟩
  have nP:∀ r:cV,a8 ops (rs++[r]) (fun i=>decide (i < j)) t0 j=a8 ops rs (fun i=>decide (i < j)) t0 j:=fun r=>sP (fun i hi=>by rw [List.getElem?_append_left (by omega)])
  have sE:∀ r:cV,(rs++[r])[j]?=some r:=fun r=>by rw [← hl]; simp
  have run:(o.guard=none∨∃ g want d b,o.guard=some (g,want)∧bM ops g=some d∧(a8 ops rs (fun i=>decide (i < j)) t0 j)[d]?=some (.bool b)∧(b == want)=true) →
    (kO (rs.map (·.nb)) 0 mask fun Sm=>m6 H Sm fun G=>kD E o.op (a8 ops rs (fun i=>decide (i < j)) t0 j) G (H.length+j) fun v nb=>db (a8 ops rs (fun i=>decide (i < j)) t0 j) o.dst v fun t'=>iW (rs.map (·.nb)) nb fun S'=>kP E ops H H.length l ms (j+1) t' S' k) →
    ∃ bX:List cV,bX.length=j+(o::l).length∧(∀ i,i < j+(o::l).length→oi P ops t0 H aP bX i)∧k (a8 ops bX (fun i=>decide (i < j+(o::l).length)) t0 (j+(o::l).length)) (bX.map (·.nb)):=by
   intro hg h
   obtain ⟨Sm,h1,J,h3⟩:=vv h
   have h1:=s9 h1
   obtain ⟨v,nb,hk,hq,xi⟩:=RQ (P:=P) hE h1
   have kV:∃ t',(t'=match o.dst with | some d=>(a8 ops rs (fun i=>decide (i < j)) t0 j).set d v | none=>a8 ops rs (fun i=>decide (i < j)) t0 j)∧(∀ d,o.dst=some d→d < t0.length)∧(iW (rs.map (·.nb)) nb fun S'=>kP E ops H H.length l ms (j+1) t' S' k):=by
    cases hd:o.dst with
    | none=>rw [hd] at hk; exact ⟨_,rfl,(fun d hd=>by cases hd),hk⟩
    | some d =>
     rw [hd] at hk
     obtain ⟨k1,k2⟩:=n7 hk
     rw [qQ] at k1
     exact ⟨_,rfl,(fun d' cM=>by cases cM; exact k1),k2⟩
   obtain ⟨t',e1,e2,e3⟩:=kV
   refine next ⟨v,nb,true⟩ t' e1 ⟨⟨o,⟨v,nb,true⟩,nO,sE _,e2,.inl ⟨H++Sm,fun id b hb=>?_,?_,?_⟩⟩,fun p hp hx PB=>?_⟩ (sT e3)
   rotate_right
   ·rw [nO] at hp; cases hp
    have k1:nb=none:=by
     rcases Bool.or_eq_true_iff.1 hx with hx | hx
     ·exact (xi.1 hx).1
     ·exact (xi.2 hx).1
    refine ⟨_,sE _,k1,H++Sm,fun id b hb=>?_,fun hx=>by rw [nP]; exact (xi.1 hx).2,fun hx=>by rw [nP]; exact (xi.2 hx).2⟩
    rw [List.getElem?_append] at hb
    split at hb
    ·exact .inl ⟨by assumption,hb⟩
    ·rename_i dS
     obtain ⟨q1,q2⟩:=h3 _ b hb
     have ak:id - H.length < rs.length:=by
      have:=(List.getElem?_eq_some_iff.1 q1).1
      simpa using this
     refine .inr ⟨id - H.length,by omega,by omega,by rw [← BY]; simpa using q2,?_⟩
     rw [List.getElem?_append_left ak]
     rw [List.getElem?_map] at q1
     cases hr:rs[id - H.length]? with
     | none=>rw [hr] at q1; cases q1
     | some r=>rw [hr] at q1; simpa using q1
   ·rw [List.getElem?_append] at hb
    split at hb
    ·exact .inl ⟨by assumption,hb⟩
    ·rename_i dS
     obtain ⟨q1,q2⟩:=h3 _ b hb
     have ak:id - H.length < rs.length:=by
      have:=(List.getElem?_eq_some_iff.1 q1).1
      simpa using this
     refine .inr ⟨id - H.length,by omega,by omega,by rw [← BY]; simpa using q2,?_⟩
     rw [List.getElem?_append_left ak]
     rw [List.getElem?_map] at q1
     cases hr:rs[id - H.length]? with
     | none=>rw [hr] at q1; cases q1
     | some r=>rw [hr] at q1; simpa using q1
   ·rw [nP]
    exact fun ν a w q n ha hH hn next Q hN=>hq o ν a w q n rfl ha hH hn next Q hN
   ·rw [nP]; exact hg
  have skip:(∃ g want d v,o.guard=some (g,want)∧bM ops g=some d∧(a8 ops rs (fun i=>decide (i < j)) t0 j)[d]?=some v∧((∃ b,v=.bool b∧(b == want)=false)∨∃ vs,v=.tuple vs)) →
    (db (a8 ops rs (fun i=>decide (i < j)) t0 j) o.dst undef fun t'=>iW (rs.map (·.nb)) none fun S'=>kP E ops H H.length l ms (j+1) t' S' k) →
    ∃ bX:List cV,bX.length=j+(o::l).length∧(∀ i,i < j+(o::l).length→oi P ops t0 H aP bX i)∧k (a8 ops bX (fun i=>decide (i < j+(o::l).length)) t0 (j+(o::l).length)) (bX.map (·.nb)):=by
   intro hg hk
   have kV:∃ t',(t'=match o.dst with | some d=>(a8 ops rs (fun i=>decide (i < j)) t0 j).set d undef | none=>a8 ops rs (fun i=>decide (i < j)) t0 j)∧(∀ d,o.dst=some d→d < t0.length)∧(iW (rs.map (·.nb)) none fun S'=>kP E ops H H.length l ms (j+1) t' S' k):=by
    cases hd:o.dst with
    | none=>rw [hd] at hk; exact ⟨_,rfl,(fun d hd=>by cases hd),hk⟩
    | some d =>
     rw [hd] at hk
     obtain ⟨k1,k2⟩:=n7 hk
     rw [qQ] at k1
     exact ⟨_,rfl,(fun d' cM=>by cases cM; exact k1),k2⟩
   obtain ⟨t',e1,e2,e3⟩:=kV
   refine next ⟨undef,none,false⟩ t' e1 ⟨⟨o,⟨undef,none,false⟩,nO,sE _,e2,.inr ⟨rfl,rfl,by rw [nP]; exact hg⟩⟩,fun p hp hx PB=>?_⟩ (sT e3)
   rw [nO] at hp; cases hp
   obtain ⟨g,want,d,v,k1,_⟩:=hg
   rw [PB] at k1; cases k1
  unfold kP at h
  split at h
  ·exact run (.inl (by assumption)) h
  ·rename_i g want hg
   split at h
   ·rename_i d hd
    obtain ⟨v,hv,h⟩:=n6 h
    split at h
    ·rename_i b
     cases hb:(b == want) with
     | true=>exact run (.inr ⟨g,want,d,b,hg,hd,hv,hb⟩) (Bb h hb)
     | false=>exact skip ⟨g,want,d,_,hg,hd,hv,.inl ⟨b,rfl,hb⟩⟩ (AS h hb)
    ·exact skip ⟨g,want,d,_,hg,hd,hv,.inr ⟨_,rfl⟩⟩ h
    ·exact h.elim
   ·exact h.elim
end Go.Ae
/- Regions that draw their order, continued: the machine's choice does not matter. -/
namespace Go.Ae
open Go Go.RowKit
structure Order (ops:List Oper) (aP:List (List Nat)):Prop where
 mask:∀ j o,ops[j]?=some o→∀ i∈aP.getD j [],i < j∧∃ e∈o.after,Region.binds .any e=true∧(e.on=i∨(i∈aP.getD e.on []∧e.on < j))
 back:∀ j o,ops[j]?=some o→∀ e∈o.after,Region.binds .any e=true→e.on < j
structure YD (ops:List Oper) (m:Nat) (aP:List (List Nat)):Prop extends Order ops aP where
 le:m≤ops.length
 apart:∀ j o i p d,j < m→i < m→i≠j→ops[j]?=some o→ops[i]?=some p→p.dst=some d→o.dst≠some d∧(d ∉ iO ops o∨i∈aP.getD j []∨j∈aP.getD i [])
 tail:∀ j,j < ops.length→m≤j→∀ i,i < j→i∈aP.getD j []
theorem JY {ops:List Oper} {m:Nat} {aP:List (List Nat)} (h:BC ops m aP=true):YD ops m aP:=by
 unfold BC at h
 simp only [Bool.and_eq_true,decide_eq_true_eq] at h
 obtain ⟨⟨⟨⟨h1,J⟩,h3⟩,h4⟩,h5⟩:=h
 have lt:∀ {j:Nat} {o:Oper},ops[j]?=some o→j∈List.range ops.length:=fun hj=>List.mem_range.2 (List.getElem?_eq_some_iff.1 hj).1
 refine ⟨⟨fun j o hj i hi=>?_,fun j o hj e he hb=>?_⟩,h1,fun j o i p d hj hi aI ho hp hd=>?_,fun j hj hm i hi=>?_⟩
 ·unfold Bg at J
  have:=List.all_eq_true.1 J j (lt hj)
  rw [hj] at this
  have:=List.all_eq_true.1 this i hi
  simp only [Bool.and_eq_true,decide_eq_true_eq,List.any_eq_true,Bool.or_eq_true,beq_iff_eq,List.contains_iff_mem] at this
  obtain ⟨k1,e,k2,k3,k4⟩:=this
  exact ⟨k1,e,by simpa using k2,k3,k4⟩
 ·have:=List.all_eq_true.1 h3 j (lt hj)
  rw [hj] at this
  have:=List.all_eq_true.1 this e (by simpa using he)
  simp only [hb,Bool.not_true,Bool.false_or,decide_eq_true_eq] at this
  exact this
 ·have:=List.all_eq_true.1 h4 j (List.mem_range.2 hj)
  rw [ho] at this
  have:=List.all_eq_true.1 this i (List.mem_range.2 hi)
  rw [hp] at this
  have hb:(i == j)=false:=by simp [aI]
  rw [hb,Bool.false_or] at this
  dsimp only at this
  rw [hd] at this
  simp only [Bool.and_eq_true,bne_iff_ne,Bool.or_eq_true,Bool.not_eq_true',List.contains_iff_mem,or_assoc] at this
  refine ⟨this.1,this.2.imp (fun k=>?_) (fun k=>k)⟩
  intro gw
  rw [List.contains_iff_mem.2 gw] at k
  cases k
 ·have:=List.all_eq_true.1 h5 j (List.mem_range.2 hj)
  simp only [Bool.or_eq_true,decide_eq_true_eq,List.all_eq_true,List.mem_range,List.contains_iff_mem] at this
  rcases this with h | h
  ·omega
  ·exact h i hi
def DB (aA:Array Bool):Nat→Bool:=fun i=>aA.getD i false
theorem BD {aA:Array Bool} {j:Nat} (hj:j < aA.size) (i:Nat):DB (aA.setIfInBounds j true) i=(DB aA i || i == j):=by
 unfold DB
 by_cases e:j=i
 ·subst e; simp [hj]
 ·rw [getD_set_ne false e]
  have:(i == j)=false:=by simp; exact fun h=>e h.symm
  rw [this,Bool.or_false]
theorem tj {aA:Array Bool} {i:Nat} (hi:i < aA.size) (d:Bool):aA.getD i d=DB aA i:=by
 unfold DB; simp [hi]
def oj (ops:List Oper) (D:Nat→Bool):Prop:=∀ j o,D j=true→ops[j]?=some o→∀ e∈o.after,Region.binds .any e=true→D e.on=true
theorem sQ {ops:List Oper} {aP:List (List Nat)} (hc:Order ops aP) {D:Nat→Bool} (hD:oj ops D):∀ (j:Nat) o,ops[j]?=some o→(∀ e∈o.after,Region.binds .any e=true→D e.on=true)→∀ i∈aP.getD j [],D i=true:=by
 intro j
 induction j using Nat.strongRecOn with
 | _ j ih =>
  intro o ho he i hi
  obtain ⟨_,e,h1,J,h3⟩:=hc.mask j o ho i hi
  rcases h3 with rfl | ⟨h3,h4⟩
  ·exact he e h1 J
  ·have j5:=he e h1 J
   cases nQ:ops[e.on]? with
   | none=>rw [List.getElem?_eq_none_iff] at nQ; have:=(List.getElem?_eq_some_iff.1 ho).1; omega
   | some p=>exact ih e.on h4 p nQ (hD e.on p j5 nQ) i h3
/-- How many have not gone. -/
def gd (D:Nat→Bool) (n:Nat):Nat:=((List.range n).filter fun i=>!D i).length
theorem Al (D:Nat→Bool) (n:Nat):gd D (n+1)=gd D n+if D n then 0 else 1:=by
 unfold gd
 rw [List.range_succ,List.filter_append,List.length_append]
 cases hd:D n <;> simp [hd]
theorem Ay {D D':Nat→Bool} {j:Nat} (h:∀ i,D' i=(D i || i == j)) (hj:D j=false):∀ n,gd D' n+(if j < n then 1 else 0)=gd D n
 | 0=>by simp [gd]
 | n+1=>by
  have ih:=Ay h hj n
  rw [Al,Al,h n]
  by_cases e:n=j
  ·subst e
   simp only [Nat.lt_irrefl,if_false,Nat.add_zero] at ih
   rw [hj]; simp; omega
  ·have:(n == j)=false:=by simp [e]
   rw [this,Bool.or_false]
   by_cases ak:j < n
   ·have e1:(if j < n+1 then 1 else 0)=1:=if_pos (by omega)
    rw [if_pos ak] at ih; rw [e1]; generalize (if D n=true then 0 else 1)=z; omega
   ·have e1:(if j < n+1 then 1 else 0)=0:=if_neg (by omega)
    rw [if_neg ak] at ih; rw [e1]; generalize (if D n=true then 0 else 1)=z; omega
theorem DX {D:Nat→Bool} {n i:Nat} (hi:i < n) (hD:D i=false):0 < gd D n:=by
 unfold gd
 exact List.length_pos_of_mem (List.mem_filter.2 ⟨List.mem_range.2 hi,by simp [hD]⟩)
theorem Aa {ops:List Oper} {o:Oper} {g:Nat} {want:Bool} {d:Tmp} (hg:o.guard=some (g,want)) (hd:bM ops g=some d):d∈iO ops o:=by
 have cM:(ops[g]?).bind (fun x=>x.dst)=some d:=hd
 unfold iO
 refine List.mem_append_right _ ?_
 rw [hg]
 dsimp only
 rw [cM]
 simp
section
variable {P:Program} {E:Env} {r:Option Nat} {n:Nat} {F:Fr} {ops:Array Oper} {Q:Exit→Act→World→Prop} {m:Nat} {aP:List (List Nat)} {k:SK}
/-- If all before it has gone, it may go. -/
theorem Am (hc:Order ops.toList aP) {aA:Array Bool} (hs:aA.size=ops.size) {j:Nat} (hj:j < ops.size) (h0:DB aA j=false) (h1:∀ i,i < j→DB aA i=true):j∈Region.ready .any ops aA:=by
 rw [mem_ready]
 refine ⟨by rw [tj (by omega)]; exact h0,ops[j],Array.getElem?_eq_getElem hj,fun e he hb=>?_⟩
 exact h1 _ (hc.back j ops[j] (by simp [hj]) e he hb)
theorem Ew (hE:jy P E) (bJ:kE F E) (hc:Order ops.toList aP) (aa4:∀ j,j < ops.toList.length→m≤j→∀ i,i < j→i∈aP.getD j []) (hk:∀ ν t' H' a' w',bt F ν t' H' a' w'→k t' H'→Q .normal a' w') :
  ∀ (fuel:Nat) (aA:Array Bool) (j0:Nat) (ν:Nu) (t:List Value) (H:ax) (a:Act) (w:World),aA.size=ops.size→(∀ i,DB aA i=decide (i < j0))→m≤j0→j0≤ops.size →
  bt F ν t H a w→mS E ops.toList (ops.toList.drop j0) t H k→ops.size≤j0+fuel→wpAnyIn (WF r) n P .any ops Q fuel aA a w:=by
 intro fuel
 induction fuel with
 | zero =>
  intro aA j0 ν t H a w hs hD hm hle hi h hf
  have e:j0=ops.size:=by omega
  subst e
  rw [List.drop_eq_nil_of_le (by simp)] at h
  refine ⟨?_,hk _ _ _ _ _ hi h⟩
  rw [List.eq_nil_iff_forall_not_mem]
  intro j hj
  rw [mem_ready] at hj
  obtain ⟨h1,o,ho,_⟩:=hj
  have ak:j < ops.size:=(Array.getElem?_eq_some_iff.1 ho).1
  rw [tj (by omega),hD j] at h1
  simp at h1; omega
 | succ fuel ih =>
  intro aA j0 ν t H a w hs hD hm hle hi h hf
  by_cases e:j0=ops.size
  ·subst e
   rw [List.drop_eq_nil_of_le (by simp)] at h
   refine ⟨fun _=>hk _ _ _ _ _ hi h,fun j hj=>?_⟩
   rw [mem_ready] at hj
   obtain ⟨h1,o,ho,_⟩:=hj
   have ak:j < ops.size:=(Array.getElem?_eq_some_iff.1 ho).1
   rw [tj (by omega),hD j] at h1
   simp at h1; omega
  ·have ak:j0 < ops.size:=by omega
   have hr:=Am hc hs ak (by rw [hD]; simp) (fun i hi=>by rw [hD]; simpa using hi)
   refine ⟨fun hn=>?_,fun j hj=>?_⟩
   ·rw [hn] at hr; cases hr
   ·rw [mem_ready] at hj
    obtain ⟨h1,o,ho,he⟩:=hj
    have m7:j < ops.size:=(Array.getElem?_eq_some_iff.1 ho).1
    rw [tj (by omega),hD j] at h1
    have dS:j0≤j:=by simpa using h1
    have fE:ops.toList[j]?=some o:=by simpa using ho
    have j9:j=j0:=by
     rcases Nat.lt_or_ge j0 j with pS | adv
     ·have gw:=aa4 j (by simpa using m7) (by omega) j0 pS
      have eH:oj ops.toList (DB aA):=fun i p aM hp e' fF bE=>by
       rw [hD] at aM ⊢
       have:=hc.back i p hp e' fF bE
       simp at aM ⊢; omega
      have:=sQ hc eH j o fE (fun e' fF bE=>he e' fF bE) j0 gw
      rw [hD] at this; simp at this
     ·omega
    subst j9
    have GM:ops.toList.drop j=o::ops.toList.drop (j+1):=by
     rw [List.drop_eq_getElem_cons (by simpa using m7)]
     congr 1
     have:=List.getElem?_eq_getElem (l:=ops.toList) (i:=j) (by simpa using m7)
     rw [fE] at this; exact (Option.some.inj this).symm
    rw [GM] at h
    unfold wpOpIn
    rw [ho]
    refine DV hE bJ hi (Lb h) (fun ν t' H' a' w' aM h'=>?_)
    refine ih _ (j+1) ν t' H' a' w' (by simp [hs]) (fun i=>?_) (by omega) (by omega) aM h' (by omega)
    rw [BD (by omega),hD i]
    by_cases e':i=j
    ·subst e'; simp
    ·have:(i == j)=false:=by simp [e']
     rw [this,Bool.or_false]
     simp; omega
/-- If exactly the first m have gone. -/
theorem Dv {D:Nat→Bool} {m:Nat} (hD:∀ i,D i=decide (i < m)):∀ q,m≤q→gd D q=q - m:=by
 intro q
 induction q with
 | zero=>intro h; simp [gd]
 | succ q ihq =>
  intro h
  rw [Al,hD q]
  by_cases e:m=q+1
  ·subst e
   have:∀ q',q'≤q+1→gd D q'=0:=by
    intro q'
    induction q' with
    | zero=>intro _; simp [gd]
    | succ q' ih'=>intro h'; rw [Al,ih' (by omega),hD q']; simp; omega
   rw [this q (by omega)]; simp
  ·rw [ihq (by omega)]
   have:¬ (q < m):=by omega
   simp [this]; omega
/-- The least that has not gone. -/
theorem Dw {D:Nat→Bool} {i:Nat} (h:D i=false):∃ j,j≤i∧D j=false∧∀ q,q < j→D q=true:=by
 induction i using Nat.strongRecOn with
 | _ i ihi =>
  by_cases cS:∀ j,j < i→D j=true
  ·exact ⟨i,Nat.le_refl _,h,cS⟩
  ·have:∃ j,j < i∧D j=false:=by
    refine Classical.byContradiction fun aI=>cS fun j hj=>?_
    cases hd:D j with
    | true=>rfl
    | false=>exact absurd ⟨j,hj,hd⟩ aI
   obtain ⟨j,h3,h4⟩:=this
   obtain ⟨q,k1,k2,k3⟩:=ihi j h3 h4
   exact ⟨q,by omega,k2,k3⟩
theorem Le (hc:Order ops.toList aP) (tP:m≤ops.size)
  (yc:∀ j o i p d,j < m→i < m→i≠j→ops.toList[j]?=some o→ops.toList[i]?=some p→p.dst=some d→o.dst≠some d∧(d ∉ iO ops.toList o∨i∈aP.getD j []∨j∈aP.getD i []))
  {fl:List Nat} (BZ:∀ j,j < ops.size→m≤j→∀ i,i < m→i ∉ fl→i∈aP.getD j [])
  {t0:List Value} {H:ax} {rs:List cV} (hh:∀ i,i < m→oi P ops.toList t0 H aP rs i)
  (oC:∀ (fuel:Nat) (aA:Array Bool) (ν:Nu) (a:Act) (w:World),aA.size=ops.size→oj ops.toList (DB aA)→(∀ i,DB aA i=true→i < m)→(∀ i,i < m→i ∉ fl→DB aA i=true) →
   bt F ν (a8 ops.toList rs (DB aA) t0 m) (H++ko rs (DB aA) m) a w→gd (DB aA) ops.size≤fuel→wpAnyIn (WF r) n P .any ops Q fuel aA a w) :
  ∀ (fuel:Nat) (aA:Array Bool) (ν:Nu) (a:Act) (w:World),aA.size=ops.size→oj ops.toList (DB aA)→(∀ i,DB aA i=true→i < m) →
  bt F ν (a8 ops.toList rs (DB aA) t0 m) (H++ko rs (DB aA) m) a w→(∀ i,i < m→DB aA i=false→ν (H.length+i)=none)→gd (DB aA) ops.size≤fuel →
  wpAnyIn (WF r) n P .any ops Q fuel aA a w:=by
 have kV:∀ i d,i < m→bM ops.toList i=some d→d < t0.length:=by
  intro i d hi hd
  obtain ⟨o,q,h1,J,h3,_⟩:=(hh i hi).ok
  unfold bM at hd
  rw [h1] at hd
  exact h3 d hd
 have oN:wJ ops.toList m:=by
  intro i j d hi hj h1 J
  rcases Nat.decEq i j with aI | he
  ·obtain ⟨o,q,k1,_⟩:=(hh i hi).ok
   obtain ⟨p,q',k2,_⟩:=(hh j hj).ok
   unfold bM at h1 J
   rw [k1] at h1; rw [k2] at J
   exact absurd h1 (yc i o j p d hi hj (Ne.symm aI) k1 k2 J).1
  ·exact he
 intro fuel
 induction fuel with
 | zero =>
  intro aA ν a w hs eH ak hi fM hu
  have cS:∀ i,i < ops.size→DB aA i=true:=fun i aM=>by
   cases hd:DB aA i with
   | true=>rfl
   | false=>have:=DX aM hd; omega
  exact oC 0 aA ν a w hs eH ak (fun i aM _=>cS i (by omega)) hi hu
 | succ fuel ih =>
  intro aA ν a w hs eH ak hi fM hu
  by_cases ov:∀ i,i < m→i ∉ fl→DB aA i=true
  ·exact oC (fuel+1) aA ν a w hs eH ak ov hi hu
  ·-- something of the head has not gone: the least such one may go
   have hex:∃ i,i < m∧i ∉ fl∧DB aA i=false:=by
    refine Classical.byContradiction fun aI=>ov fun i aM hf=>?_
    cases hd:DB aA i with
    | true=>rfl
    | false=>exact absurd ⟨i,aM,hf,hd⟩ aI
   obtain ⟨i1,CY,hf1,fG⟩:=hex
   obtain ⟨i0,OH,fh,gJ⟩:=Dw fG
   have gk:i0 < m:=by omega
   have hr:=Am hc hs (by omega:i0 < ops.size) fh gJ
   refine ⟨(fun hn=>by rw [hn] at hr; cases hr),fun j hj=>?_⟩
   rw [mem_ready] at hj
   obtain ⟨h1,o,ho,he⟩:=hj
   have m7:j < ops.size:=(Array.getElem?_eq_some_iff.1 ho).1
   rw [tj (by omega)] at h1
   have fE:ops.toList[j]?=some o:=by simpa using ho
   have lu:=sQ hc eH j o fE (fun e' fF bE=>he e' fF bE)
   have mf:j < m:=by
    rcases Nat.lt_or_ge j m with h | h
    ·exact h
    ·have:=lu i1 (BZ j m7 h i1 CY hf1)
     rw [fG] at this; cases this
   obtain ⟨o',q,g1,g2,g3,g4⟩:=(hh j mf).ok
   rw [fE] at g1; cases g1
   have Iq:bM ops.toList j=o.dst:=by simp [bM,fE]
   -- what it reads stands as the text's order has it
   have GN:∀ d,d∈iO ops.toList o→(a8 ops.toList rs (DB aA) t0 m)[d]?=(a8 ops.toList rs (fun i=>decide (i < j)) t0 j)[d]?:=by
    intro d hd
    rw [← vE (j:=j) (m:=m) (by omega) (fun i h1 J=>by simp; omega)]
    refine xL oN kV (fun i aM fC=>?_)
    by_cases e:i=j
    ·subst e; rw [h1]; simp
    ·obtain ⟨p,q',k1,_⟩:=(hh i aM).ok
     have Ir:p.dst=some d:=by unfold bM at fC; rw [k1] at fC; exact fC
     rcases (yc j o i p d mf aM e fE k1 Ir).2 with h | h | h
     ·exact absurd hd h
     ·rw [lu i h]
      have:=(hc.mask j o fE i h).1
      simp [this]
     ·have hji:=(hc.mask i p k1 j h).1
      have:DB aA i=false:=by
       cases cM:DB aA i with
       | false=>rfl
       | true =>
        have:=sQ hc eH i p k1 (eH i p cM k1) j h
        rw [h1] at this; cases this
      rw [this]; simp; omega
   have cZ:∀ i,DB (aA.setIfInBounds j true) i=(DB aA i || i == j):=fun i=>BD (by omega) i
   have w6:oj ops.toList (DB (aA.setIfInBounds j true)):=by
    intro i p aM hp e' fF bE
    rw [cZ] at aM ⊢
    by_cases e:i=j
    ·subst e
     rw [fE] at hp; cases hp
     have:DB aA e'.on=true:=he e' fF bE
     rw [this]; rfl
    ·have e2:(i == j)=false:=by simp [e]
     rw [e2,Bool.or_false] at aM
     rw [eH i p aM hp e' fF bE]; rfl
   have pS:∀ i,DB (aA.setIfInBounds j true) i=true→i < m:=fun i aM=>by
    rw [cZ] at aM
    by_cases e:i=j
    ·subst e; exact mf
    ·have e2:(i == j)=false:=by simp [e]
     rw [e2,Bool.or_false] at aM
     exact ak i aM
   have sh:gd (DB (aA.setIfInBounds j true)) ops.size≤fuel:=by
    have:=Ay cZ h1 ops.size
    rw [if_pos m7] at this; omega
   have tU:=Ks (D:=DB aA) (D':=DB (aA.setIfInBounds j true)) oN kV mf h1 cZ g2
   rw [Iq] at tU
   have fe:∀ (id:Nat) (c:ah),(H++ko rs (DB (aA.setIfInBounds j true)) m)[id]?=some (some c) ↔
     (H++ko rs (DB aA) m)[id]?=some (some c)∨(id=H.length+j∧q.nb=some c):=by
    intro id c
    by_cases bm:id < H.length
    ·rw [List.getElem?_append_left bm,List.getElem?_append_left bm]
     constructor
     ·exact .inl
     ·rintro (h | ⟨h,_⟩)
      ·exact h
      ·omega
    ·rw [List.getElem?_append_right (by omega),List.getElem?_append_right (by omega),qT,qT]
     constructor
     ·rintro ⟨k1,k2,k3⟩
      rw [cZ] at k2
      by_cases e:id - H.length=j
      ·refine .inr ⟨by omega,?_⟩
       rw [e,g2] at k3; exact k3
      ·have e2:(id - H.length == j)=false:=by simp [e]
       rw [e2,Bool.or_false] at k2
       exact .inl ⟨k1,k2,k3⟩
     ·rintro (⟨k1,k2,k3⟩ | ⟨k1,k2⟩)
      ·exact ⟨k1,by rw [cZ,k2]; rfl,k3⟩
      ·have e:id - H.length=j:=by omega
       rw [e]
       exact ⟨mf,by rw [cZ]; simp,by rw [g2]; exact k2⟩
   have mI:ν (H.length+j)=none:=fM j mf h1
   have GO:(H++ko rs (DB aA) m).length=H.length+m:=by rw [List.length_append,JD]
   have Gc:(H++ko rs (DB (aA.setIfInBounds j true)) m).length=H.length+m:=by rw [List.length_append,JD]
   -- the state behind it
   have after:∀ v' w' aj,mH ν aj (H.length+j) w w' q.v v' q.nb→wpAnyIn (WF r) n P .any ops Q fuel (aA.setIfInBounds j true) (a.put o.dst v') w':=by
    intro v' w' aj hp
    have hb:=hp.below
    refine ih _ aj _ w' (by simp [hs]) w6 pS ⟨?_,?_,?_,fun id bm=>?_,hi.kp.below hb,fun id c lc cm nK dy=>?_,Nu.le_trans hi.mono hp.le⟩ (fun i aM cM=>?_) sh
    ·rw [tU]
     cases hd:o.dst with
     | none=>exact hi.tm.mono hp.le
     | some d=>rw [qZ]; exact (hi.tm.mono hp.le).set hp.val d
    ·cases o.dst <;> exact hi.df.below hb
    ·cases gj:q.nb with
     | none =>
      have:=hp.y7 gj
      subst this
      refine (hi.hp.below hb).rD (fun id c cm=>?_)
      rcases (fe id c).1 cm with h | ⟨_,h⟩
      ·exact h
      ·rw [gj] at h; cases h
     | some b =>
      obtain ⟨l,hl,hB,hle⟩:=hp.gI b gj
      have kv:aj=ν.add (H.length+j) l:=by
       funext id
       by_cases e:id=H.length+j
       ·subst e; rw [hl,Nu.add_same]
       ·rw [hp.only id e,Nu.iD e]
      subst kv
      refine hi.hp.push hb mI _ (fun id c cm=>?_) hle hB
      rcases (fe id c).1 cm with h | ⟨h3,h4⟩
      ·by_cases e:id=H.length+j
       ·obtain ⟨l',cl,_⟩:=hi.hp.aH id c h
        rw [e,mI] at cl; cases cl
       ·exact .inr ⟨e,h⟩
      ·rw [gj] at h4; cases h4
       exact .inl ⟨h3,rfl⟩
    ·rw [Gc] at bm
     rw [hp.only id (by omega)]
     exact hi.fr id (by rw [GO]; exact bm)
    ·rcases (fe id c).1 cm with h | ⟨h3,h4⟩
     ·have aI:id≠H.length+j:=fun e=>by
       obtain ⟨l',cl,_⟩:=hi.hp.aH id c h
       rw [e,mI] at cl; cases cl
      rw [hp.only id aI] at dy
      exact hi.own id c lc h nK dy
     ·obtain ⟨l,hl,_,hle⟩:=hp.gI c h4
      rw [h3,hl] at dy; cases dy
      exact .inr (Nat.le_trans hi.kp.size hle)
    ·have aI:i≠j:=fun e=>by subst e; rw [cZ] at cM; simp at cM
     rw [hp.only _ (by omega)]
     refine fM i aM ?_
     rw [cZ] at cM
     simp only [Bool.or_eq_false_iff] at cM
     exact cM.1
   unfold wpOpIn
   rw [ho]
   dsimp only
   have fg:∀ d,d∈iO ops.toList o→∀ v,(a8 ops.toList rs (fun i=>decide (i < j)) t0 j)[d]?=some v→∃ v',a.tmps[d]?=some v'∧ao ν v v':=by
    intro d hd v hv
    rw [← GN d hd] at hv
    obtain ⟨v',k1,k2⟩:=hi.tm.get hv
    exact ⟨v',by simpa using k1,k2⟩
   rcases g4 with ⟨G,q1,q2,q3⟩ | ⟨q1,q2,g,want,d,v,q3,q4,q5,q6⟩
   ·have hw:Region.wanted o (yielded ops a.tmps)=true:=by
     rcases q3 with hg | ⟨g,want,d,b,hg,hd,hv,hb⟩
     ·simp [Region.wanted,hg]
     ·obtain ⟨v',k1,k2⟩:=fg d (Aa hg hd) _ hv
      rw [k2.jM] at k1
      have hy:=xJ (ops:=ops) (tmps:=a.tmps) (j:=g) (d:=d) (by simpa [bM] using hd)
      rw [k1] at hy
      simp only [Region.wanted,hg,hy]
      rw [← hb]
      cases b <;> cases want <;> rfl
    rw [if_pos hw]
    refine q2 ν a w r n (fun x hx t ht v hv=>fg t ?_ v hv) (hi.hp.rD fun id b hb=>?_) mI _ Q after
    ·unfold iO
     exact List.mem_append_left _ (oY (by rw [ht] at hx; simpa using hx))
    ·rcases q1 id b hb with ⟨h3,h4⟩ | ⟨i,h3,h4,h5,h6⟩
     ·rw [List.getElem?_append_left h3]; exact h4
     ·subst h3
      rw [List.getElem?_append_right (by omega)]
      rw [show H.length+i - H.length=i by omega,qT]
      exact ⟨by omega,lu i h5,h6⟩
   ·have hw:Region.wanted o (yielded ops a.tmps)=false:=by
     obtain ⟨v',k1,k2⟩:=fg d (Aa q3 q4) _ q5
     have hy:=xJ (ops:=ops) (tmps:=a.tmps) (j:=g) (d:=d) (by simpa [bM] using q4)
     rw [k1] at hy
     rcases q6 with ⟨b,rfl,hb⟩ | ⟨vs,rfl⟩
     ·rw [k2.jM] at hy
      simp only [Region.wanted,q3,hy]
      rw [← hb]
      cases b <;> cases want <;> rfl
     ·obtain ⟨ys,rfl,_⟩:=ao.nj (xs:=vs.toList) k2
      simp only [Region.wanted,q3,hy]
      rfl
    rw [if_neg (by rw [hw]; simp)]
    refine ⟨fun _ _=>trivial,after undef w ν ⟨ν.le_refl,fun _ _=>rfl,by rw [q1]; exact .undef ν,Below.refl _ _,fun _=>rfl,(fun b hb=>by rw [q2] at hb; cases hb)⟩⟩
/-- **Whatever order is drawn.** -/
theorem Um (hm:P.follows .mixedOrders=true):mY P NW:=by
 intro E hE r n F bJ ops Q id ν tmps H a w k hi h hk
 obtain ⟨m,aP,a9,h⟩:=h
 have h:=lK h
 obtain ⟨OI,h⟩:=xK h
 have hc:=JY a9
 obtain ⟨rs,iy,jR,dV⟩:=Ev (P:=P) hE.toEnvOk (ops:=ops.toList) (t0:=tmps) (H:=H) (aP:=aP) (l:=ops.toList.take m) (ms:=aP) (j:=0) (rs:=[]) rfl
  (fun i o ho=>by
   rw [List.getElem?_take] at ho
   split at ho
   ·simpa using ho
   ·cases ho)
  (fun i _=>by simp) (fun i hi=>by omega) h
 have dV:=s9 dV
 have hlen:0+(ops.toList.take m).length=m:=by rw [List.length_take]; omega
 rw [hlen] at iy jR dV
 refine wpIn_region_any hm ?_
 have hD:DB (Array.replicate ops.size false)=fun _=>false:=by
  funext i
  unfold DB
  by_cases h:i < ops.size <;> simp [h]
 refine Le (F:=F) (fl:=[]) hc.toOrder (by have:=hc.le; simpa using this) hc.apart (fun j hj hm i hi _=>hc.tail j (by simpa using hj) hm i (by omega)) jR ?_ ops.size _ ν a _ (by simp) (fun j o hj=>by rw [hD] at hj; cases hj) (fun i aM=>by rw [hD] at aM; cases aM) ?_ (fun i _ _=>hi.fr _ (by omega)) ?_
 ·intro fuel aA ν a w hs eH ak cS hi hu
  have hle:m≤ops.size:=by have:=hc.le; simpa using this
  have hD:∀ i,DB aA i=decide (i < m):=fun i=>by
   by_cases h:i < m
   ·rw [cS i h (by simp)]; simp [h]
   ·cases hd:DB aA i with
    | true=>exact absurd (ak i hd) h
    | false=>simp [h]
  have e1:a8 ops.toList rs (DB aA) tmps m=a8 ops.toList rs (fun i=>decide (i < m)) tmps m:=xA (fun i _=>hD i)
  have e2:ko rs (DB aA) m=rs.map (·.nb):=by
   unfold ko
   apply List.ext_getElem?
   intro i
   rw [List.getElem?_map,List.getElem?_map]
   by_cases h:i < m
   ·rw [List.getElem?_range h,List.getElem?_eq_getElem (by omega:i < rs.length)]
    simp only [Option.map_some,hD i,h,decide_true,if_true]
    rw [List.getElem?_eq_getElem (by omega:i < rs.length)]; rfl
   ·rw [List.getElem?_eq_none (by simp; omega),List.getElem?_eq_none (by omega)]; rfl
  rw [e1,e2] at hi
  exact Ew hE bJ hc.toOrder hc.tail hk fuel aA m ν _ _ a w hs hD (Nat.le_refl _) hle hi dV (by
   have:=Dv hD ops.size hle; omega)
 ·rw [hD]
  have e1:a8 ops.toList rs (fun _=>false) tmps m=tmps:=vE (j:=0) (by omega) (fun _ _ _=>rfl)
  rw [e1]
  have kq:Below w.heap.size w { w with drawn:=w.drawn+1 }:=⟨rfl,rfl,rfl,Nat.le_refl _,fun _ _=>rfl⟩
  refine ⟨hi.tm,hi.df.below kq,(hi.hp.below kq).rD (fun id c cm=>?_),fun id bm=>hi.fr id (by rw [List.length_append] at bm; omega),hi.kp.below kq,fun id c lc cm nK dy=>?_,hi.mono⟩
  ·rw [List.getElem?_append] at cm
   split at cm
   ·exact cm
   ·have:=(qT.1 cm).2.1; cases this
  ·rw [List.getElem?_append] at cm
   split at cm
   ·exact hi.own id c lc cm nK dy
   ·have:=(qT.1 cm).2.1; cases this
 ·unfold gd
  have:=List.length_filter_le (fun i=>!DB (Array.replicate ops.size false) i) (List.range ops.size)
  simpa using this
end
end Go.Ae
/- Regions that draw, in which moves may come behind the first stores. -/
namespace Go.Ae
open Go Go.RowKit
/-- A store or a quiet operation. -/
def Hu (E:Env) (o:Oper) (t:List Value) (H:ax) (k:SK):Prop :=
 match o.op with
 | .store ty x y=>BA E t H ty x y fun t' H'=>db t' o.dst undef fun uJ=>k uJ H'
 | .call c=>match c.callee with
  | .builtin .append=>match c.args.toList,c.argTypes.toList with
   | [x,y],[ty,ty']=>match Nat.beq ty ty' with
    | true=>bQ t x fun xv=>bQ t y fun yv=>match AV xv with
     | true=>Fz E [] H ty xv yv fun v _ H'=>db t o.dst v fun t'=>k t' H'
     | false=>False
    | false=>False
   | _,_=>False
  | .builtin .copy=>match c.args.toList,c.argTypes.toList with
   | [x,y],[ty,_]=>bQ t x fun xv=>bQ t y fun yv=>FA E H ty xv yv fun v H'=>db t o.dst v fun t'=>k t' H'
   | _,_=>False
  | _=>ja H fun aE=>kD E o.op t H aE fun v nb=>db t o.dst v fun t'=>uk H nb fun H'=>k t' H'
 | _=>ja H fun aE=>kD E o.op t H aE fun v nb=>db t o.dst v fun t'=>uk H nb fun H'=>k t' H'
/-- Blocks from before the region stay, where it is asked. -/
def OJ:Option Nat→ax→ax→Prop→Prop
 | none,_,_,k=>k
 | some n,H,H',k=>H'.take n=H.take n∧k
def B0 (E:Env) (fz:Option Nat):List Oper→List Value→ax→SK→Prop
 | [],t,H,k=>k t H
 | o::l,t,H,k=>Hu E o t H fun t' H'=>OJ fz H H' (B0 E fz l t' H' k)
theorem Lf {fz:Option Nat} {H H':ax} {k:Prop} (h:OJ fz H H' k):k∧∀ n,fz=some n→H'.take n=H.take n:=by
 cases fz with
 | none=>exact ⟨h,fun n e=>by cases e⟩
 | some m=>exact ⟨h.2,fun n e=>by cases e; exact h.1⟩
/-- Does a floating operation read the heap? -/
def Hv (ops:List Oper) (fl:List Nat) (n:Nat):Option Nat:=match fl.all fun f=>match ops[f]? with | some o=>lM o.op | none=>true with
 | true=>none
 | false=>some n
def FE (ops:List Oper) (m q:Nat) (aP:List (List Nat)) (fl:List Nat):Bool :=
 decide (m+q≤ops.length) && Bg ops aP &&
 (List.range ops.length).all (fun j=>match ops[j]? with
  | some o=>o.after.toList.all fun e=>!Region.binds .any e || decide (e.on < j)
  | none=>true) &&
 (List.range m).all (fun j=>match ops[j]? with
  | some o=>(List.range m).all fun i=>i == j || match ops[i]? with
   | some p=>match p.dst with
    | some d=>(o.dst != some d) && (!(iO ops o).contains d || (aP.getD j []).contains i || (aP.getD i []).contains j)
    | none=>true
   | none=>true
  | none=>true) &&
 fl.all (fun f=>decide (f < m) && match ops[f]? with
  | some o=>o.guard.isNone && ((lM o.op || (lN o.op && (aP.getD f []).all fun i=>fl.contains i)) && ((match o.dst with | some d=>!(ik o.op.operands.toList).contains d | none=>false) && (List.range (m+q)).all fun i=>i == f || (match bM ops i with
   | none=>true
   | some e=>(o.dst != some e) && (!(ik o.op.operands.toList).contains e || (decide (i < m) && (aP.getD f []).contains i)))))
  | none=>false) &&
 (List.range (m+q)).all (fun j=>decide (j < m) || match ops[j]? with
  | some o=>o.guard.isNone && ((List.range j).all fun i=>(aP.getD j []).contains i || fl.contains i) && fl.all fun f=>(aP.getD j []).contains f || match bM ops f with | some d=>!(iO ops o).contains d | none=>false
  | none=>true) &&
 (List.range ops.length).all (fun j=>decide (j < m+q) || (List.range j).all fun i=>(aP.getD j []).contains i)
structure MG (ops:List Oper) (m q:Nat) (aP:List (List Nat)) (fl:List Nat):Prop extends Order ops aP where
 le:m+q≤ops.length
 apart:∀ j o i p d,j < m→i < m→i≠j→ops[j]?=some o→ops[i]?=some p→p.dst=some d→o.dst≠some d∧(d ∉ iO ops o∨i∈aP.getD j []∨j∈aP.getD i [])
 qk:∀ f∈fl,f < m∧∃ o d,ops[f]?=some o∧o.guard=none∧(lM o.op=true∨(lN o.op=true∧∀ i∈aP.getD f [],i∈fl))∧o.dst=some d∧d ∉ ik o.op.operands.toList∧∀ i e,i < m+q→i≠f→bM ops i=some e→e≠d∧(e∈ik o.op.operands.toList→i < m∧i∈aP.getD f [])
 mid:∀ j o,m≤j→j < m+q→ops[j]?=some o→o.guard=none∧(∀ i,i < j→i∈aP.getD j []∨i∈fl)∧∀ f∈fl,f∈aP.getD j []∨∀ d,bM ops f=some d→d ∉ iO ops o
 tail:∀ j,j < ops.length→m+q≤j→∀ i,i < j→i∈aP.getD j []
theorem QS {ops:List Oper} {m q:Nat} {aP:List (List Nat)} {fl:List Nat} (h:FE ops m q aP fl=true):MG ops m q aP fl:=by
 unfold FE at h
 simp only [Bool.and_eq_true,decide_eq_true_eq] at h
 obtain ⟨⟨⟨⟨⟨⟨h1,J⟩,h3⟩,h4⟩,h5⟩,h6⟩,h7⟩:=h
 have lt:∀ {j:Nat} {o:Oper},ops[j]?=some o→j∈List.range ops.length:=fun hj=>List.mem_range.2 (List.getElem?_eq_some_iff.1 hj).1
 refine ⟨⟨fun j o hj i hi=>?_,fun j o hj e he hb=>?_⟩,h1,fun j o i p d hj hi aI ho hp hd=>?_,fun f hf=>?_,fun j o hm hj ho=>?_,fun j hj hm i hi=>?_⟩
 ·unfold Bg at J
  have:=List.all_eq_true.1 J j (lt hj)
  rw [hj] at this
  have:=List.all_eq_true.1 this i hi
  simp only [Bool.and_eq_true,decide_eq_true_eq,List.any_eq_true,Bool.or_eq_true,beq_iff_eq,List.contains_iff_mem] at this
  obtain ⟨k1,e,k2,k3,k4⟩:=this
  exact ⟨k1,e,by simpa using k2,k3,k4⟩
 ·have:=List.all_eq_true.1 h3 j (lt hj)
  rw [hj] at this
  have:=List.all_eq_true.1 this e (by simpa using he)
  simp only [hb,Bool.not_true,Bool.false_or,decide_eq_true_eq] at this
  exact this
 ·have:=List.all_eq_true.1 h4 j (List.mem_range.2 hj)
  rw [ho] at this
  have:=List.all_eq_true.1 this i (List.mem_range.2 hi)
  rw [hp] at this
  have hb:(i == j)=false:=by simp [aI]
  rw [hb,Bool.false_or] at this
  dsimp only at this
  rw [hd] at this
  simp only [Bool.and_eq_true,bne_iff_ne,Bool.or_eq_true,Bool.not_eq_true',List.contains_iff_mem,or_assoc] at this
  refine ⟨this.1,this.2.imp (fun k=>?_) (fun k=>k)⟩
  intro gw
  rw [List.contains_iff_mem.2 gw] at k
  cases k
 ·have:=List.all_eq_true.1 h5 f hf
  simp only [Bool.and_eq_true,decide_eq_true_eq] at this
  obtain ⟨k1,k2⟩:=this
  refine ⟨k1,?_⟩
  split at k2
  ·rename_i o ho
   simp only [Bool.and_eq_true,Bool.or_eq_true,Option.isNone_iff_eq_none] at k2
   obtain ⟨k2,hx,k3,k4⟩:=k2
   cases hd:o.dst with
   | none=>rw [hd] at k3; cases k3
   | some d =>
   rw [hd] at k3
   have GG:d ∉ ik o.op.operands.toList:=fun hm=>by
    have k3:(!(ik o.op.operands.toList).contains d)=true:=k3
    rw [List.contains_iff_mem.2 hm] at k3; cases k3
   refine ⟨o,d,ho,k2,hx.imp id (fun h=>⟨h.1,fun i hi=>by simpa using List.all_eq_true.1 h.2 i hi⟩),hd,GG,fun i e hi aI he=>?_⟩
   have:=List.all_eq_true.1 k4 i (List.mem_range.2 hi)
   have hb:(i == f)=false:=by simp [aI]
   rw [hb,Bool.false_or,he,hd] at this
   simp only [Bool.or_eq_true,Bool.and_eq_true,bne_iff_ne,decide_eq_true_eq,List.contains_iff_mem,Bool.not_eq_true'] at this
   obtain ⟨h1,J⟩:=this
   refine ⟨fun e'=>h1 (by rw [e']),fun e'=>?_⟩
   rcases J with J | J
   ·rw [List.contains_iff_mem.2 e'] at J; cases J
   ·exact J
  ·cases k2
 ·have:=List.all_eq_true.1 h6 j (List.mem_range.2 hj)
  have hd:decide (j < m)=false:=by simp; omega
  rw [hd,Bool.false_or,ho] at this
  simp only [Bool.and_eq_true,Option.isNone_iff_eq_none,List.all_eq_true,List.mem_range,Bool.or_eq_true,List.contains_iff_mem] at this
  obtain ⟨⟨k1,k2⟩,k3⟩:=this
  refine ⟨k1,k2,fun f hf=>(k3 f hf).imp (fun h=>h) (fun h d hd=>?_)⟩
  rw [hd] at h
  simp only [Bool.not_eq_true'] at h
  intro gw
  rw [List.contains_iff_mem.2 gw] at h
  cases h
 ·have:=List.all_eq_true.1 h7 j (List.mem_range.2 hj)
  simp only [Bool.or_eq_true,decide_eq_true_eq,List.all_eq_true,List.mem_range,List.contains_iff_mem] at this
  rcases this with h | h
  ·omega
  ·exact h i hi
/-- A region that draws, with floating moves. -/
def NX (E:Env) (ops:List Oper) (t:List Value) (H:ax) (k:SK):Prop :=
 ∃ (m q:Nat) (aP:List (List Nat)) (fl:List Nat),FE ops m q aP fl=true∧ja H fun n0=>tV ops m fun hd tl=>tV tl q fun md tl2 =>
  kP E ops H n0 hd aP 0 t [] fun t' S=>m6 H S fun G=>B0 E (Hv ops fl n0) md t' G fun t2 G2=>mS E ops tl2 t2 G2 k
/-- Between: some of the floating operations have not gone. -/
structure um (fz:Option Nat) (P:Program) (F:Fr) (bh:Nu) (ops:List Oper) (fl:List Nat) (D:Nat→Bool) (ν:Nu) (t:List Value) (H:ax) (a:Act) (w:World):Prop where
 len:t.length=a.tmps.toList.length
 tm:∀ (d:Nat) v,t[d]?=some v→(∀ f∈fl,D f=false→bM ops f≠some d)→∃ v',a.tmps.toList[d]?=some v'∧ao ν v v'
 un:∀ f∈fl,D f=false→∀ o d,ops[f]?=some o→o.dst=some d→∃ v G,t[d]?=some v∧nq P bh G o.op t v∧∀ id b,G[id]?=some (some b)→H[id]?=some (some b)∧∃ n,fz=some n∧id < n
 le:bh.le ν
 rest:bt F ν [] H { a with tmps:=#[] } w
theorem MH:∀ {l:List Value} {n:Nat} {v:Value} {k:List Value→Prop},n < l.length→k (l.set n v)→wU l n v k
 | [],_,_,_,h,_=>absurd h (Nat.not_lt_zero _)
 | _::l,0,v,k,_,h=>h
 | x::l,n+1,v,k,h,hk=>MH (l:=l) (by simpa using h) hk
theorem nq.same {P:Program} {bh:Nu} {G:ax} {op:Op} {t t':List Value} {v:Value} (h:nq P bh G op t v) (hs:∀ s∈ik op.operands.toList,t'[s]?=t[s]?):nq P bh G op t' v :=
 ⟨h.1,fun o ν a w hle ho ha=>h.2 o ν a w hle ho fun x hx s m5 u hu=>ha x hx s m5 u (by rw [hs s (oY (by rw [← m5]; simpa using hx))]; exact hu)⟩
theorem pF.heap {P:Program} {bh:Nu} {op:Op} {t:List Value} {v:Value} (h:pF P bh op t v) (G:ax):nq P bh G op t v:=⟨h.1,fun o ν a w hle ho ha _=>h.2 o ν a w hle ho ha⟩
theorem Lg {fz:Option Nat} {G H H':ax} (h:∀ id b,G[id]?=some (some b)→H[id]?=some (some b)∧∃ n,fz=some n∧id < n) (hf:∀ n,fz=some n→H'.take n=H.take n) :
  ∀ id b,G[id]?=some (some b)→H'[id]?=some (some b)∧∃ n,fz=some n∧id < n:=fun id b hb=>by
 obtain ⟨h1,n,J,h3⟩:=h id b hb
 refine ⟨?_,n,J,h3⟩
 have:=congrArg (fun l=>l[id]?) (hf n J)
 simp only [List.getElem?_take,if_pos h3] at this
 rw [this]; exact h1
theorem AW {op:Op} {C:Prop} (h:lM op=true∨(lN op=true∧C)):(lM op || lN op)=true:=by
 rcases h with h | ⟨h,_⟩
 ·rw [h]; rfl
 ·rw [h]; simp
theorem E5 {t:List Value} {o:Option Tmp} {v:Value} {k:List Value→Prop} {C:Prop} (h:db t o v k) (hk:∀ t,k t→C):C:=by
 cases o with
 | none=>exact hk _ h
 | some d=>exact hk _ (n7 h).2
theorem um.put {fz:Option Nat} {P:Program} {F:Fr} {bh:Nu} {ops:List Oper} {fl:List Nat} {D D':Nat→Bool} {ν aj:Nu} {t:List Value} {H H':ax} {a:Act} {w w':World} (h:um fz P F bh ops fl D ν t H a w) (Is:∀ n,fz=some n→H'.take n=H.take n) (hle:ν.le aj)
  (hD:∀ f∈fl,D' f=D f) {v v':Value} (hv:ao aj v v') {o:Option Tmp} (ho:∀ d,o=some d→∀ f∈fl,∀ p e,ops[f]?=some p→p.dst=some e→d≠e∧d ∉ ik p.op.operands.toList)
  {k:List Value→Prop} (hk:db t o v k) (hr:bt F aj [] H' { a with tmps:=#[] } w'):∃ t',k t'∧um fz P F bh ops fl D' aj t' H' (a.put o v') w':=by
 cases o with
 | none =>
  refine ⟨t,hk,h.len,fun d u hu hn=>?_,fun f lz hd p e h1 J=>?_,Nu.le_trans h.le hle,hr⟩
  ·obtain ⟨u',k1,k2⟩:=h.tm d u hu (fun f lz hd=>hn f lz (by rw [hD f lz]; exact hd))
   exact ⟨u',k1,k2.mono hle⟩
  ·obtain ⟨u,G,q1,q2,q3⟩:=h.un f lz (by rw [← hD f lz]; exact hd) p e h1 J
   exact ⟨u,G,q1,q2,Lg q3 Is⟩
 | some d0 =>
  obtain ⟨h1,J⟩:=n7 hk
  refine ⟨_,J,?_,fun d u hu hn=>?_,fun f lz hd p e k1 k2=>?_,Nu.le_trans h.le hle,hr⟩
  ·rw [qZ,List.length_set,List.length_set]; exact h.len
  ·rw [qZ]
   by_cases e:d0=d
   ·subst e
    rw [List.getElem?_set_self h1] at hu
    cases hu
    exact ⟨v',by rw [List.getElem?_set_self (by rw [← h.len]; exact h1)],hv⟩
   ·rw [List.getElem?_set_ne e] at hu ⊢
    obtain ⟨u',k1,k2⟩:=h.tm d u hu (fun f lz hd=>hn f lz (by rw [hD f lz]; exact hd))
    exact ⟨u',k1,k2.mono hle⟩
  ·obtain ⟨aI,hns⟩:=ho d0 rfl f lz p e k1 k2
   obtain ⟨u,G,q1,q2,q3⟩:=h.un f lz (by rw [← hD f lz]; exact hd) p e k1 k2
   exact ⟨u,G,by rw [List.getElem?_set_ne aI]; exact q1,q2.same fun s hs=>by rw [List.getElem?_set_ne (fun e:d0=s=>hns (by rw [e]; exact hs))],Lg q3 Is⟩
section
variable {fz:Option Nat} {P:Program} {E:Env} {r:Option Nat} {n:Nat} {F:Fr} {ops:Array Oper} {Q:Exit→Act→World→Prop} {m q:Nat} {aP:List (List Nat)} {fl:List Nat} {k:SK}
/-- One operation of the middle. -/
theorem Un (hE:jy P E) (bJ:kE F E) {bh:Nu} {o:Oper} {D D':Nat→Bool} {ν:Nu} {t:List Value} {H:ax} {a:Act} {w:World} (h:um fz P F bh ops.toList fl D ν t H a w) {k:SK} (zu:∀ t' H',k t' H'→∀ n,fz=some n→H'.take n=H.take n)
  (hD:∀ f∈fl,D' f=D f)
  (fg:∀ f∈fl,D f=false→∀ d,bM ops.toList f=some d→d ∉ iO ops.toList o)
  (ho:∀ d,o.dst=some d→∀ f∈fl,∀ p e,ops.toList[f]?=some p→p.dst=some e→d≠e∧d ∉ ik p.op.operands.toList)
  (hk:Hu E o t H k) {next:Act→World→Prop} {Q:Exit→Act→World→Prop}
  (hn:∀ aj t' H' a' w',um fz P F bh ops.toList fl D' aj t' H' a' w'→k t' H'→next a' w'):o.wpIn (WF r) n P a w next Q:=by
 have nQ:∀ x∈o.op.operands,eW ν t a x:=fun x hx s hs v hv=>by
  obtain ⟨v',k1,k2⟩:=h.tm s v hv (fun f lz hd dY=>fg f lz hd s dY (by unfold iO; exact List.mem_append_left _ (oY (by rw [hs] at hx; simpa using hx))))
  exact ⟨v',by simpa using k1,k2⟩
 have quiet:(ja H fun aE=>kD E o.op t H aE fun v nb=>db t o.dst v fun t'=>uk H nb fun H'=>k t' H')→o.wpIn (WF r) n P a w next Q:=by
  intro hk
  have hk:=lK hk
  obtain ⟨v,nb,qi,hq⟩:=AE (P:=P) hE.toEnvOk hk
  refine hq o ν a w r n rfl nQ h.rest.hp (h.rest.fr _ (Nat.le_refl _)) next Q (fun v' w' aj hp=>?_)
  cases hd:o.dst with
  | none =>
   rw [hd] at qi ho
   obtain ⟨H',h1,J⟩:=h.rest.quiet hp qi
   obtain ⟨t',k1,k2⟩:=h.put (D':=D') (o:=none) (zu _ _ h1) hp.le hD hp.val (fun d hd=>by cases hd) (k:=fun t'=>t'=t) rfl J
   subst k1
   exact hn _ _ _ _ _ k2 h1
  | some d =>
   rw [hd] at qi ho
   obtain ⟨h1,J⟩:=n7 qi
   obtain ⟨H',h3,h4⟩:=h.rest.quiet hp J
   obtain ⟨t',k1,k2⟩:=h.put (D':=D') (o:=some d) (zu _ _ h3) hp.le hD hp.val ho (k:=fun t'=>k t' H') (by
    show wU t d v _
    exact MH h1 h3) h4
   exact hn _ _ _ _ _ k2 k1
 unfold Hu at hk
 split at hk
 ·rename_i ty x y an
  have hx:eW ν t a x:=nQ x (by rw [an]; simp [Op.operands])
  have hy:eW ν t a y:=nQ y (by rw [an]; simp [Op.operands])
  obtain ⟨w',H',bA,aM,J⟩:=Ki hE.toEnvOk an h.rest hx hy hk
  obtain ⟨t',k1,k2⟩:=h.put (D':=D') (o:=o.dst) (E5 J fun t hk=>zu t _ hk) ν.le_refl hD (.undef ν) ho J aM
  refine ⟨fun _ _=>trivial,?_⟩
  rw [Oper.semAt_eq _ _ _ (by simp [an]),bA]
  exact hn _ _ _ _ _ k2 k1
 ·rename_i c an
  split at hk
  ·rename_i hc
   split at hk
   ·rename_i x y t1 t2 qn CZ
    split at hk
    ·rename_i hb
     have hb:t1=t2:=Nat.eq_of_beq_eq_true hb
     subst hb
     have uO:c.args=#[x,y]:=Array.ext' qn
     have zc:c.argTypes=#[t1,t1]:=Array.ext' CZ
     obtain ⟨xv,jf,uF⟩:=kg hk (nQ x (by rw [an]; simp [Op.operands,Call.operands,uO]))
     obtain ⟨yv,zv,uG⟩:=kg jf (nQ y (by rw [an]; simp [Op.operands,Call.operands,uO]))
     split at zv
     ·rename_i hex
      obtain ⟨v,v',aj,t',H',w',h1,J,h3,h4,h5⟩:=JW hE.toEnvOk bJ h.rest uF uG zv o.type
      obtain rfl:t'=[]:=List.eq_nil_of_length_eq_zero (by have:=h3.tm.1; simpa using this)
      obtain ⟨t2,k1,k2⟩:=h.put (D':=D') (E5 h1 fun t hk=>zu t _ hk) (h5 hex) hD J ho h1 h3
      exact jm (by simp [an]) (by simp [execOp,an,resolve,hc,uO,zc,invoke,builtin,h4]) next Q (hn _ _ _ _ _ k2 k1)
     ·exact zv.elim
    ·exact hk.elim
   ·exact hk.elim
  ·rename_i hc
   split at hk
   ·rename_i x y t1 t2 qn CZ
    have uO:c.args=#[x,y]:=Array.ext' qn
    have zc:c.argTypes=#[t1,t2]:=Array.ext' CZ
    obtain ⟨xv,jf,uF⟩:=kg hk (nQ x (by rw [an]; simp [Op.operands,Call.operands,uO]))
    obtain ⟨yv,zv,uG⟩:=kg jf (nQ y (by rw [an]; simp [Op.operands,Call.operands,uO]))
    obtain ⟨v,H',w',h1,J,h3,h4⟩:=Kn hE.toEnvOk h.rest uF uG zv t2 o.type
    obtain ⟨t2,k1,k2⟩:=h.put (D':=D') (E5 h1 fun t hk=>zu t _ hk) ν.le_refl hD J ho h1 h3
    exact jm (by simp [an]) (by simp [execOp,an,resolve,hc,uO,zc,invoke,builtin,h4]) next Q (hn _ _ _ _ _ k2 k1)
   ·exact hk.elim
  ·exact quiet hk
 ·exact quiet hk
theorem Uo (hE:jy P E) (bJ:kE F E) (hc:MG ops.toList m q aP fl) (hk:∀ ν t' H' a' w',bt F ν t' H' a' w'→k t' H'→Q .normal a' w') :
  ∀ (fuel:Nat) (aA:Array Bool) (j0:Nat) (bh ν:Nu) (t:List Value) (H:ax) (a:Act) (w:World),aA.size=ops.size→oj ops.toList (DB aA)→m≤j0→j0≤m+q →
  (∀ i,i < j0→i ∉ fl→DB aA i=true)→(∀ i,DB aA i=true→i < j0)→um fz P F bh ops.toList fl (DB aA) ν t H a w →
  B0 E fz ((ops.toList.take (m+q)).drop j0) t H (fun t' H'=>mS E ops.toList (ops.toList.drop (m+q)) t' H' k)→gd (DB aA) ops.size≤fuel→wpAnyIn (WF r) n P .any ops Q fuel aA a w:=by
 have hle:m+q≤ops.size:=by have:=hc.le; simpa using this
 have wX:∀ (i:Nat) (d:Tmp),i < m+q→m≤i→bM ops.toList i=some d→∀ f∈fl,f≠i→∀ p e,ops.toList[f]?=some p→p.dst=some e→d≠e∧d ∉ ik p.op.operands.toList:=by
  intro i d hi BZ hd f hf aI p e h1 h3
  obtain ⟨_,o,d',k1,k2,k3,k4,_,k5⟩:=hc.qk f hf
  rw [h1] at k1; cases k1
  rw [h3] at k4; cases k4
  obtain ⟨q1,q2⟩:=k5 i d hi (Ne.symm aI) hd
  exact ⟨q1,fun e'=>by have:=(q2 e').1; omega⟩
 have finish:∀ (fuel:Nat) (aA:Array Bool) (j0:Nat) (bh ν:Nu) (t:List Value) (H:ax) (a:Act) (w:World),aA.size=ops.size→m≤j0→j0≤m+q→(∀ i,DB aA i=true→i < j0)→um fz P F bh ops.toList fl (DB aA) ν t H a w →
   B0 E fz ((ops.toList.take (m+q)).drop j0) t H (fun t' H'=>mS E ops.toList (ops.toList.drop (m+q)) t' H' k)→gd (DB aA) ops.size≤fuel→(∀ i,i < m+q→DB aA i=true)→wpAnyIn (WF r) n P .any ops Q fuel aA a w:=by
  intro fuel aA j0 bh ν t H a w hs hm j9 ak hi h hu cS
  have e:j0=m+q:=by
   rcases Nat.lt_or_ge j0 (m+q) with h' | h'
   ·have:=ak j0 (cS j0 h'); omega
   ·omega
  subst e
  rw [List.drop_eq_nil_of_le (by simp; omega)] at h
  have hD:∀ i,DB aA i=decide (i < m+q):=fun i=>by
   by_cases h:i < m+q
   ·rw [cS i h]; simp [h]
   ·cases hd:DB aA i with
    | true=>exact absurd (ak i hd) h
    | false=>simp [h]
  have aM:bt F ν t H a w:=⟨⟨hi.len,fun d x y hx hy=>by
   obtain ⟨y',k1,k2⟩:=hi.tm d x hx (fun f hf hd=>by have:=(hc.qk f hf).1; rw [cS f (by omega)] at hd; cases hd)
   rw [hy] at k1; cases k1; exact k2⟩,hi.rest.df,hi.rest.hp,hi.rest.fr,hi.rest.kp,hi.rest.own,hi.rest.mono⟩
  exact Ew hE bJ hc.toOrder (m:=m+q) hc.tail hk fuel aA (m+q) ν t H a w hs hD (Nat.le_refl _) hle aM h (by
   have:=Dv hD ops.size hle; omega)
 intro fuel
 induction fuel with
 | zero =>
  intro aA j0 bh ν t H a w hs eH hm j9 ov ak hi h hu
  exact finish 0 aA j0 bh ν t H a w hs hm j9 ak hi h hu (fun i aM=>by
   cases hd:DB aA i with
   | true=>rfl
   | false=>have:=DX (n:=ops.size) (by omega:i < ops.size) hd; omega)
 | succ fuel ih =>
  intro aA j0 bh ν t H a w hs eH hm j9 ov ak hi h hu
  by_cases cS:∀ i,i < m+q→DB aA i=true
  ·exact finish (fuel+1) aA j0 bh ν t H a w hs hm j9 ak hi h hu cS
  ·have hex:∃ i,i < m+q∧DB aA i=false:=by
    refine Classical.byContradiction fun aI=>cS fun i aM=>?_
    cases hd:DB aA i with
    | true=>rfl
    | false=>exact absurd ⟨i,aM,hd⟩ aI
   obtain ⟨i1,CY,fG⟩:=hex
   obtain ⟨i0,OH,fh,gJ⟩:=Dw fG
   have hr:=Am hc.toOrder hs (by omega:i0 < ops.size) fh gJ
   refine ⟨(fun hn=>by rw [hn] at hr; cases hr),fun j hj=>?_⟩
   rw [mem_ready] at hj
   obtain ⟨h1,o,ho,he⟩:=hj
   have m7:j < ops.size:=(Array.getElem?_eq_some_iff.1 ho).1
   rw [tj (by omega)] at h1
   have fE:ops.toList[j]?=some o:=by simpa using ho
   have lu:=sQ hc.toOrder eH j o fE (fun e' fF bE=>he e' fF bE)
   have cZ:∀ i,DB (aA.setIfInBounds j true) i=(DB aA i || i == j):=fun i=>BD (by omega) i
   have w6:oj ops.toList (DB (aA.setIfInBounds j true)):=by
    intro i p aM hp e' fF bE
    rw [cZ] at aM ⊢
    by_cases e:i=j
    ·subst e
     rw [fE] at hp; cases hp
     have:DB aA e'.on=true:=he e' fF bE
     rw [this]; rfl
    ·have e2:(i == j)=false:=by simp [e]
     rw [e2,Bool.or_false] at aM
     rw [eH i p aM hp e' fF bE]; rfl
   have sh:gd (DB (aA.setIfInBounds j true)) ops.size≤fuel:=by
    have:=Ay cZ h1 ops.size
    rw [if_pos m7] at this; omega
   by_cases zw:j∈fl
   ·-- a floating move
    obtain ⟨mf,o',d,g1,g2,g3,g4,g6,g5⟩:=hc.qk j zw
    rw [fE] at g1; cases g1
    obtain ⟨v,G,oO,Io,hGH⟩:=hi.un j zw h1 o d fE g4
    obtain ⟨vu,Iu,aa5⟩:=Io.2 o ν a w hi.le rfl (fun x hx s m5 u hu=>by
     have qz:s∈ik o.op.operands.toList:=oY (by rw [← m5]; simpa using hx)
     obtain ⟨u',r1,r2⟩:=hi.tm s u hu (fun f hf hd dY=>by
      have zz:=(hc.qk f hf).1
      by_cases e:f=j
      ·subst e
       have:bM ops.toList f=some d:=by simp [bM,fE,g4]
       rw [this] at dY; cases dY
       exact g6 qz
      ·have:=((g5 f s (by omega) e dY).2 qz).2
       rw [lu f this] at hd; cases hd)
     exact ⟨u',by simpa using r1,r2⟩) (hi.rest.hp.rD fun id b hb=>(hGH id b hb).1)
    unfold wpOpIn
    rw [ho]
    dsimp only
    rw [if_pos (by simp [Region.wanted,g2])]
    refine jm (v':=vu) (w':=w) Io.1 aa5 _ Q ?_
    rw [g4]
    refine ih _ j0 bh ν t H _ w (by simp [hs]) w6 hm j9 (fun i aM hf=>by rw [cZ,ov i aM hf]; rfl) (fun i aM=>?_) ⟨?_,fun e u sF bL=>?_,fun f hf hd p e k1 k2=>?_,hi.le,hi.rest⟩ h sh
    ·rw [cZ] at aM
     by_cases e:i=j
     ·omega
     ·have e2:(i == j)=false:=by simp [e]
      rw [e2,Bool.or_false] at aM
      exact ak i aM
    ·rw [qZ,List.length_set]; exact hi.len
    ·rw [qZ]
     by_cases e':d=e
     ·subst e'
      rw [oO] at sF; cases sF
      have:d < t.length:=(List.getElem?_eq_some_iff.1 oO).1
      exact ⟨vu,by rw [List.getElem?_set_self (by rw [← hi.len]; exact this)],Iu⟩
     ·rw [List.getElem?_set_ne e']
      refine hi.tm e u sF (fun f hf hd=>?_)
      by_cases e3:f=j
      ·subst e3
       intro cM
       have:bM ops.toList f=some d:=by simp [bM,fE,g4]
       rw [this] at cM; exact e' (Option.some.inj cM)
      ·exact bL f hf (by rw [cZ,hd]; simp [e3])
    ·have aI:f≠j:=fun e3=>by subst e3; rw [cZ] at hd; simp at hd
     have bO:DB aA f=false:=by
      rw [cZ] at hd
      simp only [Bool.or_eq_false_iff] at hd
      exact hd.1
     exact hi.un f hf bO p e k1 k2
   ·have dS:j0≤j:=by
     rcases Nat.lt_or_ge j j0 with h' | h'
     ·rw [ov j h' zw] at h1; cases h1
     ·exact h'
    have Iv:j < m+q:=by
     rcases Nat.lt_or_ge j (m+q) with h' | h'
     ·exact h'
     ·have:=lu i1 (hc.tail j (by simpa using m7) h' i1 (by omega))
      rw [fG] at this; cases this
    obtain ⟨c1,c2,c3⟩:=hc.mid j o (by omega) Iv fE
    have hjj:j=j0:=by
     rcases Nat.lt_or_ge j0 j with h' | h'
     ·rcases c2 j0 h' with J | J
      ·have:=ak j0 (lu j0 J); omega
      ·have:=(hc.qk j0 J).1; omega
     ·omega
    subst hjj
    have GM:(ops.toList.take (m+q)).drop j=o::(ops.toList.take (m+q)).drop (j+1):=by
     have hl:j < (ops.toList.take (m+q)).length:=by simp; omega
     rw [List.drop_eq_getElem_cons hl]
     congr 1
     have:=List.getElem?_eq_getElem hl
     rw [List.getElem?_take,if_pos Iv,fE] at this
     exact (Option.some.inj this).symm
    rw [GM] at h
    unfold wpOpIn
    rw [ho]
    dsimp only
    rw [if_pos (by simp [Region.wanted,c1])]
    refine Un hE bJ (D':=DB (aA.setIfInBounds j true)) hi (fun t' H' h'=>(Lf h').2) (fun f hf=>?_) (fun f hf hd d cM=>?_) (fun d hd f hf=>?_) h (fun aj t' H' a' w' aM h'=>?_)
    ·have:f≠j:=fun e=>zw (e ▸ hf)
     rw [cZ]; simp [this]
    ·rcases c3 f hf with J | J
     ·rw [lu f J] at hd; cases hd
     ·exact J d cM
    ·exact wX j d Iv (by omega) (by simp [bM,fE,hd]) f hf (fun e=>zw (e ▸ hf))
    ·refine ih _ (j+1) bh aj t' H' a' w' (by simp [hs]) w6 (by omega) (by omega) (fun i gL hf=>?_) (fun i gL=>?_) aM (Lf h').1 sh
     ·rw [cZ]
      by_cases e:i=j
      ·simp [e]
      ·rw [ov i (by omega) hf]; rfl
     ·rw [cZ] at gL
      by_cases e:i=j
      ·omega
      ·have e2:(i == j)=false:=by simp [e]
       rw [e2,Bool.or_false] at gL
       have:=ak i gL; omega
/-- **Whatever order is drawn.** -/
theorem Up (hm:P.follows .mixedOrders=true):mY P NX:=by
 intro E hE r n F bJ ops Q id ν tmps H a w k hi h hk
 obtain ⟨m,q,aP,fl,a9,h⟩:=h
 have h:=lK h
 obtain ⟨OI,h⟩:=xK h
 obtain ⟨adw,h⟩:=xK h
 have hc:=QS a9
 obtain ⟨rs,iy,jR,dV⟩:=Ev (P:=P) hE.toEnvOk (ops:=ops.toList) (t0:=tmps) (H:=H) (aP:=aP) (l:=ops.toList.take m) (ms:=aP) (j:=0) (rs:=[]) rfl
  (fun i o ho=>by
   rw [List.getElem?_take] at ho
   split at ho
   ·simpa using ho
   ·cases ho)
  (fun i _=>by simp) (fun i hi=>by omega) h
 have dV:=s9 dV
 have hlen:0+(ops.toList.take m).length=m:=by rw [List.length_take]; omega
 rw [hlen] at iy jR dV
 have hD:DB (Array.replicate ops.size false)=fun _=>false:=by
  funext i
  unfold DB
  by_cases h:i < ops.size <;> simp [h]
 have hmd:(ops.toList.drop m).take q=(ops.toList.take (m+q)).drop m:=by
  rw [List.drop_take]; congr 1; omega
 have htl:(ops.toList.drop m).drop q=ops.toList.drop (m+q):=by rw [List.drop_drop]
 rw [hmd,htl] at dV
 have aT:m+q≤ops.size:=by have:=hc.le; simpa using this
 refine wpIn_region_any hm ?_
 refine Le (F:=F) (fl:=fl) hc.toOrder (by omega) hc.apart (fun j hj hm i hi hf=>?_) jR ?_ ops.size _ ν a _ (by simp) (fun j o hj=>by rw [hD] at hj; cases hj) (fun i aM=>by rw [hD] at aM; cases aM) ?_ (fun i _ _=>hi.fr _ (by omega)) ?_
 ·by_cases h':j < m+q
  ·rcases (hc.mid j ops[j] hm h' (by simp [hj])).2.1 i (by omega) with h | h
   ·exact h
   ·exact absurd h hf
  ·exact hc.tail j (by simpa using hj) (by omega) i (by omega)
 ·intro fuel aA ν a w hs eH ak cS hi hu
  have kV:∀ i d,i < m→bM ops.toList i=some d→d < tmps.length:=by
   intro i d hi hd
   obtain ⟨o,q,h1,J,h3,_⟩:=(jR i hi).ok
   unfold bM at hd
   rw [h1] at hd
   exact h3 d hd
  have oN:wJ ops.toList m:=by
   intro i j d hi hj h1 J
   rcases Nat.decEq i j with aI | he
   ·obtain ⟨o,q,k1,_⟩:=(jR i hi).ok
    obtain ⟨p,q',k2,_⟩:=(jR j hj).ok
    unfold bM at h1 J
    rw [k1] at h1; rw [k2] at J
    exact absurd h1 (hc.apart i o j p d hi hj (Ne.symm aI) k1 k2 J).1
   ·exact he
  have e2:ko rs (DB aA) m=rs.map (·.nb):=by
   unfold ko
   apply List.ext_getElem?
   intro i
   rw [List.getElem?_map,List.getElem?_map]
   by_cases h:i < m
   ·rw [List.getElem?_range h,List.getElem?_eq_getElem (by omega:i < rs.length)]
    simp only [Option.map_some]
    rw [List.getElem?_eq_getElem (by omega:i < rs.length)]
    cases fC:DB aA i with
    | true=>rfl
    | false =>
     have hf:i∈fl:=Classical.byContradiction fun hn=>by rw [cS i h hn] at fC; cases fC
     obtain ⟨_,o,d,g1,g2,g3,g4,_⟩:=hc.qk i hf
     obtain ⟨r',k1,k2,_⟩:=(jR i h).mv o g1 (AW g3) g2
     rw [List.getElem?_eq_getElem (by omega:i < rs.length)] at k1
     cases k1
     rw [k2]; rfl
   ·rw [List.getElem?_eq_none (by simp; omega),List.getElem?_eq_none (by omega)]; rfl
  have gk:=hi.hp
  rw [e2] at hi
  refine Uo hE bJ hc hk fuel aA m ν ν _ _ a w hs eH (Nat.le_refl _) (by omega) cS ak ⟨?_,fun d u sF bL=>?_,fun f hf hd o d k1 k3=>?_,ν.le_refl,⟨.nil ν,hi.df,hi.hp,hi.fr,hi.kp,hi.own,hi.mono⟩⟩ dV hu
  ·have:=hi.tm.1
   rw [qQ] at this ⊢
   exact this
  ·have GP:(a8 ops.toList rs (DB aA) tmps m)[d]?=(a8 ops.toList rs (fun i=>decide (i < m)) tmps m)[d]?:=by
    refine xL oN kV (fun i aM fC=>?_)
    have:DB aA i=true:=by
     by_cases hf:i∈fl
     ·cases OK:DB aA i with
      | true=>rfl
      | false=>exact absurd fC (bL i hf OK)
     ·exact cS i aM hf
    rw [this]; simp [aM]
   rw [← GP] at sF
   exact hi.tm.get sF
  ·obtain ⟨zz,o',d',g1,g2,g3,g4,g6,g5⟩:=hc.qk f hf
   rw [k1] at g1; cases g1
   rw [k3] at g4; cases g4
   obtain ⟨r',q1,q2,G,qG,q3⟩:=(jR f zz).mv o k1 (AW g3) g2
   have oL:∀ (id:Nat) (b:ah),G[id]?=some (some b)→(H++rs.map (·.nb))[id]?=some (some b)∧(H++ko rs (DB aA) m)[id]?=some (some b):=by
    intro id b hb
    rcases qG id b hb with ⟨h1,J⟩ | ⟨i,h1,J,h3,h4⟩
    ·rw [List.getElem?_append_left h1,List.getElem?_append_left h1]; exact ⟨J,J⟩
    ·subst h1
     have zA:i < m:=by omega
     have fC:DB aA i=true:=Classical.byContradiction fun hn=>by
      have C0:i∈fl:=Classical.byContradiction fun bL=>hn (cS i zA bL)
      obtain ⟨_,o2,d2,y1,y2,y3,y4,_⟩:=hc.qk i C0
      obtain ⟨r2,z1,z2,_⟩:=(jR i zA).mv o2 y1 (AW y3) y2
      rw [z1] at h4
      simp [z2] at h4
     rw [List.getElem?_append_right (by omega),List.getElem?_append_right (by omega)]
     rw [show H.length+i - H.length=i by omega]
     refine ⟨?_,qT.2 ⟨zA,fC,h4⟩⟩
     rw [List.getElem?_map]
     cases hr:rs[i]? with
     | none=>rw [hr] at h4; cases h4
     | some r2=>rw [hr] at h4; simpa using h4
   have hG:bR ν G w:=⟨fun id b hb=>gk.aH id b (oL id b hb).2,fun x y bx bY lx ly hx hy aI ho e1 e2=>gk.sep x y bx bY lx ly (oL x bx hx).2 (oL y bY hy).2 aI ho e1 e2⟩
   have hV:∃ G2,nq P ν G2 o.op (a8 ops.toList rs (fun i=>decide (i < f)) tmps f) r'.v∧∀ id b,G2[id]?=some (some b)→(H++rs.map (·.nb))[id]?=some (some b)∧∃ n,Hv ops.toList fl H.length=some n∧id < n:=by
    cases hp:lM o.op with
    | true=>exact ⟨[],(q3.1 hp ν w hG).heap [],fun id b hb=>by simp at hb⟩
    | false =>
     obtain ⟨hh,lu⟩:=g3.resolve_left (by rw [hp]; simp)
     refine ⟨G,q3.2 hh ν,fun id b hb=>?_⟩
     rcases qG id b hb with ⟨h1,J⟩ | ⟨i,h1,J,h3,h4⟩
     ·refine ⟨by rw [List.getElem?_append_left h1]; exact J,H.length,?_,h1⟩
      unfold Hv
      have:(fl.all fun f=>match ops.toList[f]? with | some o=>lM o.op | none=>true)=false:=by
       rw [List.all_eq_false]
       exact ⟨f,hf,by rw [k1]; simp [hp]⟩
      rw [this]
     ·obtain ⟨_,o2,d2,y1,y2,y3,y4,_⟩:=hc.qk i (lu i h3)
      obtain ⟨r2,z1,z2,_⟩:=(jR i (by omega)).mv o2 y1 (AW y3) y2
      rw [z1] at h4
      simp [z2] at h4
   obtain ⟨G2,q3,qg⟩:=hV
   have Iw:bM ops.toList f=some d:=by simp [bM,k1,k3]
   refine ⟨r'.v,G2,ta _ Iw q1 (by simp [zz]) (kV f d zz Iw) m zz oN,q3.same fun s hs=>?_,qg⟩
   by_cases hex:∃ i,i < m∧i≠f∧bM ops.toList i=some s
   ·obtain ⟨i,h1,J,h3⟩:=hex
    obtain ⟨_,k5⟩:=g5 i s (by omega) J h3
    obtain ⟨_,k7⟩:=k5 hs
    have C0:=(hc.mask f o k1 i k7).1
    obtain ⟨o2,r2,w1,w2,_⟩:=(jR i h1).ok
    rw [ta _ h3 w2 (by simp [C0]) (kV i s h1 h3) f C0 (fun a b c h4 h5=>oN a b c (by omega) (by omega)),ta _ h3 w2 (by simp [h1]) (kV i s h1 h3) m h1 oN]
   ·have qj:∀ i,i < m→bM ops.toList i=some s→i=f:=fun i h1 J=>Classical.byContradiction fun h3=>hex ⟨i,h1,h3,J⟩
    by_cases PC:s=d
    ·subst PC
     exact absurd hs g6
    ·rw [vD _ f (fun i aM _ fC=>by have:=qj i (by omega) fC; omega),vD _ m (fun i aM OK fC=>by
      have:=qj i aM fC
      subst this
      rw [Iw] at fC; exact absurd (Option.some.inj fC).symm PC)]
 ·rw [hD]
  have e1:a8 ops.toList rs (fun _=>false) tmps m=tmps:=vE (j:=0) (by omega) (fun _ _ _=>rfl)
  rw [e1]
  have kq:Below w.heap.size w { w with drawn:=w.drawn+1 }:=⟨rfl,rfl,rfl,Nat.le_refl _,fun _ _=>rfl⟩
  refine ⟨hi.tm,hi.df.below kq,(hi.hp.below kq).rD (fun id c cm=>?_),fun id bm=>hi.fr id (by rw [List.length_append] at bm; omega),hi.kp.below kq,fun id c lc cm nK dy=>?_,hi.mono⟩
  ·rw [List.getElem?_append] at cm
   split at cm
   ·exact cm
   ·have:=(qT.1 cm).2.1; cases this
  ·rw [List.getElem?_append] at cm
   split at cm
   ·exact hi.own id c lc cm nK dy
   ·have:=(qT.1 cm).2.1; cases this
 ·unfold gd
  have:=List.length_filter_le (fun i=>!DB (Array.replicate ops.size false) i) (List.range ops.size)
  simpa using this
end
end Go.Ae
/- Regions that draw their order, in which a slice grows whose block nobody else reads behind it. -/
namespace Go.Ae
open Go Go.RowKit
/-- An append: its type and what it is handed. -/
def isApp (op:Op):Option (TypeId × Operand × Operand):=match op with
 | .call c=>match c.callee with
  | .builtin .append=>match c.args.toList,c.argTypes.toList with
   | [x,y],[t,t']=>match Nat.beq t t' with
    | true=>some (t,x,y)
    | false=>none
   | _,_=>none
  | _=>none
 | _=>none
theorem RR {op:Op} {t:TypeId} {x y:Operand} (h:isApp op=some (t,x,y)):∃ c,op=.call c∧c.callee=.builtin .append∧c.args=#[x,y]∧c.argTypes=#[t,t]:=by
 unfold isApp at h
 split at h
 ·rename_i c
  split at h
  ·rename_i hc
   split at h
   ·rename_i x' y' t1 t2 hx ht
    split at h
    ·rename_i hb
     cases h
     have hb:=Nat.eq_of_beq_eq_true hb
     subst hb
     exact ⟨c,rfl,hc,Array.ext' hx,Array.ext' ht⟩
    ·cases h
   ·cases h
  ·cases h
 ·cases h
/-- An append whose slice is nil, or lies in a block that came in this region: its block gives way. -/
def OL (E:Env) (tmps:List Value) (G:ax) (n0 aE:Nat) (t:TypeId) (x y:Operand) (k:Value→Option Nat→Option ah→Prop):Prop :=
 bQ tmps x fun xv=>bQ tmps y fun yv=>cE E.tt t fun ti=>match ti.kind with
  | .slice e=>cE E.tt e fun te=>yP G te.size yv fun s=>match xv with
   | .slice none 0 0=>match s.m with
    | 0=>k (.slice none 0 0) none none
    | m+1=>((m+1)*te.bytes≤140737488355328)∧k (.slice (some ⟨aE,0,none⟩) (m+1) aJ) none (some (oh te.size s))
   | .slice (some ⟨id,0,none⟩) n c=>gu G id fun b=>match Nat.beq b.ae te.size && Nat.ble n0 id with
    | true=>(n=b.n∧(n+s.m)*te.bytes≤140737488355328)∧vX b s fun b'=>k (.slice (some ⟨aE,0,none⟩) (n+s.m) aJ) (some (id - n0)) (some b')
    | false=>False
   | _=>False
  | _=>False
structure EPost (ν aj:Nu) (aE:Nat) (iw:Option Loc) (w w':World) (v v':Value) (nb:Option ah):Prop where
 le:ν.le aj
 only:∀ id,id≠aE→aj id=ν id
 val:ao aj v v'
 C1:Below w.heap.size w w'∨∃ l,iw=some l∧(∃ cur t,w.heap[l.aH]?=some (.cells cur t (0,0)))∧(∀ q,q≠l.aH→w'.heap[q]?=w.heap[q]?)∧w.heap.size≤w'.heap.size∧w'.os=w.os∧w'.tape=w.tape∧w'.output=w.output
 y7:nb=none→aj=ν
 gI:∀ b,nb=some b→∃ l,aj aE=some l∧bN aj l b w'∧(w.heap.size≤l.aH∨∃ lo,iw=some lo∧l.aH=lo.aH)
theorem mH.e {ν aj:Nu} {aE:Nat} {w w':World} {v v':Value} {nb:Option ah} (h:mH ν aj aE w w' v v' nb) (iw:Option Loc):EPost ν aj aE iw w w' v v' nb :=
 ⟨h.le,h.only,h.val,.inl h.below,h.y7,fun b hb=>let ⟨l,h1,J,h3⟩:=h.gI b hb; ⟨l,h1,J,.inl h3⟩⟩
section
variable {P:Program} {E:Env}
theorem Tc (hE:EnvOk P E) {tmps:List Value} {G:ax} {n0 aE:Nat} {t:TypeId} {x y:Operand} {k:Value→Option Nat→Option ah→Prop} (h:OL E tmps G n0 aE t x y k) :
  ∃ v fO nb,k v fO nb∧(∀ i,fO=some i→∃ b,G[n0+i]?=some (some b)∧b.own=true) ∧
   ∀ (ν:Nu) (a:Act) (w:World) (ty:TypeId),eW ν tmps a x→eW ν tmps a y→bR ν G w→ν aE=none →
    ∃ v' w' aj,(Builtin.append_ #[t,t] ty #[a.eval x,a.eval y]).run P w=.ok v' w'∧EPost ν aj aE (fO.bind fun i=>ν (n0+i)) w w' v v' nb:=by
 obtain ⟨xv,J,uM⟩:=cK h
 clear h
 obtain ⟨yv,h,zl⟩:=cK J
 clear J
 obtain ⟨ti,ht,J⟩:=cI h
 clear h
 obtain ⟨d,hu,hd⟩:=(hE.ty _ _ ht).under
 split at J
 ·rename_i e hk
  rw [hk] at hd
  have hd:d=.slice e:=hd
  subst hd
  obtain ⟨te,he,h⟩:=cI J
  clear J
  have a9:=hE.ty _ _ he
  obtain ⟨i,im,gi,mX,z,hz,g8⟩:=a9.info
  obtain ⟨s,J,xl,hs⟩:=Ep h
  clear h
  have jd:z.cells.size=te.size:=by rw [g8]; simpa using a9.len
  have acv:=a9.bit
  have small:∀ q,q*te.bytes≤140737488355328→q≤140737488355328:=fun q hq=>by
   have:q*1≤q*te.bytes:=Nat.mul_le_mul_left _ (by omega)
   omega
  split at J
  ·-- onto nil
   split at J
   ·rename_i hm
    refine ⟨_,_,_,J,(fun i hi=>by cases hi),fun ν a w ty uP zB hH hn=>?_⟩
    have hx:=(uM ν a uP).o9
    obtain ⟨oy,cy,L,j7,j8,hC,jF⟩:=hs ν w _ hH (zl ν a zB)
    have hL:L.length=s.m*i.size:=by rw [gi]; exact hC.len
    refine ⟨_,w,ν,?_,⟨ν.le_refl,fun _ _=>rfl,.iY,.inl (Below.refl _ _),fun _=>rfl,(fun b hb=>by cases hb)⟩⟩
    rw [hx,j7]
    have:=qR (P:=P) (w:=w) (ty:=ty) hu im (A:=none) (oy:=oy) (n:=0) (c:=0) (m:=s.m) (cy:=cy) (L:=L) hL jF j8 (by omega) (w2:=w) (fun a ha=>by cases ha) (fun _=>rfl)
    rw [hm] at this ⊢
    simpa using this
   ·rename_i m hm
    obtain ⟨hB,h⟩:=J
    refine ⟨_,_,_,h,(fun i hi=>by cases hi),fun ν a w ty uP zB hH hn=>?_⟩
    have hx:=(uM ν a uP).o9
    obtain ⟨oy,cy,L,j7,j8,hC,jF⟩:=hs ν w _ hH (zl ν a zB)
    have hL:L.length=s.m*i.size:=by rw [gi]; exact hC.len
    have pR:s.jW=true→∀ r,r < s.m→∀ v∈s.get r,cC v=true:=fun h r hr v hv=>xl h r hr ν w hH v hv
    have bA:=Ac (P:=P) (w:=w) (ty:=ty) hu im hz (A:=none) (oy:=oy) (n:=0) (c:=0) (m:=s.m) (cy:=cy) (O:=[]) (L:=L) (by simp) (fun a ha=>by cases ha) (fun _=>⟨rfl,rfl⟩) hL jF j8 (by omega) (by omega) (by rw [mX,hm]; simpa using hB) (by have:=small _ hB; omega)
    have dG:Ext (oh te.size s) te.size (fun _=>[]) 0 s.get s.m s.jW:=by
     cases s with
     | fl m g=>exact ⟨rfl,rfl,by simp [oh,ah.n,Src.m],fun r hr=>by rw [fV (by omega)]; rfl,fun _=>rfl⟩
     | ex L=>exact ⟨rfl,rfl,by simp [oh,ah.n,Src.m],fun r hr=>by rw [fV (by omega)]; rfl,fun h=>by simp [oh,ah.js] at h⟩
    have xk:=hC.mono (Nu.jN (l:=⟨w.heap.size,0,te.size,grownCap w (0+s.m) 0 e⟩) hn)
    have g9:=vt (CR.nil _ te.size (fun _=>[])) xk dG (fun h=>⟨fun r hr=>absurd hr (by omega),pR h⟩) (w:=w) jd (iw:=0) (e:=e)
    have dS:=grownCap_ge w (0+s.m) 0 e
    have cg:ao (ν.add aE ⟨w.heap.size,0,te.size,grownCap w (0+s.m) 0 e⟩) (.slice (some ⟨aE,0,none⟩) (m+1) aJ) (.slice (some ⟨w.heap.size,0,none⟩) (0+s.m) (grownCap w (0+s.m) 0 e)):=by
     have:=ao.slice (ν:=ν.add aE ⟨w.heap.size,0,te.size,grownCap w (0+s.m) 0 e⟩) aE 0 (0+s.m) aJ (grownCap w (0+s.m) 0 e) _ Nu.add_same (.inr rfl) dS (by simp)
     rw [show m+1=0+s.m by omega]
     simpa [Loc.at] using this
    have hq:=mw hn g9 (vo w _ _ _ _) (Nat.le_refl _) cg
    refine ⟨_,_,_,?_,hq.e _⟩
    rw [hx,j7]
    simpa using bA
  ·rename_i id n c
   obtain ⟨b,hb,h⟩:=gl J
   clear J
   split at h
   ·rename_i dg
    rw [Bool.and_eq_true] at dg
    obtain ⟨dg,OM⟩:=dg
    have dg:b.ae=te.size:=Nat.eq_of_beq_eq_true dg
    have OM:n0≤id:=Nat.le_of_ble_eq_true OM
    obtain ⟨⟨dZ,ll⟩,h⟩:=h
    obtain ⟨b',h,ho,dG⟩:=Ad h
    have bm:n0+(id - n0)=id:=by omega
    refine ⟨_,_,_,h,(fun i hi=>by cases hi; rw [bm]; exact ⟨b,hb,(ah.cQ ho).1⟩),fun ν a w ty uP zB hH hn=>?_⟩
    have hx:=uM ν a uP
    obtain ⟨oy,cy,L,j7,j8,hC,jF⟩:=hs ν w _ hH (zl ν a zB)
    have hL:L.length=s.m*i.size:=by rw [gi]; exact hC.len
    have pR:s.jW=true→∀ r,r < s.m→∀ v∈s.get r,cC v=true:=fun h r hr v hv=>xl h r hr ν w hH v hv
    obtain ⟨l,hl,hB⟩:=hH.aH id b hb
    rw [← dg] at hC jd
    have aI:id≠aE:=fun e=>by rw [e,hn] at hl; cases hl
    have hold:(some (id - n0)).bind (fun i=>ν (n0+i))=some l:=by
     show ν (n0+(id - n0))=some l
     rw [bm]; exact hl
    rw [hold]
    have H9:∃ A c',a.eval x=.slice (some A) n c'∧n≤c'∧((A=l.at 0 0∧c'≤l.cap)∨(n=0∧c'=0)):=by
     rcases hx.s6 with ⟨l',c',cl,h1,J,h3,e⟩ | ⟨h1,J,bb,e⟩
     ·rw [hl] at cl; cases cl
      exact ⟨_,c',e,J,.inl ⟨rfl,by omega⟩⟩
     ·exact ⟨bb,0,by rw [e,h1],by omega,.inr ⟨h1,rfl⟩⟩
    obtain ⟨A,c',b9,CP,hA⟩:=H9
    have hO:∃ O,CR ν b.ae b.row n O∧∀ (j:Nat) u,O[j]?=some u→w.cell? (A.add j)=some u:=by
     rcases hA with ⟨rfl,_⟩ | ⟨h0,_⟩
     ·obtain ⟨O,h1,J⟩:=CR.F9 hB (row:=0) (m:=n) (by omega)
      exact ⟨O,h1.congr (fun r hr=>by simp),J⟩
     ·subst h0
      exact ⟨[],CR.nil _ _ _,fun j u hu=>by simp at hu⟩
    obtain ⟨O,hO,qf⟩:=hO
    have si:b.ou=true→∀ r,r < b.n→∀ v∈b.row r,cC v=true:=fun h r hr v hv=>by
     cases b with
     | flat o n e g=>exact hB.plain rfl r hr v hv
     | aL o e rows =>
      have h:rows.all jo=true:=h
      have hr:r < rows.length:=hr
      have hv:v∈rows.getD r []:=hv
      rw [List.getD_eq_getElem?_getD,List.getElem?_eq_getElem hr] at hv
      exact xz (List.all_eq_true.1 h _ (List.getElem_mem hr)) v hv
     | bZ r=>cases h
    have lW:(b.ou && s.jW)=true→(∀ r,r < b.n→∀ v∈b.row r,cC v=true)∧∀ r,r < s.m→∀ v∈s.get r,cC v=true:=fun h=>by
     rw [Bool.and_eq_true] at h; exact ⟨si h.1,pR h.2⟩
    by_cases cJ:n+s.m≤c'
    ·-- in its place
     obtain ⟨cur,tt,jz,aT,aa6⟩:=hB.own (ah.cQ ho).1 (ah.cQ ho).2
     have hle:=Nu.jN (l:=l) hn
     rcases hA with ⟨rfl,fx⟩ | ⟨h0,nM⟩
     ·obtain ⟨h1,J⟩:=hB.extend (P:=P) ho (Nat.le_refl _) hC dG lW (by omega)
      refine ⟨_,w.setCells l.aH (l.base+b.n*l.ae) L,ν.add aE l,?_,⟨hle,fun j hj=>Nu.iD hj,.slice _ _ _ _ _ l Nu.add_same (.inr rfl) cJ (by omega),.inr ⟨l,rfl,⟨cur,tt,jz⟩,fun q hq=>qO _ _ _ _ _ hq,by rw [n3]; exact Nat.le_refl _,(vn _ _ _ _).1,(vn _ _ _ _).2.1,(vn _ _ _ _).2.2⟩,(fun h=>by cases h),fun b2 dx=>by cases dx; exact ⟨l,Nu.add_same,J.mono hle,.inr ⟨l,rfl,rfl⟩⟩⟩⟩
      rw [b9,j7]
      refine qR (P:=P) hu im hL jF j8 cJ (fun A' sj=>?_) (fun h=>by cases h)
      cases sj
      have:(l.at 0 0).add (n*i.size)=l.at b.n 0:=by
       rw [Loc.jt]; unfold Loc.at; congr 1
       rw [hB.ae,gi,dg,dZ]; omega
      rw [this]; exact h1
     ·have j6:s.m=0:=by omega
      have xm:L=[]:=List.eq_nil_of_length_eq_zero (by rw [hL,j6]; simp)
      refine ⟨.slice (some A) (n+s.m) c',w,ν.add aE l,?_,⟨hle,fun j hj=>Nu.iD hj,?_,.inl (Below.refl _ _),(fun h=>by cases h),fun b2 dx=>by
       cases dx
       have uQ:b'.n=b.n:=by rw [dG.num,j6]; rfl
       have aX:∀ r,r < b.n→b'.row r=b.row r:=fun r hr=>by rw [dG.row r (by omega),iN hr]
       refine ⟨l,Nu.add_same,bN.mono hle ⟨by rw [dG.ae]; exact hB.ae,fun r hr=>by rw [uQ] at hr; rw [aX r hr,dG.ae]; exact hB.len r hr,
        fun r hr j v hv=>by rw [uQ] at hr; rw [aX r hr] at hv; exact hB.cell r hr j v hv,
        fun h r hr v hv=>by rw [uQ] at hr; rw [aX r hr] at hv; exact (lW (dG.flat h)).1 r hr v hv,
        fun r hr v hv=>by rw [uQ] at hr; rw [aX r hr] at hv; exact hB.one r hr v hv,
        fun _ _=>⟨cur,tt,jz,aT,by rw [uQ]; exact aa6⟩,(fun r h=>by rw [(ah.cQ dG.own).2] at h; cases h),hB.live⟩,.inr ⟨l,rfl,rfl⟩⟩⟩⟩
      ·rw [b9,j7]
       exact qR (P:=P) hu im hL jF j8 cJ (fun A' sj=>by rw [xm]; rfl) (fun h=>by cases h)
      ·subst nM
       rw [show n+s.m=0 by omega]
       exact .void _ _ _ _ (.inr rfl)
    ·have bA:(Builtin.append_ #[t,t] ty #[a.eval x,a.eval y]).run P w=.ok (.slice (some ⟨w.heap.size,0,none⟩) (n+s.m) (grownCap w (n+s.m) c' e)) (w.drew.alloc (s8 (O++L).toArray z (grownCap w (n+s.m) c' e - (n+s.m)) e)):=by
      rw [b9,j7]
      exact Ac (P:=P) (w:=w) (ty:=ty) hu im hz (by rw [hO.len,gi,dg]) (fun a ha=>by cases ha; exact qf) (fun h=>by cases h) hL jF j8 CP (by omega) (by rw [mX]; exact ll) (small _ ll)
     have kz:=Nu.jN (l:=⟨w.heap.size,0,b.ae,grownCap w (n+s.m) c' e⟩) hn
     have Hk:Ext b' b.ae b.row n s.get s.m (b.ou && s.jW):=by rw [dZ]; exact dG
     have g9:=vt (hO.mono kz) (hC.mono kz) Hk (fun h=>⟨fun r hr v hv=>(lW h).1 r (by omega) v hv,(lW h).2⟩) (w:=w) jd (iw:=c') (e:=e)
     have dS:=grownCap_ge w (n+s.m) c' e
     have cg:ao (ν.add aE ⟨w.heap.size,0,b.ae,grownCap w (n+s.m) c' e⟩) (.slice (some ⟨aE,0,none⟩) (n+s.m) aJ) (.slice (some ⟨w.heap.size,0,none⟩) (n+s.m) (grownCap w (n+s.m) c' e)):=by
      have:=ao.slice (ν:=ν.add aE ⟨w.heap.size,0,b.ae,grownCap w (n+s.m) c' e⟩) aE 0 (n+s.m) aJ (grownCap w (n+s.m) c' e) _ Nu.add_same (.inr rfl) dS (by simp)
      simpa [Loc.at] using this
     have hq:=mw hn g9 (vo w _ _ _ _) (Nat.le_refl _) cg
     exact ⟨_,_,_,bA,hq.e _⟩
   ·exact h.elim
  ·exact J.elim
 ·exact J.elim
end
end Go.Ae
