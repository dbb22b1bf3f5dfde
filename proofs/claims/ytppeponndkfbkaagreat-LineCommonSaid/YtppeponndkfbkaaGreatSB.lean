import Derived.RangeFuncLeaves
import Derived.RangeFuncRecord
import Derived.KernelRfl
import Derived.Test.YtppeponndkfbkaaGreatSA
set_option linter.unusedVariables false
set_option linter.unusedSimpArgs false
/- 'append' upon the abstract heap: its soundness. -/
namespace Go.Ae
open Go Go.RowKit
def newBlk (esz:Nat):Src→Blk
 | .fl m g=>.flat true m esz g
 | .ex L=>.expl true esz L
/-- Whether a block's cells hold no addresses. -/
def Blk.scalB:Blk→Bool
 | .flat _ _ _ _=>true
 | .expl _ _ rows=>rows.all allScal
 | .lrec _=>false
def extendK (b:Blk) (s:Src) (k:Blk→Prop):Prop :=
 match b,s with
 | .flat true n esz get,.fl m news=>k (.flat true (n+m) esz (appGet get n news))
 | .expl true esz rows,.ex L=>appR rows L fun l=>k (.expl true esz l)
 | .expl true esz rows,.fl m news=>match Nat.ble 2 esz && rows.all allScal with
  | true=>k (.flat true (rows.length+m) esz (appGet (fun j=>rows.getD j []) rows.length news))
  | false=>listR news 0 m fun L=>appR rows L fun l=>k (.expl true esz l)
 | _,_=>False
def copyK (b:Blk) (row n:Nat) (s:Src) (k:Blk→Prop):Prop :=
 match b,s with
 | .flat _ _ esz get,.fl m news=>k (.flat true (n+m) esz (appGet (fun j=>get (rowAdd row j)) n news))
 | .expl _ esz rows,.ex L=>takeR rows row n fun L0=>appR L0 L fun l=>k (.expl true esz l)
 | .expl _ esz rows,.fl m news=>match Nat.ble 2 esz && rows.all allScal with
  | true=>k (.flat true (n+m) esz (appGet (fun j=>rows.getD (rowAdd row j) []) n news))
  | false=>takeR rows row n fun L0=>listR news 0 m fun L=>appR L0 L fun l=>k (.expl true esz l)
 | _,_=>False
/-- Rows g and then h. -/
structure Ext (b':Blk) (esz:Nat) (g:Nat→List Value) (n:Nat) (h:Nat→List Value) (m:Nat) (fl:Bool):Prop where
 own:b'.ownC=true
 esz:b'.esz=esz
 num:b'.n=n+m
 row:∀ r,r < n+m→b'.row r=appGet g n h r
 flat:b'.isFlat=true→fl=true
theorem getD_append_lo {l m:List (List Value)} {r:Nat} (h:r < l.length):(l++m).getD r []=l.getD r []:=by
 simp [List.getD,List.getElem?_append_left h]
theorem getD_append_hi {l m:List (List Value)} {r:Nat} (h:l.length≤r):(l++m).getD r []=m.getD (r - l.length) []:=by
 simp [List.getD,List.getElem?_append_right h]
theorem ext_expl {esz:Nat} {L0 L:List (List Value)} {g h:Nat→List Value} {n m:Nat} (h0:L0.length=n) (h1:L.length=m) (hg:∀ r,r < n→L0.getD r []=g r) (hh:∀ r,r < m→L.getD r []=h r) (fl:Bool) :
  Ext (.expl true esz (L0++L)) esz g n h m fl:=by
 refine ⟨rfl,rfl,by simp [Blk.n,h0,h1],fun r hr=>?_,fun h=>by simp [Blk.isFlat] at h⟩
 show (L0++L).getD r []=_
 by_cases hlt:r < n
 ·rw [getD_append_lo (by omega),appGet_lo hlt,hg r hlt]
 ·rw [getD_append_hi (by omega),appGet_hi (by omega),h0,hh _ (by omega)]
theorem extendK_spec {b:Blk} {s:Src} {k:Blk→Prop} (h:extendK b s k):∃ b',k b'∧b.ownC=true∧Ext b' b.esz b.row b.n s.get s.m (b.scalB && s.isFl):=by
 cases b with
 | flat o n e g =>
  cases o with
  | false=>cases s <;> exact h.elim
  | true =>
   cases s with
   | fl m news=>exact ⟨_,h,rfl,rfl,rfl,rfl,fun r _=>rfl,fun _=>rfl⟩
   | ex L=>exact h.elim
 | expl o e rows =>
  cases o with
  | false=>cases s <;> exact h.elim
  | true =>
   cases s with
   | fl m news =>
    have h:match Nat.ble 2 e && rows.all allScal with
     | true=>k (.flat true (rows.length+m) e (appGet (fun j=>rows.getD j []) rows.length news))
     | false=>listR news 0 m fun L=>appR rows L fun l=>k (.expl true e l):=h
    split at h
    ·rename_i hs
     rw [Bool.and_eq_true] at hs
     exact ⟨_,h,rfl,rfl,rfl,rfl,fun r _=>rfl,fun _=>by show (rows.all allScal && true)=true; rw [hs.2]; rfl⟩
    obtain ⟨L,h,h1,h2⟩:=listR_spec h
    have h:=appR_spec h
    exact ⟨_,h,rfl,ext_expl rfl h1 (fun _ _=>rfl) (fun r hr=>by rw [h2 r hr]; simp [Src.get]) _⟩
   | ex L =>
    have h:=appR_spec h
    exact ⟨_,h,rfl,ext_expl rfl rfl (fun _ _=>rfl) (fun r hr=>rfl) _⟩
 | lrec r=>cases s <;> exact h.elim
theorem copyK_spec {b:Blk} {row n:Nat} {s:Src} {k:Blk→Prop} (h:copyK b row n s k):∃ b',k b'∧Ext b' b.esz (fun j=>b.row (row+j)) n s.get s.m (b.scalB && s.isFl):=by
 cases b with
 | flat o N e g =>
  cases s with
  | fl m news=>exact ⟨_,h,rfl,rfl,rfl,fun r hr=>by simp [Blk.row,rowAdd_eq,Src.get,Src.m],fun _=>rfl⟩
  | ex L=>exact h.elim
 | expl o e rows =>
  have hrow:∀ (L0:List (List Value)),(L0.length=n∧row+n≤rows.length)→(∀ (j:Nat) v,L0[j]?=some v→rows[row+j]?=some v)→∀ r,r < n→L0.getD r []=(Blk.expl o e rows).row (row+r):=by
   intro L0 h0 h1 r hr
   have hlt:r < L0.length:=by omega
   have:=h1 r _ (List.getElem?_eq_getElem hlt)
   simp [Blk.row,List.getD,this,List.getElem?_eq_getElem hlt]
  cases s with
  | fl m news =>
   have h:match Nat.ble 2 e && rows.all allScal with
    | true=>k (.flat true (n+m) e (appGet (fun j=>rows.getD (rowAdd row j) []) n news))
    | false=>takeR rows row n fun L0=>listR news 0 m fun L=>appR L0 L fun l=>k (.expl true e l):=h
   split at h
   ·rename_i hs
    rw [Bool.and_eq_true] at hs
    exact ⟨_,h,rfl,rfl,rfl,fun r hr=>by simp [Blk.row,rowAdd_eq,Src.get,Src.m],fun _=>by show (rows.all allScal && true)=true; rw [hs.2]; rfl⟩
   obtain ⟨L0,h,h0,h3⟩:=takeR_spec h
   obtain ⟨L,h,h1,h2⟩:=listR_spec h
   have h:=appR_spec h
   exact ⟨_,h,ext_expl h0.1 h1 (hrow L0 h0 h3) (fun r hr=>by rw [h2 r hr]; simp [Src.get]) _⟩
  | ex L =>
   obtain ⟨L0,h,h0,h3⟩:=takeR_spec h
   have h:=appR_spec h
   exact ⟨_,h,ext_expl h0.1 rfl (hrow L0 h0 h3) (fun r hr=>rfl) _⟩
 | lrec r=>cases s <;> exact h.elim
/-- Rows g, of which m from q on are put anew. -/
def overGet (g:Nat→List Value) (q:Nat) (h:Nat→List Value) (m:Nat):Nat→List Value:=fun j=>bif Nat.blt j q then g j else bif Nat.blt j (q+m) then h (j - q) else g j
theorem blt_f {a b:Nat} (h:b≤a):Nat.blt a b=false:=by
 cases e:Nat.blt a b with
 | false=>rfl
 | true=>rw [Nat.blt_eq] at e; omega
theorem overGet_lo {g h:Nat→List Value} {q m j:Nat} (hj:j < q):overGet g q h m j=g j:=by
 have:Nat.blt j q=true:=by rw [Nat.blt_eq]; exact hj
 simp [overGet,this]
theorem overGet_in {g h:Nat→List Value} {q m j:Nat} (h1:q≤j) (h2:j < q+m):overGet g q h m j=h (j - q):=by
 have:Nat.blt j (q+m)=true:=by rw [Nat.blt_eq]; exact h2
 simp [overGet,this,blt_f h1]
theorem overGet_hi {g h:Nat→List Value} {q m j:Nat} (hj:q+m≤j):overGet g q h m j=g j:=by
 simp [overGet,blt_f hj,blt_f (show q≤j by omega)]
def appendV (E:Env) (tmps:List Value) (H:Heap) (t:TypeId) (xv yv:Value) (k:Value→List Value→Heap→Prop):Prop :=
 tyK E.tt t fun ti=>match ti.kind with
  | .slice e=>tyK E.tt e fun te=>srcK H te.size yv fun s=>match xv with
   | .slice none 0 0=>match s.m with
    | 0=>k (.slice none 0 0) tmps H
    | m+1=>((m+1)*te.bytes≤140737488355328)∧lenK H fun nid=>pushB H (some (newBlk te.size s)) fun H'=>k (.slice (some ⟨nid,0,none⟩) (m+1) capU) tmps H'
   | .slice (some ⟨id,row,none⟩) n c=>blkK H id fun b=>match Nat.beq b.esz te.size with
    | true=>match decide (c=capU) with
     | false=>br (Nat.ble (n+s.m) c)
      (row+n=b.n∧extendK b s fun b'=>setB H id (some b') fun H'=>k (.slice (some ⟨id,row,none⟩) (n+s.m) c) tmps H')
      ((row+n≤b.n∧(n+s.m)*te.bytes≤140737488355328)∧copyK b row n s fun b'=>lenK H fun nid=>pushB H (some b') fun H'=>k (.slice (some ⟨nid,0,none⟩) (n+s.m) capU) tmps H')
     | true=>match E.over with
      | true=>match row with
       | 0=>(E.base≤id∧(n≤b.n∧b.ownC=true)∧(n+s.m)*te.bytes≤140737488355328)∧copyK b 0 n s fun b1=>killB id b1 fun b'=>∃ keep,∀ a:Nat→Value,killT a id keep 0 tmps fun tmps'=>killH id H fun H1=>setB H1 id (some b') fun H'=>k (.slice (some ⟨id,0,none⟩) (n+s.m) capU) tmps' H'
       | _=>False
      | false=>match Nat.ble E.base id with
       | true=>match row with
        | 0=>(E.base≤id∧n=b.n∧(n+s.m)*te.bytes≤140737488355328)∧extendK b s fun b1=>killB id b1 fun b'=>∃ keep,∀ a:Nat→Value,killT a id keep 0 tmps fun tmps'=>killH id H fun H1=>setB H1 id (some b') fun H'=>k (.slice (some ⟨id,0,none⟩) (n+s.m) capU) tmps' H'
        | _=>False
       | false=>match row with
        | 0=>(n=b.n∧(n+s.m)*te.bytes≤140737488355328)∧extendK b s fun b'=>setB H id none fun H1=>lenK H1 fun nid=>pushB H1 (some b') fun H'=>k (.slice (some ⟨nid,0,none⟩) (n+s.m) capU) tmps H'
        | _=>False
    | false=>False
   | .slice (some ⟨id,row,some b0⟩) n c=>blkK H id fun b=>match Nat.beq b.esz te.size with
    | true=>match b,s with
     | .flat true N esz get,.fl m news=>(n+m≤b0∧row+(n+m)≤N)∧setB H id (some (.flat true N esz (overGet get (rowAdd row n) news m))) fun H'=>k (.slice (some ⟨id,row,some b0⟩) (n+m) c) tmps H'
     | _,_=>False
    | false=>False
   | _=>False
  | _=>False
/-- The builtin 'clear'. -/
def clearK (E:Env) (tmps:List Value) (H:Heap) (t:TypeId) (x:Operand) (k:Heap→Prop):Prop :=
 evalK tmps x fun xv=>tyK E.tt t fun ti=>match ti.kind with
  | .slice e=>tyK E.tt e fun te=>match xv with
   | .slice (some ⟨id,row,_⟩) n _=>blkK H id fun b=>match Nat.beq b.esz te.size with
    | true=>match b with
     | .flat true N esz get=>(row+n≤N∧allS te.zero=true)∧setB H id (some (.flat true N esz (overGet get row (fun _=>te.zero) n))) k
     | _=>False
    | false=>False
   | _=>False
  | _=>False
/-- The builtin 'copy'. -/
def copyInK (E:Env) (H:Heap) (t:TypeId) (xv yv:Value) (k:Value→Heap→Prop):Prop :=
 tyK E.tt t fun ti=>match ti.kind with
  | .slice e=>tyK E.tt e fun te=>srcK H te.size yv fun s=>match s,xv with
   | .fl m news,.slice (some ⟨id,row,_⟩) n _=>blkK H id fun b=>match Nat.beq b.esz te.size with
    | true=>match b with
     | .flat true N esz get=>row+n≤N∧setB H id (some (.flat true N esz (overGet get row news (Nat.min m n)))) fun H'=>k (.int .i64 (Nat.min m n)) H'
     | _=>False
    | false=>False
   | _,_=>False
  | _=>False
def appendK (E:Env) (tmps:List Value) (H:Heap) (t:TypeId) (x y:Operand) (k:Value→List Value→Heap→Prop):Prop :=
 evalK tmps x fun xv=>evalK tmps y fun yv=>appendV E tmps H t xv yv k
/-- A slice whose capacity is known. -/
def exactCap:Value→Bool
 | .slice (some _) _ c=>!decide (c=capU)
 | _=>true
section
variable {P:Program} {E:Env} {F:Fr}
theorem zeroCells_size (z:Array Value) (n:Nat):(Builtin.zeroCells z n).size=n*z.size:=by simp [Builtin.zeroCells]
/-- The cells behind a grown slice. -/
theorem grown_cells {O L:List Value} {z:Value} {k q:Nat} (hq:q < (O++L).length):((O++L).toArray++Builtin.zeroCells z.cells k)[q]?=(O++L)[q]?:=by
 rw [Array.getElem?_append_left (by simpa using hq)]
 simp
/-- A block appended to where it stands. -/
theorem BRel.extend {ν:Nu} {l:Loc} {b b':Blk} {w:World} (hB:BRel ν l b w) (ho:b.ownC=true) {n m:Nat} (hnb:n≤b.n) {news:Nat→List Value} {L:List Value} {fl:Bool}
  (hC:CR ν b.esz news m L) (hx:Ext b' b.esz b.row n news m fl) (hfl:fl=true→(∀ r,r < b.n→∀ v∈b.row r,scal v=true)∧∀ r,r < m→∀ v∈news r,scal v=true) (hcap:n+m≤l.cap) :
  (storeCells (l.at n 0) L).run P w=.ok () (w.setCells l.blk (l.base+n*l.esz) L)∧BRel ν l b' (w.setCells l.blk (l.base+n*l.esz) L):=by
 obtain ⟨cur,t,hcur,hsz,_⟩:=hB.own (Blk.ownC_spec ho).1 (Blk.ownC_spec ho).2
 have he:=hB.esz
 have hfit:l.base+n*l.esz+L.length≤cur.size:=by
  rw [hC.len,he]
  have:(n+m)*b.esz≤l.cap*b.esz:=Nat.mul_le_mul_right _ hcap
  rw [Nat.add_mul] at this
  rw [he] at hsz
  omega
 have hsome:∀ j,j < L.length→(w.cell? ⟨l.blk,l.base+n*l.esz+j,none⟩).isSome=true:=by
  intro j hj
  simp only [World.cell?]
  rw [hcur]
  simp
  omega
 refine ⟨?_,?_⟩
 ·have:=run_storeCells_cells (P:=P) l.blk (l.base+n*l.esz) L 0 w (by simpa using hsome) (fun j hj=>by simp [World.frozen?,hcur]) hC.one
  simpa [Loc.at] using this
 ·obtain ⟨cur',h2,h3⟩:=setCells_same l.blk L (l.base+n*l.esz) w cur t hcur
  refine ⟨by rw [hx.esz]; exact he,fun r hr=>?_,fun r hr j v hv=>?_,fun h r hr v hv=>?_,fun r hr v hv=>?_,fun _ _=>⟨cur',t,h2,by rw [h3]; exact hsz,by rw [hx.num]; exact hcap⟩,(fun r h=>by rw [(Blk.ownC_spec hx.own).2] at h; cases h),by rw [setCells_size]; exact hB.live⟩
  ·rw [hx.num] at hr
   rw [hx.row r hr,hx.esz]
   by_cases h:r < n
   ·rw [appGet_lo h]; exact hB.len r (by omega)
   ·rw [appGet_hi (by omega)]; exact hC.row _ (by omega)
  ·rw [hx.num] at hr
   rw [hx.row r hr] at hv
   by_cases h:r < n
   ·rw [appGet_lo h] at hv
    obtain ⟨v',h4,h5⟩:=hB.cell r (by omega) j v hv
    have hj:j < b.esz:=by rw [← hB.len r (by omega)]; exact (List.getElem?_eq_some_iff.1 hv).1
    refine ⟨v',?_,h5⟩
    rw [World.cell?_setCells_out l.blk _ _ _ _ (fun _ _=>?_)]
    ·exact h4
    ·left
     simp only [Loc.at,he]
     have:(r+1)*b.esz≤n*b.esz:=Nat.mul_le_mul_right _ h
     rw [Nat.add_mul] at this; omega
   ·rw [appGet_hi (by omega)] at hv
    obtain ⟨v',h4,h5⟩:=hC.cell (r - n) (by omega) j v hv
    have hlt:=(List.getElem?_eq_some_iff.1 h4).1
    refine ⟨v',?_,h5⟩
    have:=World.cell?_setCells_in l.blk L (l.base+n*l.esz) w hsome _ hlt
    have e:l.at r j=⟨l.blk,l.base+n*l.esz+((r - n)*b.esz+j),none⟩:=by
     unfold Loc.at
     congr 1
     rw [he]
     have:r*b.esz=n*b.esz+(r - n)*b.esz:=by rw [← Nat.add_mul]; congr 1; omega
     omega
    rw [e,this,← h4,List.getElem?_eq_getElem hlt]
  ·rw [hx.num] at hr
   rw [hx.row r hr] at hv
   obtain ⟨h6,h7⟩:=hfl (hx.flat h)
   by_cases h:r < n
   ·rw [appGet_lo h] at hv; exact h6 r (by omega) v hv
   ·rw [appGet_hi (by omega)] at hv; exact h7 _ (by omega) v hv
  ·rw [hx.num] at hr
   rw [hx.row r hr] at hv
   by_cases h:r < n
   ·rw [appGet_lo h] at hv; exact hB.one r (by omega) v hv
   ·rw [appGet_hi (by omega)] at hv; exact hC.one' _ (by omega) v hv
theorem Kept.setCells {O:Nat→Prop} {W w:World} (h:Kept O W w) {b:Nat} (hb:O b∨W.heap.size≤b) (o:Nat) (L:List Value):Kept O W (w.setCells b o L):=by
 obtain ⟨o1,o2,o3⟩:=setCells_os b L o w
 refine ⟨o1.trans h.os,o2.trans h.tape,o3.trans h.output,by rw [setCells_size]; exact h.size,fun q h1 h2=>?_⟩
 rw [setCells_other]
 ·exact h.blk q h1 h2
 ·intro e
  subst e
  rcases hb with h' | h'
  ·exact h2 h'
  ·omega
/-- A grown block. -/
theorem brel_grown {ν:Nu} {esz n m:Nat} {g h:Nat→List Value} {O L:List Value} {b':Blk} {fl:Bool} (hO:CR ν esz g n O) (hC:CR ν esz h m L) (hx:Ext b' esz g n h m fl)
  (hfl:fl=true→(∀ r,r < n→∀ v∈g r,scal v=true)∧∀ r,r < m→∀ v∈h r,scal v=true) {w:World} {z:Value} (hz:z.cells.size=esz) {old:Nat} {e:TypeId} :
  BRel ν ⟨w.heap.size,0,esz,grownCap w (n+m) old e⟩ b' (w.drew.alloc (grownObj (O++L).toArray z (grownCap w (n+m) old e - (n+m)) e)):=by
 have hge:=grownCap_ge w (n+m) old e
 have hLL:=hO.append hC
 refine brel_cr hLL hx.row hx.num hx.esz (fun hf r hr v hv=>?_) (C:=(O++L).toArray++Builtin.zeroCells z.cells (grownCap w (n+m) old e - (n+m))) (t:=e) ?_ (fun q hq=>grown_cells hq) hge ?_ (Blk.ownC_spec hx.own).2
 ·obtain ⟨h1,h2⟩:=hfl (hx.flat hf)
  by_cases h:r < n
  ·rw [appGet_lo h] at hv; exact h1 r h v hv
  ·rw [appGet_hi (by omega)] at hv; exact h2 _ (by omega) v hv
 ·show (w.heap.push _)[w.heap.size]?=_
  simp [grownObj]
 ·rw [Array.size_append,zeroCells_size,hz]
  simp only [List.size_toArray]
  rw [hLL.len,← Nat.add_mul]
  apply Nat.le_of_eq
  congr 1
  omega
theorem below_grown (w:World) (C:Array Value) (z:Value) (k:Nat) (e:TypeId):Below w.heap.size w (w.drew.alloc (grownObj C z k e)):=((Below.refl _ w).drew).alloc (Nat.le_refl _) _
/-- Rows of a block put anew. -/
theorem BRel.over {ν:Nu} {l:Loc} {N esz:Nat} {get:Nat→List Value} {w:World} (hB:BRel ν l (.flat true N esz get) w) {q m:Nat} (hq:q+m≤N) {news:Nat→List Value} {L:List Value}
  (hC:CR ν esz news m L) (hs:∀ r,r < m→∀ v∈news r,scal v=true) :
  (storeCells (l.at q 0) L).run P w=.ok () (w.setCells l.blk (l.base+q*l.esz) L)∧BRel ν l (.flat true N esz (overGet get q news m)) (w.setCells l.blk (l.base+q*l.esz) L):=by
 obtain ⟨cur,t,hcur,hsz,hcap⟩:=hB.own rfl rfl
 have hcap:N≤l.cap:=hcap
 have he:l.esz=esz:=hB.esz
 have hfit:l.base+q*l.esz+L.length≤cur.size:=by
  rw [hC.len,he]
  have:(q+m)*esz≤l.cap*esz:=Nat.mul_le_mul_right _ (by omega)
  rw [Nat.add_mul] at this
  rw [he] at hsz
  omega
 have hsome:∀ j,j < L.length→(w.cell? ⟨l.blk,l.base+q*l.esz+j,none⟩).isSome=true:=by
  intro j hj
  simp only [World.cell?]
  rw [hcur]
  simp
  omega
 refine ⟨?_,?_⟩
 ·have:=run_storeCells_cells (P:=P) l.blk (l.base+q*l.esz) L 0 w (by simpa using hsome) (fun j hj=>by simp [World.frozen?,hcur]) hC.one
  simpa [Loc.at] using this
 ·obtain ⟨cur',h2,h3⟩:=setCells_same l.blk L (l.base+q*l.esz) w cur t hcur
  have rows:∀ r,r < N→(overGet get q news m r=get r∧(r < q∨q+m≤r))∨(overGet get q news m r=news (r - q)∧q≤r∧r < q+m):=fun r _=>by
   by_cases h:r < q
   ·exact .inl ⟨overGet_lo h,.inl h⟩
   ·by_cases h':r < q+m
    ·exact .inr ⟨overGet_in (by omega) h',by omega,h'⟩
    ·exact .inl ⟨overGet_hi (by omega),.inr (by omega)⟩
  refine ⟨he,fun r hr=>?_,fun r hr j v hv=>?_,fun _ r hr v hv=>?_,fun r hr v hv=>?_,fun _ _=>⟨cur',t,h2,by rw [h3]; exact hsz,hcap⟩,(fun r h=>by cases h),by rw [setCells_size]; exact hB.live⟩
  ·have hr:r < N:=hr
   show (overGet get q news m r).length=esz
   rcases rows r hr with ⟨e,_⟩ | ⟨e,h1,h2⟩
   ·rw [e]; exact hB.len r hr
   ·rw [e]; exact hC.row _ (by omega)
  ·have hr:r < N:=hr
   have hv:(overGet get q news m r)[j]?=some v:=hv
   rcases rows r hr with ⟨e,h1⟩ | ⟨e,h1,h2⟩
   ·rw [e] at hv
    obtain ⟨v',h4,h5⟩:=hB.cell r hr j v hv
    have hj:j < esz:=by have e':(get r).length=esz:=hB.len r hr; rw [← e']; exact (List.getElem?_eq_some_iff.1 hv).1
    refine ⟨v',?_,h5⟩
    rw [World.cell?_setCells_out l.blk _ _ _ _ (fun _ _=>?_)]
    ·exact h4
    ·rcases h1 with h | h
     ·left
      simp only [Loc.at,he]
      have:(r+1)*esz≤q*esz:=Nat.mul_le_mul_right _ h
      rw [Nat.add_mul] at this; omega
     ·right
      simp only [Loc.at,he,hC.len]
      have:(q+m)*esz≤r*esz:=Nat.mul_le_mul_right _ h
      rw [Nat.add_mul] at this; omega
   ·rw [e] at hv
    obtain ⟨v',h4,h5⟩:=hC.cell (r - q) (by omega) j v hv
    have hlt:=(List.getElem?_eq_some_iff.1 h4).1
    refine ⟨v',?_,h5⟩
    have:=World.cell?_setCells_in l.blk L (l.base+q*l.esz) w hsome _ hlt
    have e:l.at r j=⟨l.blk,l.base+q*l.esz+((r - q)*esz+j),none⟩:=by
     unfold Loc.at
     congr 1
     rw [he]
     have:r*esz=q*esz+(r - q)*esz:=by rw [← Nat.add_mul]; congr 1; omega
     omega
    rw [e,this,← h4,List.getElem?_eq_getElem hlt]
  ·have hr:r < N:=hr
   have hv:v∈overGet get q news m r:=hv
   rcases rows r hr with ⟨e,_⟩ | ⟨e,h1,h2⟩
   ·rw [e] at hv; exact hB.plain rfl r hr v hv
   ·rw [e] at hv; exact hs _ (by omega) v hv
  ·have hr:r < N:=hr
   have hv:v∈overGet get q news m r:=hv
   rcases rows r hr with ⟨e,_⟩ | ⟨e,h1,h2⟩
   ·rw [e] at hv; exact hB.one r hr v hv
   ·rw [e] at hv; exact hC.one' _ (by omega) v hv
theorem SInv.over {ν:Nu} {tmps:List Value} {H:Heap} {a:Act} {w:World} (hi:SInv F ν tmps H a w) {id N esz:Nat} {get:Nat→List Value} (hb:H[id]?=some (some (.flat true N esz get))) {l:Loc} (hl:ν id=some l)
  {q m:Nat} (hq:q+m≤N) {news:Nat→List Value} {L:List Value} (hC:CR ν esz news m L) (hs:∀ r,r < m→∀ v∈news r,scal v=true) :
  (storeCells (l.at q 0) L).run P w=.ok () (w.setCells l.blk (l.base+q*l.esz) L)∧SInv F ν tmps (H.set id (some (.flat true N esz (overGet get q news m)))) a (w.setCells l.blk (l.base+q*l.esz) L):=by
 obtain ⟨l0,hl0,hB⟩:=hi.hp.blk id _ hb
 rw [hl] at hl0; cases hl0
 obtain ⟨h1,hB2⟩:=hB.over (P:=P) hq hC hs
 have hlt:id < H.length:=(List.getElem?_eq_some_iff.1 hb).1
 have hoth:∀ q',q'≠l.blk→(w.setCells l.blk (l.base+q*l.esz) L).heap[q']?=w.heap[q']?:=fun q' hq'=>setCells_other _ _ _ _ _ hq'
 have hs2:w.heap.size≤(w.setCells l.blk (l.base+q*l.esz) L).heap.size:=by rw [setCells_size]; exact Nat.le_refl _
 refine ⟨h1,hi.tm,(let ⟨_,_,hcur0,_⟩:=hB.own rfl rfl; hi.df.turn hcur0 hoth),?_,fun j hj=>hi.fr j (by simpa using hj),hi.kp.setCells (hi.own id _ l hb rfl hl) _ _,fun j bj lj hj hjo hlj=>?_,hi.mono⟩
 ·refine hi.hp.turn (id:=id) (fun _ _=>rfl) (fun j bj hj hne=>?_) (fun bj hj=>?_)
  ·rw [List.getElem?_set_ne (Ne.symm hne)] at hj
   refine ⟨bj,hj,rfl,fun lj hlj hBj=>hBj.same (hoth _ ?_) hs2⟩
   exact Ne.symm (hi.hp.sep id j _ bj l lj hb hj (Ne.symm hne) rfl hl hlj)
  ·rw [List.getElem?_set_self hlt] at hj
   cases hj
   exact ⟨l,hl,hB2,fun j lj bj hne hj hlj=>Ne.symm (hi.hp.sep id j _ bj l lj hb hj (Ne.symm hne) rfl hl hlj)⟩
 ·by_cases e':j=id
  ·subst e'; rw [hl] at hlj; cases hlj; exact hi.own j _ l hb rfl hl
  ·rw [List.getElem?_set_ne (Ne.symm e')] at hj; exact hi.own j bj lj hj hjo hlj
/-- Zero rows. -/
theorem CR.zeros {ν:Nu} {z:Value} {zs:List Value} (hz:z.cells=⟨zs⟩) (hself:LRel ν zs zs) (hone:∀ v∈zs,v.oneCell'=true) (h0:0 < zs.length) (n:Nat):CR ν zs.length (fun _=>zs) n (Builtin.zeroCells z.cells n).toList:=by
 have hsz:z.cells.size=zs.length:=by rw [hz]; rfl
 have hget:∀ j,j < n*zs.length→(Builtin.zeroCells z.cells n)[j]?=zs[j % zs.length]?:=fun j hj=>by
  rw [zeroCells_get _ _ _ (by rw [hsz]; exact hj) (by rw [hsz]; exact h0),hsz,hz]; simp
 refine ⟨by simp [zeroCells_size,hsz],fun _ _=>rfl,fun r hr j v hv=>?_,fun u hu=>?_,fun _ _ v hv=>hone v hv⟩
 ·have hj:=(List.getElem?_eq_some_iff.1 hv).1
  have hlt:r*zs.length+j < n*zs.length:=by
   have:(r+1)*zs.length≤n*zs.length:=Nat.mul_le_mul_right _ hr
   rw [Nat.add_mul] at this; omega
  refine ⟨v,?_,hself.2 j v v hv hv⟩
  rw [Array.getElem?_toList,hget _ hlt,Nat.mul_comm,Nat.mul_add_mod,Nat.mod_eq_of_lt hj]; exact hv
 ·obtain ⟨j,hj,rfl⟩:=List.getElem_of_mem hu
  have hj':j < n*zs.length:=by simpa [zeroCells_size,hsz] using hj
  have h1:=hget j hj'
  rw [← Array.getElem?_toList,List.getElem?_eq_getElem hj] at h1
  exact hone _ (List.mem_of_getElem? h1.symm)
theorem clear_sound (hE:EnvOk P E) {ν:Nu} {tmps:List Value} {H:Heap} {a:Act} {w:World} (hi:SInv F ν tmps H a w) {t:TypeId} {x:Operand} {k:Heap→Prop}
  (h:clearK E tmps H t x k) (ty:TypeId):∃ H' w',k H'∧SInv F ν tmps H' a w'∧(Builtin.clear_ #[t] ty #[a.eval x]).run P w=.ok (.tuple #[]) w':=by
 obtain ⟨xv,h2,hx⟩:=evalK_spec h (hi.opRel x)
 clear h
 obtain ⟨ti,ht,h⟩:=tyK_spec h2
 clear h2
 obtain ⟨d,hu,hd⟩:=(hE.ty _ _ ht).under
 split at h
 ·rename_i e hk
  rw [hk] at hd
  have hd:d=.slice e:=hd
  subst hd
  obtain ⟨te,he,h2⟩:=tyK_spec h
  clear h
  have hok:=hE.ty _ _ he
  split at h2
  ·rename_i id row sp n c
   obtain ⟨b,hb,h⟩:=blkK_spec h2
   clear h2
   split at h
   ·rename_i hbe
    have hbe:b.esz=te.size:=Nat.eq_of_beq_eq_true hbe
    split at h
    ·rename_i N esz get _
     have hbe:esz=te.size:=hbe
     obtain ⟨⟨hN,hall⟩,h⟩:=h
     obtain ⟨hlt,h⟩:=setB_spec h
     obtain ⟨l,hl,hB⟩:=hi.hp.blk id _ hb
     obtain ⟨i,hinf,his,hib,z,hz,hzc⟩:=hok.info
     have hcr:=CR.zeros (ν:=ν) hzc (hok.self ν) hok.one (by rw [hok.len]; exact hok.bit.1) n
     rw [hok.len,← hbe] at hcr
     have hsc:∀ r,r < n→∀ v∈te.zero,scal v=true:=fun _ _ v hv=>allS_spec hall v hv
     have hcase:n=0∨(0 < n∧∃ c',a.eval x=.slice (some (l.at row 0)) n c'):=by
      rcases hx.to_any with ⟨l',c',hl',_,_,e⟩ | ⟨h0,_⟩
      ·rw [hl] at hl'; cases hl'
       rcases Nat.eq_zero_or_pos n with h | h
       ·exact .inl h
       ·exact .inr ⟨h,c',e⟩
      ·exact .inl h0
     rcases hcase with h0 | ⟨hpos,c',hxe⟩
     ·subst h0
      have:=(hi.over (P:=P) hb hl (q:=row) (m:=0) hN (CR.nil _ _ (fun _=>te.zero)) (fun r hr=>absurd hr (by omega))).2
      refine ⟨_,w,h,this,?_⟩
      have:∃ o,a.eval x=.slice o 0 0∨∃ c',a.eval x=.slice o 0 c':=by
       rcases hx.to_any with ⟨l',c',_,_,_,e⟩ | ⟨_,bb,e⟩
       ·exact ⟨_,.inr ⟨_,e⟩⟩
       ·exact ⟨_,.inl e⟩
      obtain ⟨o,e | ⟨c',e⟩⟩:=this <;> rw [e] <;> cases o <;> simp [Builtin.clear_,run_underlying' hu]
     ·obtain ⟨h1,h2⟩:=hi.over (P:=P) hb hl (q:=row) hN hcr hsc
      refine ⟨_,_,h,h2,?_⟩
      obtain ⟨m,rfl⟩:∃ m,n=m+1:=⟨n - 1,by omega⟩
      rw [hxe]
      simp [Builtin.clear_,run_underlying' hu,run_zeroValue' hinf hz,h1]
    ·exact h.elim
   ·exact h.elim
  ·exact h2.elim
 ·exact h.elim
theorem CR.pre {ν:Nu} {esz m q:Nat} {g:Nat→List Value} {L:List Value} (h:CR ν esz g m L) (hq:q≤m):CR ν esz g q (L.take (q*esz)):=by
 have hle:q*esz≤m*esz:=Nat.mul_le_mul_right _ hq
 refine ⟨by rw [List.length_take,h.len]; omega,fun r hr=>h.row r (by omega),fun r hr j v hv=>?_,fun u hu=>h.one u (List.mem_of_mem_take hu),fun r hr=>h.one' r (by omega)⟩
 obtain ⟨v',h1,h2⟩:=h.cell r (by omega) j v hv
 have hj:j < esz:=by rw [← h.row r (by omega)]; exact (List.getElem?_eq_some_iff.1 hv).1
 have:(r+1)*esz≤q*esz:=Nat.mul_le_mul_right _ hr
 rw [Nat.add_mul] at this
 exact ⟨v',by rw [List.getElem?_take_of_lt (by omega)]; exact h1,h2⟩
theorem copy_sound (hE:EnvOk P E) {ν:Nu} {tmps:List Value} {H:Heap} {a:Act} {w:World} (hi:SInv F ν tmps H a w) {t:TypeId} {xv yv x' y':Value} {k:Value→Heap→Prop} (hx:VRel ν xv x') (hy:VRel ν yv y')
  (h:copyInK E H t xv yv k) (t2 ty:TypeId):∃ v H' w',k v H'∧VRel ν v v∧SInv F ν tmps H' a w'∧(Builtin.copy_ #[t,t2] ty #[x',y']).run P w=.ok v w':=by
 obtain ⟨ti,ht,h2⟩:=tyK_spec h
 clear h
 obtain ⟨d,hu,hd⟩:=(hE.ty _ _ ht).under
 split at h2
 ·rename_i e hk
  rw [hk] at hd
  have hd:d=.slice e:=hd
  subst hd
  obtain ⟨te,he,h⟩:=tyK_spec h2
  clear h2
  have hok:=hE.ty _ _ he
  obtain ⟨i,hinf,his,hib,z,hz,hzc⟩:=hok.info
  obtain ⟨s,h2,hsf,hs⟩:=srcK_spec h
  clear h
  obtain ⟨oy,cy,L,hye,hoy,hC,hLc⟩:=hs ν w _ hi.hp hy
  have hsfl:s.isFl=true→∀ r,r < s.m→∀ v∈s.get r,scal v=true:=fun h r hr v hv=>hsf h r hr ν w hi.hp v hv
  split at h2
  ·rename_i m news id row sp n c
   obtain ⟨b,hb,h⟩:=blkK_spec h2
   clear h2
   split at h
   ·rename_i hbe
    have hbe:b.esz=te.size:=Nat.eq_of_beq_eq_true hbe
    split at h
    ·rename_i N esz get _
     have hbe:esz=te.size:=hbe
     obtain ⟨hN,h⟩:=h
     obtain ⟨hlt,h⟩:=setB_spec h
     obtain ⟨l,hl,hB⟩:=hi.hp.blk id _ hb
     have hC0:CR ν te.size news m L:=hC
     have hmin:Nat.min m n≤m:=Nat.min_le_left _ _
     have hmin2:Nat.min m n≤n:=Nat.min_le_right _ _
     have hC':CR ν esz news (Nat.min m n) (L.take (Nat.min m n*te.size)):=by rw [hbe]; exact hC0.pre hmin
     obtain ⟨h1,h3⟩:=hi.over (P:=P) hb hl (q:=row) (m:=Nat.min m n) (by omega) hC' (fun r hr=>hsfl rfl r (by show r < m; omega))
     have hyl:y'=.slice oy m cy:=hye
     have hf:(Builtin.firstCells i.size (Nat.min m n) (.slice oy m cy)).run P w=.ok (L.take (Nat.min m n*te.size)).toArray w:=by
      cases oy with
      | none =>
       have hm0:m=0:=hoy rfl
       subst hm0
       have:L=[]:=List.eq_nil_of_length_eq_zero (by rw [hC0.len]; simp)
       subst this
       rw [run_firstCells_none]; simp
      | some b0 =>
       refine run_firstCells_some (P:=P) w i.size (Nat.min m n) b0 m cy _ (by rw [his]; exact (hC0.pre hmin).len) fun j v hv=>hLc b0 rfl j v ?_
       have:=(List.getElem?_eq_some_iff.1 hv).1
       rw [List.length_take] at this
       rw [List.getElem?_take_of_lt (by omega)] at hv
       exact hv
     rcases hx.to_any with ⟨l',c',hl',_,_,e⟩ | ⟨h0,bb,e⟩
     ·rw [hl] at hl'; cases hl'
      refine ⟨_,_,_,h,.int _ _,h3,?_⟩
      rw [e,hyl]
      simp [Builtin.copy_,run_underlying' hu,Builtin.lenOf,sizeOf,typeInfo,hinf,hf,h1]
      rfl
     ·subst h0
      have hq:Nat.min m 0=0:=Nat.min_zero m
      have h4:=(hi.over (P:=P) hb hl (q:=row) (m:=Nat.min m 0) (news:=news) (L:=[]) (by omega) (by rw [hq]; exact CR.nil _ _ _) (fun r hr=>absurd hr (by omega))).2
      refine ⟨_,_,w,h,.int _ _,h4,?_⟩
      rw [e,hyl]
      rw [hq,Nat.zero_mul,List.take_zero] at hf
      cases bb <;> simp [Builtin.copy_,run_underlying' hu,Builtin.lenOf,sizeOf,typeInfo,hinf,hq,hf] <;> rfl
    ·exact h.elim
   ·exact h.elim
  ·exact h2.elim
 ·exact h2.elim
theorem append_core (hE:EnvOk P E) (hn0:FrE F E) {ν:Nu} {tmps:List Value} {H:Heap} {a:Act} {w:World} (hi:SInv F ν tmps H a w) {t:TypeId} {xv yv x' y':Value} {k:Value→List Value→Heap→Prop}
  (hx:VRel ν xv x') (hy:VRel ν yv y') (h:appendV E tmps H t xv yv k) (ty:TypeId) :
  ∃ v v' ν' t' H' w',k v t' H'∧VRel ν' v v'∧SInv F ν' t' H' a w'∧(Builtin.append_ #[t,t] ty #[x',y']).run P w=.ok v' w'∧(exactCap xv=true→ν.le ν'):=by
 obtain ⟨ti,ht,h2⟩:=tyK_spec h
 clear h
 obtain ⟨d,hu,hd⟩:=(hE.ty _ _ ht).under
 split at h2
 ·rename_i e hk
  rw [hk] at hd
  have hd:d=.slice e:=hd
  subst hd
  obtain ⟨te,he,h⟩:=tyK_spec h2
  clear h2
  have hok:=hE.ty _ _ he
  obtain ⟨i,hinf,his,hib,z,hz,hzc⟩:=hok.info
  obtain ⟨s,h2,hsf,hs⟩:=srcK_spec h
  clear h
  obtain ⟨oy,cy,L,hye,hoy,hC,hLc⟩:=hs ν w _ hi.hp hy
  have hL:L.length=s.m*i.size:=by rw [his]; exact hC.len
  have hzl:z.cells.size=te.size:=by rw [hzc]; simpa using hok.len
  have hbit:=hok.bit
  have small:∀ q,q*te.bytes≤140737488355328→q≤140737488355328:=fun q hq=>by
   have:q*1≤q*te.bytes:=Nat.mul_le_mul_left _ (by omega)
   omega
  have hsfl:s.isFl=true→∀ r,r < s.m→∀ v∈s.get r,scal v=true:=fun h r hr v hv=>hsf h r hr ν w hi.hp v hv
  split at h2
  ·-- onto nil
   have hx:=hx.to_snil
   split at h2
   ·rename_i hm
    have hL0:L=[]:=List.eq_nil_of_length_eq_zero (by rw [hL,hm]; simp)
    refine ⟨_,_,ν,_,_,w,h2,.snil,hi,?_,fun _=>ν.le_refl⟩
    rw [hx,hye]
    have:=run_app_in (P:=P) (w:=w) (ty:=ty) hu hinf (A:=none) (oy:=oy) (n:=0) (c:=0) (m:=s.m) (cy:=cy) (L:=L) hL hLc hoy (by omega) (w2:=w) (fun a ha=>by cases ha) (fun _=>rfl)
    rw [hm] at this ⊢
    simpa using this
   ·rename_i m hm
    obtain ⟨hB,h⟩:=h2
    have h:=lenK_spec h
    have hrun:=run_app_grow (P:=P) (w:=w) (ty:=ty) hu hinf hz (A:=none) (oy:=oy) (n:=0) (c:=0) (m:=s.m) (cy:=cy) (O:=[]) (L:=L) (by simp) (fun a ha=>by cases ha) (fun _=>⟨rfl,rfl⟩) hL hLc hoy (by omega) (by omega) (by rw [hib,hm]; simpa using hB) (by have:=small _ hB; omega)
    have hnid:ν H.length=none:=hi.fr _ (Nat.le_refl _)
    have hxt:Ext (newBlk te.size s) te.size (fun _=>[]) 0 s.get s.m s.isFl:=by
     cases s with
     | fl m g=>exact ⟨rfl,rfl,by simp [newBlk,Blk.n,Src.m],fun r hr=>by rw [appGet_hi (by omega)]; rfl,fun _=>rfl⟩
     | ex L=>exact ⟨rfl,rfl,by simp [newBlk,Blk.n,Src.m],fun r hr=>by rw [appGet_hi (by omega)]; rfl,fun h=>by simp [newBlk,Blk.isFlat] at h⟩
    have hcr:=hC.mono (Nu.le_add (l:=⟨w.heap.size,0,te.size,grownCap w (0+s.m) 0 e⟩) hnid)
    have hB2:=brel_grown (CR.nil _ te.size (fun _=>[])) hcr hxt (fun h=>⟨fun r hr=>absurd hr (by omega),hsfl h⟩) (w:=w) hzl (old:=0) (e:=e)
    have hge:=grownCap_ge w (0+s.m) 0 e
    have hvr:VRel (ν.add H.length ⟨w.heap.size,0,te.size,grownCap w (0+s.m) 0 e⟩) (.slice (some ⟨H.length,0,none⟩) (m+1) capU) (.slice (some ⟨w.heap.size,0,none⟩) (0+s.m) (grownCap w (0+s.m) 0 e)):=by
     have:=VRel.slice (ν:=ν.add H.length ⟨w.heap.size,0,te.size,grownCap w (0+s.m) 0 e⟩) H.length 0 (0+s.m) capU (grownCap w (0+s.m) 0 e) _ Nu.add_same (.inr rfl) hge (by simp)
     rw [show m+1=0+s.m by omega]
     simpa [Loc.at] using this
    have hq:=qpost_new hnid hB2 (below_grown w _ _ _ _) (Nat.le_refl _) hvr
    obtain ⟨H',h1,h2⟩:=hi.quiet hq (k:=fun H'=>k _ tmps H') h
    refine ⟨_,_,_,_,_,_,h1,hvr,h2,?_,fun _=>Nu.le_add hnid⟩
    rw [hx,hye]
    simpa using hrun
  ·rename_i id row n c
   obtain ⟨b,hb,h⟩:=blkK_spec h2
   clear h2
   obtain ⟨l,hl,hB⟩:=hi.hp.blk id b hb
   split at h
   ·rename_i hbe
    have hbe:b.esz=te.size:=Nat.eq_of_beq_eq_true hbe
    rw [← hbe] at hC hzl
    -- what the slice may be
    have hxr:∃ A c',x'=.slice (some A) n c'∧n≤c'∧(c'=c∨c=capU)∧((A=l.at row 0∧row+c'≤l.cap)∨(n=0∧c'=0)):=by
     rcases hx.to_slice with ⟨l',c',hl',h1,h2,h3,e⟩ | ⟨h1,h2,bb,e⟩
     ·rw [hl] at hl'; cases hl'
      exact ⟨_,c',e,h2,h1,.inl ⟨rfl,h3⟩⟩
     ·exact ⟨bb,0,by rw [e,h1],by omega,h2.imp (fun h=>h) (fun h=>h),.inr ⟨h1,rfl⟩⟩
    obtain ⟨A,c',hxe,hnc,hcc,hA⟩:=hxr
    -- its cells
    have hold:row+n≤b.n→∃ O,CR ν b.esz (fun j=>b.row (row+j)) n O∧∀ (j:Nat) u,O[j]?=some u→w.cell? (A.add j)=some u:=by
     intro hle
     rcases hA with ⟨rfl,_⟩ | ⟨h0,_⟩
     ·exact CR.of_blk hB hle
     ·subst h0
      exact ⟨[],CR.nil _ _ _,fun j u hu=>by simp at hu⟩
    have hps:b.scalB=true→∀ r,r < b.n→∀ v∈b.row r,scal v=true:=fun h r hr v hv=>by
     cases b with
     | flat o n e g=>exact hB.plain rfl r hr v hv
     | expl o e rows =>
      have h:rows.all allScal=true:=h
      have hr:r < rows.length:=hr
      have hv:v∈rows.getD r []:=hv
      rw [List.getD_eq_getElem?_getD,List.getElem?_eq_getElem hr] at hv
      exact allScal_spec (List.all_eq_true.1 h _ (List.getElem_mem hr)) v hv
     | lrec r=>cases h
    have hfl2:(b.scalB && s.isFl)=true→(∀ r,r < b.n→∀ v∈b.row r,scal v=true)∧∀ r,r < s.m→∀ v∈s.get r,scal v=true:=fun h=>by
     rw [Bool.and_eq_true] at h; exact ⟨hps h.1,hsfl h.2⟩
    -- in its place
    have inplace:∀ b' (q:Nat),b.ownC=true→Ext b' b.esz b.row q s.get s.m (b.scalB && s.isFl)→row+n=q→q≤b.n→n+s.m≤c'→∃ w2,(Builtin.append_ #[t,t] ty #[x',y']).run P w=.ok (.slice (some A) (n+s.m) c') w2 ∧
      BRel ν l b' w2∧Kept F.O F.W w2∧w.heap.size≤w2.heap.size∧∀ q,q≠l.blk→w2.heap[q]?=w.heap[q]?:=by
     intro b' q ho hxt hrn hqb hroom
     rcases hA with ⟨rfl,hcap⟩ | ⟨h0,hc0⟩
     ·obtain ⟨h1,h2⟩:=hB.extend (P:=P) ho hqb hC hxt hfl2 (by omega)
      refine ⟨_,?_,h2,hi.kp.setCells (hi.own id b l hb (Blk.ownC_spec ho).1 hl) _ _,by rw [setCells_size]; exact Nat.le_refl _,fun q hq=>setCells_other _ _ _ _ _ hq⟩
      rw [hxe,hye]
      refine run_app_in (P:=P) hu hinf hL hLc hoy hroom (fun A' hA'=>?_) (fun h=>by cases h)
      cases hA'
      have:(l.at row 0).add (n*i.size)=l.at q 0:=by
       rw [Loc.at_add]; unfold Loc.at; congr 1
       rw [hB.esz,← hrn,Nat.add_mul,his,hbe]; omega
      rw [this]; exact h1
     ·have hm0:s.m=0:=by omega
      have hL0:L=[]:=List.eq_nil_of_length_eq_zero (by rw [hL,hm0]; simp)
      refine ⟨w,?_,?_,hi.kp,Nat.le_refl _,fun _ _=>rfl⟩
      ·rw [hxe,hye]
       refine run_app_in (P:=P) hu hinf hL hLc hoy hroom (fun A' hA'=>by rw [hL0]; rfl) (fun h=>by cases h)
      ·have hnn:b'.n=q:=by rw [hxt.num,hm0]; rfl
       have hrow:∀ r,r < q→b'.row r=b.row r:=fun r hr=>by rw [hxt.row r (by omega),appGet_lo hr]
       exact ⟨by rw [hxt.esz]; exact hB.esz,fun r hr=>by rw [hnn] at hr; rw [hrow r hr,hxt.esz]; exact hB.len r (by omega),
        fun r hr j v hv=>by rw [hnn] at hr; rw [hrow r hr] at hv; exact hB.cell r (by omega) j v hv,
        fun h r hr v hv=>by rw [hnn] at hr; rw [hrow r hr] at hv; exact (hfl2 (hxt.flat h)).1 r (by omega) v hv,
        fun r hr v hv=>by rw [hnn] at hr; rw [hrow r hr] at hv; exact hB.one r (by omega) v hv,
        fun _ _=>by obtain ⟨cur,tt,q1,q2,q3⟩:=hB.own (Blk.ownC_spec ho).1 (Blk.ownC_spec ho).2; exact ⟨cur,tt,q1,q2,by rw [hnn]; omega⟩,(fun r h=>by rw [(Blk.ownC_spec hxt.own).2] at h; cases h),hB.live⟩
    have hvin:n+s.m≤c'→∀ ν',ν' id=some l→VRel ν' (.slice (some ⟨id,row,none⟩) (n+s.m) c) (.slice (some A) (n+s.m) c'):=by
     intro hroom ν' hl'
     rcases hA with ⟨rfl,hcap⟩ | ⟨h0,hc0⟩
     ·exact .slice _ _ _ _ _ l hl' hcc hroom hcap
     ·have hm0:s.m=0:=by omega
      subst hc0
      rw [h0,hm0]
      exact .void _ _ _ _ hcc
    have grow:(n+s.m)*te.bytes≤140737488355328→c' < n+s.m→∀ O,O.length=n*i.size→(∀ (j:Nat) u,O[j]?=some u→w.cell? (A.add j)=some u) →
      (Builtin.append_ #[t,t] ty #[x',y']).run P w=.ok (.slice (some ⟨w.heap.size,0,none⟩) (n+s.m) (grownCap w (n+s.m) c' e)) (w.drew.alloc (grownObj (O++L).toArray z (grownCap w (n+s.m) c' e - (n+s.m)) e)):=by
     intro hB hroom O hO1 hO2
     rw [hxe,hye]
     exact run_app_grow (P:=P) (w:=w) (ty:=ty) hu hinf hz hO1 (fun a ha=>by cases ha; exact hO2) (fun h=>by cases h) hL hLc hoy hnc hroom (by rw [hib]; exact hB) (small _ hB)
    -- a block that stays
    have inP:row+n=b.n→n+s.m≤c'→(extendK b s fun b'=>setB H id (some b') fun H'=>k (.slice (some ⟨id,row,none⟩) (n+s.m) c) tmps H') →
      ∃ v v' ν' t' H' w',k v t' H'∧VRel ν' v v'∧SInv F ν' t' H' a w'∧(Builtin.append_ #[t,t] ty #[x',y']).run P w=.ok v' w'∧ν.le ν':=fun hrn hroom h=>by
     obtain ⟨b',h,ho,hxt⟩:=extendK_spec h
     obtain ⟨hlt,h⟩:=setB_spec h
     obtain ⟨w2,hrun,hB2,hk2,hs2,hoth⟩:=inplace b' _ ho hxt hrn (Nat.le_refl _) hroom
     refine ⟨_,_,ν,_,_,w2,h,hvin hroom ν hl,⟨hi.tm,(let ⟨_,_,hcur0,_⟩:=hB.own (Blk.ownC_spec ho).1 (Blk.ownC_spec ho).2; hi.df.turn hcur0 hoth),?_,fun j hj=>hi.fr j (by simpa using hj),hk2,fun j bj lj hj hjo hlj=>?_,hi.mono⟩,hrun,ν.le_refl⟩
     ·refine hi.hp.turn (id:=id) (fun _ _=>rfl) (fun j bj hj hne=>?_) (fun bj hj=>?_)
      ·rw [List.getElem?_set_ne (Ne.symm hne)] at hj
       refine ⟨bj,hj,rfl,fun lj hlj hBj=>hBj.same (hoth _ ?_) hs2⟩
       exact Ne.symm (hi.hp.sep id j b bj l lj hb hj (Ne.symm hne) (Blk.ownC_spec ho).1 hl hlj)
      ·rw [List.getElem?_set_self hlt] at hj
       cases hj
       exact ⟨l,hl,hB2,fun j lj bj hne hj hlj=>Ne.symm (hi.hp.sep id j b bj l lj hb hj (Ne.symm hne) (Blk.ownC_spec ho).1 hl hlj)⟩
     ·by_cases e':j=id
      ·subst e'; rw [hl] at hlj; cases hlj; exact hi.own j b l hb (Blk.ownC_spec ho).1 hl
      ·rw [List.getElem?_set_ne (Ne.symm e')] at hj; exact hi.own j bj lj hj hjo hlj
    -- a new block
    have grP:row+n≤b.n→(n+s.m)*te.bytes≤140737488355328→c' < n+s.m→(copyK b row n s fun b'=>lenK H fun nid=>pushB H (some b') fun H'=>k (.slice (some ⟨nid,0,none⟩) (n+s.m) capU) tmps H') →
      ∃ v v' ν' t' H' w',k v t' H'∧VRel ν' v v'∧SInv F ν' t' H' a w'∧(Builtin.append_ #[t,t] ty #[x',y']).run P w=.ok v' w'∧ν.le ν':=fun hle hBb hroom h=>by
     obtain ⟨b',h,hxt⟩:=copyK_spec h
     have h:=lenK_spec h
     obtain ⟨O,hO,hOc⟩:=hold hle
     have hrun:=grow hBb hroom O (by rw [hO.len,his,hbe]) hOc
     have hnid:ν H.length=none:=hi.fr _ (Nat.le_refl _)
     have hle2:=Nu.le_add (l:=⟨w.heap.size,0,b.esz,grownCap w (n+s.m) c' e⟩) hnid
     have hB2:=brel_grown (hO.mono hle2) (hC.mono hle2) hxt (fun h=>⟨fun r hr v hv=>(hfl2 h).1 (row+r) (by omega) v hv,(hfl2 h).2⟩) (w:=w) hzl (old:=c') (e:=e)
     have hge:=grownCap_ge w (n+s.m) c' e
     have hvr:VRel (ν.add H.length ⟨w.heap.size,0,b.esz,grownCap w (n+s.m) c' e⟩) (.slice (some ⟨H.length,0,none⟩) (n+s.m) capU) (.slice (some ⟨w.heap.size,0,none⟩) (n+s.m) (grownCap w (n+s.m) c' e)):=by
      have:=VRel.slice (ν:=ν.add H.length ⟨w.heap.size,0,b.esz,grownCap w (n+s.m) c' e⟩) H.length 0 (n+s.m) capU (grownCap w (n+s.m) c' e) _ Nu.add_same (.inr rfl) hge (by simp)
      simpa [Loc.at] using this
     have hq:=qpost_new hnid hB2 (below_grown w _ _ _ _) (Nat.le_refl _) hvr
     obtain ⟨H',h1,h2⟩:=hi.quiet hq (k:=fun H'=>k _ tmps H') h
     exact ⟨_,_,_,_,_,_,h1,hvr,h2,hrun,hle2⟩
    -- a block that is put in place of the old one
    have oldP:∀ b1:Blk,b.ownC=true→Ext b1 b.esz b.row n s.get s.m (b.scalB && s.isFl)→c=capU→row=0→E.base≤id→n≤b.n→(n+s.m)*te.bytes≤140737488355328 →
      (killB id b1 fun b'=>∃ keep,∀ a:Nat→Value,killT a id keep 0 tmps fun tmps'=>killH id H fun H1=>setB H1 id (some b') fun H'=>k (.slice (some ⟨id,0,none⟩) (n+s.m) capU) tmps' H') →
      ∃ v v' ν' t' H' w',k v t' H'∧VRel ν' v v'∧SInv F ν' t' H' a w'∧(Builtin.append_ #[t,t] ty #[x',y']).run P w=.ok v' w':=fun b1 ho hxt hcu hrow0 hbase hnn hBb hk0=>by
     subst hrow0
     obtain ⟨b',h,ho1,hkb⟩:=killB_spec hk0
     obtain ⟨keep,h⟩:=h
     obtain ⟨af,haf⟩:=any_fun hi.tm
     obtain ⟨t',h,ht'⟩:=killT_spec (h af) ν _ hi.tm (fun j y hy ν'=>by rw [Nat.zero_add]; exact haf j y hy ν')
     obtain ⟨H1,h,hH1,hHk⟩:=killH_spec h
     obtain ⟨hlt,h⟩:=setB_spec h
     by_cases hroom:n+s.m≤c'
     ·obtain ⟨w2,hrun,hB2,hk2,hs2,hoth⟩:=inplace b1 _ ho hxt (Nat.zero_add n) hnn hroom
      have hB2:=hkb ν ν l w2 (fun _ _=>rfl) hB2
      have hv:=hvin hroom ν hl
      rw [hcu] at hv
      refine ⟨_,_,ν,_,_,w2,h,hv,⟨ht' ν (fun _ _=>rfl),(let ⟨_,_,hcur0,_⟩:=hB.own (Blk.ownC_spec ho).1 (Blk.ownC_spec ho).2; hi.df.turn hcur0 hoth),?_,fun j hj=>hi.fr j (by simpa [hH1] using hj),hk2,fun j bj lj hj hjo hlj=>?_,hi.mono⟩,hrun⟩
      ·refine hi.hp.turn (id:=id) (fun _ _=>rfl) (fun j bj hj hne=>?_) (fun bj hj=>?_)
       ·rw [List.getElem?_set_ne (Ne.symm hne)] at hj
        obtain ⟨b0,hj0,ho0,hk0⟩:=hHk j bj hj
        refine ⟨b0,hj0,ho0,fun lj hlj hBj=>hk0 ν ν lj w2 (fun _ _=>rfl) (hBj.same (hoth _ ?_) hs2)⟩
        exact Ne.symm (hi.hp.sep id j b b0 l lj hb hj0 (Ne.symm hne) (Blk.ownC_spec ho).1 hl hlj)
       ·rw [List.getElem?_set_self hlt] at hj
        cases hj
        exact ⟨l,hl,hB2,fun j lj bj hne hj hlj=>Ne.symm (hi.hp.sep id j b bj l lj hb hj (Ne.symm hne) (Blk.ownC_spec ho).1 hl hlj)⟩
      ·by_cases e':j=id
       ·subst e'; rw [hl] at hlj; cases hlj; exact hi.own j b l hb (Blk.ownC_spec ho).1 hl
       ·rw [List.getElem?_set_ne (Ne.symm e')] at hj
        obtain ⟨b0,hj0,ho0,_⟩:=hHk j bj hj
        exact hi.own j b0 lj hj0 (by rw [← ho0]; exact hjo) hlj
     ·have hroom:c' < n+s.m:=by omega
      obtain ⟨O,hO,hOc⟩:=hold (by omega)
      have hrun:=grow hBb hroom O (by rw [hO.len,his,hbe]) hOc
      have hge:=grownCap_ge w (n+s.m) c' e
      have hoff:ν.off (ν.add id ⟨w.heap.size,0,b.esz,grownCap w (n+s.m) c' e⟩) id:=fun j hj=>Nu.add_ne hj
      have hBel:=below_grown w (O++L).toArray z (grownCap w (n+s.m) c' e - (n+s.m)) e
      have hO':CR ν b.esz b.row n O:=hO.congr (fun r hr=>by simp)
      have hB2:BRel ν ⟨w.heap.size,0,b.esz,grownCap w (n+s.m) c' e⟩ b1 _:=brel_grown hO' hC hxt (fun h=>⟨fun r hr v hv=>(hfl2 h).1 r (by omega) v hv,(hfl2 h).2⟩) (w:=w) hzl (old:=c') (e:=e)
      have hF:F.ν.le (ν.add id ⟨w.heap.size,0,b.esz,grownCap w (n+s.m) c' e⟩):=by
       intro j lj hj
       have hne:j≠id:=by
        intro e'
        subst e'
        rw [F.fresh j (by have:=hn0.n0; omega)] at hj
        cases hj
       rw [Nu.add_ne hne]; exact hi.mono j lj hj
      have hvr:VRel (ν.add id ⟨w.heap.size,0,b.esz,grownCap w (n+s.m) c' e⟩) (.slice (some ⟨id,0,none⟩) (n+s.m) capU) (.slice (some ⟨w.heap.size,0,none⟩) (n+s.m) (grownCap w (n+s.m) c' e)):=by
       have:=VRel.slice (ν:=ν.add id ⟨w.heap.size,0,b.esz,grownCap w (n+s.m) c' e⟩) id 0 (n+s.m) capU (grownCap w (n+s.m) c' e) _ Nu.add_same (.inr rfl) hge (by simp)
       simpa [Loc.at] using this
      have hlt':id < H.length:=by rw [← hH1]; exact hlt
      refine ⟨_,_,ν.add id ⟨w.heap.size,0,b.esz,grownCap w (n+s.m) c' e⟩,_,_,_,h,hvr,⟨ht' _ hoff,hi.df.below hBel,?_,fun j hj=>?_,hi.kp.below hBel,fun j bj lj hj hjo hlj=>?_,hF⟩,hrun⟩
      ·refine hi.hp.turn (id:=id) hoff (fun j bj hj hne=>?_) (fun bj hj=>?_)
       ·rw [List.getElem?_set_ne (Ne.symm hne)] at hj
        obtain ⟨b0,hj0,ho0,hk0⟩:=hHk j bj hj
        exact ⟨b0,hj0,ho0,fun lj hlj hBj=>hk0 ν _ lj _ hoff (hBj.below hBel)⟩
       ·rw [List.getElem?_set_self hlt] at hj
        cases hj
        refine ⟨_,Nu.add_same,hkb ν _ _ _ hoff hB2,fun j lj bj hne hj hlj=>?_⟩
        obtain ⟨lj',e1,e2⟩:=hi.hp.blk j bj hj
        rw [hlj] at e1; cases e1
        have:=e2.live
        simp only
        omega
      ·have hj:H.length≤j:=by simpa [hH1] using hj
       rw [Nu.add_ne (by omega)]; exact hi.fr j hj
      ·by_cases e':j=id
       ·subst e'
        rw [Nu.add_same] at hlj
        cases hlj
        exact .inr hi.kp.size
       ·rw [List.getElem?_set_ne (Ne.symm e')] at hj
        obtain ⟨b0,hj0,ho0,_⟩:=hHk j bj hj
        rw [Nu.add_ne e'] at hlj
        exact hi.own j b0 lj hj0 (by rw [← ho0]; exact hjo) hlj
    split at h
    ·rename_i hcu
     have hcu:c≠capU:=of_decide_eq_false hcu
     have hc:c'=c:=hcc.resolve_right hcu
     cases hble:Nat.ble (n+s.m) c with
     | true =>
      have hroom:=Nat.le_of_ble_eq_true hble
      obtain ⟨hrn,h⟩:=br_true h hble
      obtain ⟨v,v',ν',t',H',w',h1,h2,h3,h4,h5⟩:=inP hrn (by omega) h
      exact ⟨v,v',ν',t',H',w',h1,h2,h3,h4,fun _=>h5⟩
     | false =>
      have hroom:c < n+s.m:=by
       rcases Nat.lt_or_ge c (n+s.m) with h' | h'
       ·exact h'
       ·rw [Nat.ble_eq_true_of_le h'] at hble; cases hble
      obtain ⟨⟨hle,hBb⟩,h⟩:=br_false h hble
      obtain ⟨v,v',ν',t',H',w',h1,h2,h3,h4,h5⟩:=grP hle hBb (by omega) h
      exact ⟨v,v',ν',t',H',w',h1,h2,h3,h4,fun _=>h5⟩
    ·rename_i hcu
     have hcu:c=capU:=of_decide_eq_true hcu
     have nx:exactCap (.slice (some ⟨id,row,none⟩) n c)=true→False:=fun hx=>by rw [hcu] at hx; simp [exactCap] at hx
     split at h
     ·have hr0:row=0:=by
       cases row with
       | zero=>rfl
       | succ r=>exact h.elim
      clear inP grP
      subst hr0
      obtain ⟨⟨hbase,⟨hnn,ho⟩,hBb⟩,h⟩:=h
      obtain ⟨b1,h,hxt⟩:=copyK_spec h
      obtain ⟨v,v',ν',t',H',w',h1,h2,h3,h4⟩:=oldP b1 ho (by simpa using hxt) hcu rfl hbase hnn hBb h
      exact ⟨v,v',ν',t',H',w',h1,h2,h3,h4,fun hx=>(nx hx).elim⟩
     ·split at h
      ·have hr0:row=0:=by
        cases row with
        | zero=>rfl
        | succ r=>exact h.elim
       clear inP grP
       subst hr0
       obtain ⟨⟨hbase,hnn,hBb⟩,h⟩:=h
       obtain ⟨b1,h,ho,hxt⟩:=extendK_spec h
       obtain ⟨v,v',ν',t',H',w',h1,h2,h3,h4⟩:=oldP b1 ho (by rw [hnn]; exact hxt) hcu rfl hbase (Nat.le_of_eq hnn) hBb h
       exact ⟨v,v',ν',t',H',w',h1,h2,h3,h4,fun hx=>(nx hx).elim⟩
      ·have hr0:row=0:=by
        cases row with
        | zero=>rfl
        | succ r=>exact h.elim
       clear inP grP oldP
       subst hr0
       obtain ⟨⟨hnn,hBb⟩,h⟩:=h
       obtain ⟨b',h,ho,hxt⟩:=extendK_spec h
       obtain ⟨hlt,h⟩:=setB_spec h
       have h:=lenK_spec h
       have hi0:SInv F ν tmps (H.set id none) a w:=by
        have hle:Heap.le (H.set id none) H:=fun j bj hj=>by
         by_cases e':j=id
         ·subst e'; rw [List.getElem?_set_self hlt] at hj; cases hj
         ·rw [List.getElem?_set_ne (Ne.symm e')] at hj; exact hj
        exact ⟨hi.tm,hi.df,hi.hp.fewer hle,fun j hj=>hi.fr j (by simpa using hj),hi.kp,fun j bj lj hj hjo hlj=>hi.own j bj lj (hle j bj hj) hjo hlj,hi.mono⟩
       have hnid:ν (H.set id none).length=none:=hi0.fr _ (Nat.le_refl _)
       have old:∀ j bj,(H.set id none)[j]?=some (some bj)→j≠id∧H[j]?=some (some bj):=fun j bj hj=>by
        by_cases e':j=id
        ·subst e'; rw [List.getElem?_set_self hlt] at hj; cases hj
        ·rw [List.getElem?_set_ne (Ne.symm e')] at hj; exact ⟨e',hj⟩
       by_cases hroom:n+s.m≤c'
       ·obtain ⟨w2,hrun,hB2,hk2,hs2,hoth⟩:=inplace b' _ ho hxt (by rw [hnn]; simp) (Nat.le_refl _) hroom
        have h:=pushB_spec h
        have hle2:=Nu.le_add (l:=l) hnid
        have split2:∀ j bj,(H.set id none++[some b'])[j]?=some (some bj)→(j < (H.set id none).length∧j≠id∧H[j]?=some (some bj))∨(j=(H.set id none).length∧bj=b'):=fun j bj hj=>by
         rw [List.getElem?_append] at hj
         split at hj
         ·rename_i hlt2
          exact .inl ⟨hlt2,old j bj hj⟩
         ·rename_i hge
          have:j - (H.set id none).length=0:=by
           rcases Nat.lt_or_ge (j - (H.set id none).length) 1 with h' | h'
           ·omega
           ·rw [List.getElem?_eq_none (by simpa using h')] at hj; cases hj
          rw [this] at hj
          cases hj
          exact .inr ⟨by omega,rfl⟩
        have hv:VRel (ν.add (H.set id none).length l) (.slice (some ⟨(H.set id none).length,0,none⟩) (n+s.m) capU) (.slice (some A) (n+s.m) c'):=by
         rcases hA with ⟨rfl,hcap⟩ | ⟨h0,hc0⟩
         ·exact .slice _ _ _ _ _ l Nu.add_same (.inr rfl) hroom hcap
         ·have hm0:s.m=0:=by omega
          subst hc0
          rw [h0,hm0]
          exact .void _ _ _ _ (.inr rfl)
        refine ⟨_,_,ν.add (H.set id none).length l,_,_,w2,h,hv,⟨hi.tm.mono hle2,(let ⟨_,_,hcur0,_⟩:=hB.own (Blk.ownC_spec ho).1 (Blk.ownC_spec ho).2; hi.df.turn hcur0 hoth),⟨fun j bj hj=>?_,fun i j bi bj li lj h1 h2 hne hio e1 e2=>?_⟩,fun j hj=>?_,hk2,fun j bj lj hj hjo hlj=>?_,Nu.le_trans hi.mono hle2⟩,hrun,fun hx=>(nx hx).elim⟩
        ·rcases split2 j bj hj with ⟨q1,q2,q3⟩ | ⟨q1,q2⟩
         ·obtain ⟨lj,e1,e2⟩:=hi.hp.blk j bj q3
          refine ⟨lj,hle2 _ _ e1,(e2.same (hoth _ ?_) hs2).mono hle2⟩
          exact Ne.symm (hi.hp.sep id j b bj l lj hb q3 (Ne.symm q2) (Blk.ownC_spec ho).1 hl e1)
         ·subst q1; subst q2
          exact ⟨l,Nu.add_same,hB2.mono hle2⟩
        ·rcases split2 i bi h1 with ⟨q1,q2,q3⟩ | ⟨q1,q2⟩
         ·rw [Nu.add_ne (by omega)] at e1
          rcases split2 j bj h2 with ⟨p1,p2,p3⟩ | ⟨p1,p2⟩
          ·rw [Nu.add_ne (by omega)] at e2
           exact hi.hp.sep i j bi bj li lj q3 p3 hne hio e1 e2
          ·subst p1
           rw [Nu.add_same] at e2; cases e2
           exact Ne.symm (hi.hp.sep id i b bi l li hb q3 (Ne.symm q2) (Blk.ownC_spec ho).1 hl e1)
         ·subst q1
          rw [Nu.add_same] at e1; cases e1
          rcases split2 j bj h2 with ⟨p1,p2,p3⟩ | ⟨p1,p2⟩
          ·rw [Nu.add_ne (by omega)] at e2
           exact hi.hp.sep id j b bj l lj hb p3 (Ne.symm p2) (Blk.ownC_spec ho).1 hl e2
          ·exact absurd p1.symm hne
        ·have hj:H.length+1≤j:=by simpa using hj
         rw [Nu.add_ne (by simp; omega)]; exact hi.fr j (by omega)
        ·rcases split2 j bj hj with ⟨q1,q2,q3⟩ | ⟨q1,q2⟩
         ·rw [Nu.add_ne (by omega)] at hlj
          exact hi.own j bj lj q3 hjo hlj
         ·subst q1
          rw [Nu.add_same] at hlj; cases hlj
          exact hi.own id b l hb (Blk.ownC_spec ho).1 hl
       ·obtain ⟨O,hO,hOc⟩:=hold (by omega)
        have hrun:=grow hBb (by omega) O (by rw [hO.len,his,hbe]) hOc
        have hle2:=Nu.le_add (l:=⟨w.heap.size,0,b.esz,grownCap w (n+s.m) c' e⟩) hnid
        have hO':CR ν b.esz b.row n O:=hO.congr (fun r hr=>by simp)
        have hxt':Ext b' b.esz b.row n s.get s.m (b.scalB && s.isFl):=by rw [hnn]; exact hxt
        have hB2:=brel_grown (hO'.mono hle2) (hC.mono hle2) hxt' (fun h=>⟨fun r hr v hv=>(hfl2 h).1 r (by omega) v hv,(hfl2 h).2⟩) (w:=w) hzl (old:=c') (e:=e)
        have hge:=grownCap_ge w (n+s.m) c' e
        have hvr:VRel (ν.add (H.set id none).length ⟨w.heap.size,0,b.esz,grownCap w (n+s.m) c' e⟩) (.slice (some ⟨(H.set id none).length,0,none⟩) (n+s.m) capU) (.slice (some ⟨w.heap.size,0,none⟩) (n+s.m) (grownCap w (n+s.m) c' e)):=by
         have:=VRel.slice (ν:=ν.add (H.set id none).length ⟨w.heap.size,0,b.esz,grownCap w (n+s.m) c' e⟩) (H.set id none).length 0 (n+s.m) capU (grownCap w (n+s.m) c' e) _ Nu.add_same (.inr rfl) hge (by simp)
         simpa [Loc.at] using this
        have hq:=qpost_new hnid hB2 (below_grown w _ _ _ _) (Nat.le_refl _) hvr
        obtain ⟨H',h1,h2⟩:=hi0.quiet hq (k:=fun H'=>k _ tmps H') h
        exact ⟨_,_,_,_,_,_,h1,hvr,h2,hrun,fun hx=>(nx hx).elim⟩
   ·exact h.elim
  ·rename_i id row b0 n c
   obtain ⟨b,hb,h⟩:=blkK_spec h2
   clear h2
   split at h
   ·rename_i hbe
    have hbe:b.esz=te.size:=Nat.eq_of_beq_eq_true hbe
    split at h
    ·rename_i N esz get m news _
     have hbe:esz=te.size:=hbe
     obtain ⟨⟨hb0,hN⟩,h⟩:=h
     obtain ⟨hlt,h⟩:=setB_spec h
     obtain ⟨l,hl,hB⟩:=hi.hp.blk id _ hb
     rw [rowAdd_eq] at h
     have hC':CR ν esz news m L:=by rw [hbe]; exact hC
     have hs':∀ r,r < m→∀ v∈news r,scal v=true:=hsfl rfl
     obtain ⟨h1,h2⟩:=hi.over (P:=P) hb hl (q:=row+n) (m:=m) (by omega) hC' hs'
     have hyl:y'=.slice oy m cy:=hye
     have hLl:L.length=m*i.size:=hL
     have hoy':oy=none→m=0:=hoy
     rcases hx.to_lim' with ⟨l',c',hl',h3,h4,h5,hcu,e⟩ | ⟨h3,h4,hcu,bb,e⟩
     ·rw [hl] at hl'; cases hl'
      subst hcu
      refine ⟨_,_,ν,_,_,_,h,.lim _ _ _ _ c' l hl h3 (by omega) h5,h2,?_,fun _=>ν.le_refl⟩
      rw [e,hyl]
      refine run_app_in (P:=P) hu hinf hLl hLc hoy' (by omega) (fun A' hA'=>?_) (fun h=>by cases h)
      cases hA'
      have e2:(l.at row 0).add (n*i.size)=l.at (row+n) 0:=by
       rw [Loc.at_add]; unfold Loc.at; congr 1
       rw [show l.esz=esz from hB.esz,his,Nat.add_mul,hbe]; omega
      rw [e2]; exact h1
     ·have hm0:m=0:=by omega
      subst hcu
      subst h3
      subst hm0
      subst h4
      have hL0:L=[]:=List.eq_nil_of_length_eq_zero (by rw [hLl]; simp)
      subst hL0
      refine ⟨_,_,ν,_,_,w,h,.limz _ _ bb,h2,?_,fun _=>ν.le_refl⟩
      rw [e,hyl]
      exact run_app_in (P:=P) hu hinf hLl hLc hoy' (by omega) (fun A' hA'=>rfl) (fun h=>by cases h)
    ·exact h.elim
   ·exact h.elim
  ·exact h2.elim
 ·exact h2.elim
theorem append_sound (hE:EnvOk P E) (hn0:FrE F E) {ν:Nu} {tmps:List Value} {H:Heap} {a:Act} {w:World} (hi:SInv F ν tmps H a w) {t:TypeId} {x y:Operand} {k:Value→List Value→Heap→Prop}
  (h:appendK E tmps H t x y k) (ty:TypeId):∃ v v' ν' t' H' w',k v t' H'∧VRel ν' v v'∧SInv F ν' t' H' a w'∧(Builtin.append_ #[t,t] ty #[a.eval x,a.eval y]).run P w=.ok v' w':=by
 obtain ⟨xv,h2,hx⟩:=evalK_spec h (hi.opRel x)
 clear h
 obtain ⟨yv,h,hy⟩:=evalK_spec h2 (hi.opRel y)
 obtain ⟨v,v',ν',t',H',w',h1,h2,h3,h4,_⟩:=append_core hE hn0 hi hx hy h ty
 exact ⟨v,v',ν',t',H',w',h1,h2,h3,h4⟩
end
end Go.Ae
/- Blocks that are not wanted any more are dropped, the others numbered anew. -/
namespace Go.Ae
open Go Go.RowKit
def idxF:List Nat→Nat→Nat→Option Nat
 | [],_,_=>none
 | a::l,id,k=>match Nat.beq a id with
  | true=>some k
  | false=>idxF l id (k+1)
theorem idxF_spec:∀ {l:List Nat} {id k j:Nat},idxF l id k=some j→k≤j∧l[j - k]?=some id
 | [],id,k,j,h=>by cases h
 | a::l,id,k,j,h=>by
  unfold idxF at h
  split at h
  ·rename_i e
   cases h
   exact ⟨Nat.le_refl _,by simp [Nat.eq_of_beq_eq_true e]⟩
  ·obtain ⟨h1,h2⟩:=idxF_spec h
   refine ⟨by omega,?_⟩
   rw [show j - k=(j - (k+1))+1 by omega,List.getElem?_cons_succ]; exact h2
def mapV (σ:List Nat):Nat→Value→Option Value
 | 0,_=>none
 | k+1,v=>match v with
  | .bool b=>some (.bool b)
  | .int q n=>some (.int q n)
  | .string s=>some (.string s)
  | .pointer none=>some (.pointer none)
  | .pointer (some ⟨id,row,sp⟩)=>match idxF σ id 0 with | some j=>some (.pointer (some ⟨j,row,sp⟩)) | none=>some (.chan none)
  | .slice none n c=>some (.slice none n c)
  | .slice (some ⟨id,row,sp⟩) n c=>match idxF σ id 0 with | some j=>some (.slice (some ⟨j,row,sp⟩) n c) | none=>some (.chan none)
  | .nilFunc=>some .nilFunc
  | .chan none=>some (.chan none)
  | .agg ⟨l⟩=>match l.foldr (fun v acc=>match mapV σ k v,acc with | some x,some xs=>some (x::xs) | _,_=>none) (some []) with | some l'=>some (.agg ⟨l'⟩) | none=>none
  | .tuple ⟨l⟩=>match l.foldr (fun v acc=>match mapV σ k v,acc with | some x,some xs=>some (x::xs) | _,_=>none) (some []) with | some l'=>some (.tuple ⟨l'⟩) | none=>none
  | .func fn ⟨l⟩ ⟨m⟩=>match l.foldr (fun v acc=>match mapV σ k v,acc with | some x,some xs=>some (x::xs) | _,_=>none) (some []),m.foldr (fun v acc=>match mapV σ k v,acc with | some x,some xs=>some (x::xs) | _,_=>none) (some []) with
   | some l',some m'=>some (.func fn ⟨l'⟩ ⟨m'⟩) | _,_=>none
  | _=>none
def mapL (σ:List Nat) (k:Nat) (l:List Value):Option (List Value):=l.foldr (fun v acc=>match mapV σ k v,acc with | some x,some xs=>some (x::xs) | _,_=>none) (some [])
theorem mapL_cons {σ:List Nat} {m:Nat} {x:Value} {xs l:List Value} (h:mapL σ m (x::xs)=some l):∃ y ys,l=y::ys∧mapV σ m x=some y∧mapL σ m xs=some ys:=by
 unfold mapL at h
 rw [List.foldr_cons] at h
 split at h
 ·rename_i y ys h1 h2
  exact ⟨y,ys,(Option.some.inj h).symm,h1,h2⟩
 ·cases h
theorem mapL_rel {σ:List Nat} {m:Nat} {ν ν':Nu} (h:∀ v v2 r,mapV σ m v=some v2→VRel ν v r→VRel ν' v2 r):∀ {xs l rs:List Value},mapL σ m xs=some l→LRel ν xs rs→LRel ν' l rs
 | [],l,rs,h1,h2=>by
  have:l=[]:=by simp [mapL] at h1; exact h1
  rw [this,h2.nil_inv]; exact .nil _
 | x::xs,l,rs,h1,h2=>by
  obtain ⟨y,ys,rfl,e1,e2⟩:=mapL_cons h1
  obtain ⟨r,rs',rfl,k1,k2⟩:=h2.uncons
  exact .cons (h _ _ _ e1 k1) (mapL_rel h e2 k2)
theorem idx_nu {σ:List Nat} {id j:Nat} {ν:Nu} (h:idxF σ id 0=some j):(ν.comp σ) j=ν id:=by
 have:=(idxF_spec h).2
 rw [Nat.sub_zero] at this
 simp [Nu.comp,this]
theorem mapV_rel {σ:List Nat} {ν:Nu}:∀ (m:Nat) (v v2 r:Value),mapV σ m v=some v2→VRel ν v r→VRel (ν.comp σ) v2 r:=by
 intro m
 induction m with
 | zero=>intro v v2 r h; simp [mapV] at h
 | succ m ih =>
  intro v v2 r h hr
  cases hr with
  | bool b=>cases h; exact .bool b
  | int q n=>cases h; exact .int q n
  | str s=>cases h; exact .str s
  | pnil=>cases h; exact .pnil
  | ptr id row sp l hl =>
   unfold mapV at h
   dsimp only at h
   split at h
   ·rename_i j hj
    cases h
    exact .ptr j row sp l (by rw [idx_nu hj]; exact hl)
   ·cases h; exact .dead _ rfl
  | snil=>cases h; exact .snil
  | slice id row n c c' l hl hc hn hr =>
   unfold mapV at h
   dsimp only at h
   split at h
   ·rename_i j hj
    cases h
    exact .slice j row n c c' l (by rw [idx_nu hj]; exact hl) hc hn hr
   ·cases h; exact .dead _ rfl
  | void id row c a hc =>
   unfold mapV at h
   dsimp only at h
   split at h
   ·cases h; exact .void _ row c a hc
   ·cases h; exact .dead _ rfl
  | lim id row m' n c' l hl hm hn hr =>
   unfold mapV at h
   dsimp only at h
   split at h
   ·rename_i j hj
    cases h
    exact .lim j row m' n c' l (by rw [idx_nu hj]; exact hl) hm hn hr
   ·cases h; exact .dead _ rfl
  | limz id row a =>
   unfold mapV at h
   dsimp only at h
   split at h
   ·cases h; exact .limz _ row a
   ·cases h; exact .dead _ rfl
  | fnil=>cases h; exact .fnil
  | func fn xs ys xs' ys' h1 h2 h3 h4 =>
   unfold mapV at h
   dsimp only at h
   split at h
   ·rename_i l1 l2 e1 e2
    cases h
    have t1:=mapL_rel ih e1 ⟨h1,h2⟩
    have t2:=mapL_rel ih e2 ⟨h3,h4⟩
    exact .func _ _ _ _ _ t1.1 t1.2 t2.1 t2.2
   ·cases h
  | agg xs ys h1 h2 =>
   unfold mapV at h
   dsimp only at h
   split at h
   ·rename_i l1 e1
    cases h
    have t1:=mapL_rel ih e1 ⟨h1,h2⟩
    exact .agg _ _ t1.1 t1.2
   ·cases h
  | tuple xs ys h1 h2 =>
   unfold mapV at h
   dsimp only at h
   split at h
   ·rename_i l1 e1
    cases h
    have t1:=mapL_rel ih e1 ⟨h1,h2⟩
    exact .tuple _ _ t1.1 t1.2
   ·cases h
  | dead w hw=>cases h; exact .dead _ (by assumption)
theorem mapV_one {σ:List Nat} {m:Nat} {v v2:Value} (h:mapV σ m v=some v2) (h1:v.oneCell'=true):v2.oneCell'=true:=by
 cases m with
 | zero=>simp [mapV] at h
 | succ m =>
  unfold mapV at h
  split at h
  all_goals first
   | (exfalso; simp [Value.oneCell'] at h1; done)
   | (cases h; rfl)
   | (split at h <;> first | (cases h; rfl) | cases h)
   | cases h
theorem mapL_all {σ:List Nat} {m:Nat} {p:Value→Prop} (hp:∀ v v2,mapV σ m v=some v2→p v→p v2):∀ {xs l:List Value},mapL σ m xs=some l→(∀ v∈xs,p v)→(l.length=xs.length∧∀ v∈l,p v)
 | [],l,h,_=>by
  have:l=[]:=by simp [mapL] at h; exact h
  subst this
  exact ⟨rfl,fun v hv=>by simp at hv⟩
 | x::xs,l,h,hx=>by
  obtain ⟨y,ys,rfl,e1,e2⟩:=mapL_cons h
  obtain ⟨h1,h2⟩:=mapL_all hp e2 (fun v hv=>hx v (by simp [hv]))
  refine ⟨by simp [h1],fun v hv=>?_⟩
  rcases List.mem_cons.1 hv with e | e
  ·rw [e]; exact hp x y e1 (hx x (by simp))
  ·exact h2 v e
/-- The slots that are kept; the others may hold anything. -/
def mapT (a:Nat→Value) (σ keep:List Nat):Nat→List Value→(List Value→Prop)→Prop
 | _,[],k=>k []
 | i,v::l,k=>match inB i keep with
  | true=>optL (mapV σ 3 v) fun v'=>mapT a σ keep (i+1) l fun l'=>k (v'::l')
  | false=>mapT a σ keep (i+1) l fun l'=>k (a i::l')
theorem mapT_spec {a:Nat→Value} {σ keep:List Nat}:∀ {t:List Value} {i:Nat} {k:List Value→Prop},mapT a σ keep i t k→∀ (ν:Nu) r,LRel ν t r→(∀ (j:Nat) (y:Value),r[j]?=some y→∀ ν':Nu,VRel ν' (a (i+j)) y)→∃ t',k t'∧LRel (ν.comp σ) t' r
 | [],i,k,h,ν,r,hr,ha=>⟨[],h,by rw [hr.nil_inv]; exact .nil _⟩
 | v::l,i,k,h,ν,r,hr,ha=>by
  obtain ⟨y,ys,rfl,h1,h2⟩:=hr.uncons
  obtain ⟨hx,ha⟩:=any_tail ha
  unfold mapT at h
  split at h
  ·obtain ⟨v',e,h⟩:=optL_spec h
   obtain ⟨l',h3,h4⟩:=mapT_spec h ν ys h2 ha
   exact ⟨_,h3,.cons (mapV_rel 3 _ _ _ e h1) h4⟩
  ·obtain ⟨l',h3,h4⟩:=mapT_spec h ν ys h2 ha
   exact ⟨_,h3,.cons (hx _) h4⟩
def mapRows (σ:List Nat):List (List Value)→(List (List Value)→Prop)→Prop
 | [],k=>k []
 | r::l,k=>optL (mapL σ 3 r) fun r'=>mapRows σ l fun l'=>k (r'::l')
theorem mapRows_spec {σ:List Nat}:∀ {l:List (List Value)} {k:List (List Value)→Prop},mapRows σ l k→∃ l',k l'∧l'.length=l.length∧∀ (i:Nat) r',l'[i]?=some r'→∃ r,l[i]?=some r∧mapL σ 3 r=some r'
 | [],k,h=>⟨[],h,rfl,fun i r hr=>by simp at hr⟩
 | r::l,k,h=>by
  obtain ⟨r',e,h⟩:=optL_spec h
  obtain ⟨l',h,h1,h2⟩:=mapRows_spec h
  refine ⟨_,h,by simp [h1],fun i q hq=>?_⟩
  cases i with
  | zero=>simp at hq; subst hq; exact ⟨r,rfl,e⟩
  | succ i=>simpa using h2 i q (by simpa using hq)
def mapB (σ:List Nat) (b:Blk) (k:Blk→Prop):Prop :=
 match b with
 | .flat o n e g=>k (.flat o n e g)
 | .expl o e rows=>mapRows σ rows fun rows'=>k (.expl o e rows')
 | .lrec r=>k (.lrec r)
theorem mapB_spec {σ:List Nat} {b:Blk} {k:Blk→Prop} (h:mapB σ b k):∃ b',k b'∧b'.own=b.own∧∀ (ν:Nu) (l:Loc) (w:World),BRel ν l b w→BRel (ν.comp σ) l b' w:=by
 cases b with
 | flat o n e g =>
  exact ⟨_,h,rfl,fun ν l w hB=>hB.scal_any (hB.plain rfl)⟩
 | lrec r=>exact ⟨_,h,rfl,fun ν l w hB=>hB.scal_any (fun r hr=>absurd hr (Nat.not_lt_zero r))⟩
 | expl o e rows =>
  obtain ⟨rows',h,h1,h2⟩:=mapRows_spec h
  refine ⟨_,h,rfl,fun ν l w hB=>?_⟩
  have hrow:∀ r,r < rows'.length→∃ q,(Blk.expl o e rows).row r=q∧mapL σ 3 q=some ((Blk.expl o e rows').row r)∧r < rows.length:=by
   intro r hr
   obtain ⟨q,h3,h4⟩:=h2 r _ (List.getElem?_eq_getElem hr)
   refine ⟨q,by simp [Blk.row,List.getD,h3],?_,by omega⟩
   simpa [Blk.row,List.getD,List.getElem?_eq_getElem hr] using h4
  -- cell by cell, against the real cells of the row
  have real:∀ (xs:List Value) (P:Nat→Value→Prop),(∀ (j:Nat) v,xs[j]?=some v→∃ v',P j v'∧VRel ν v v')→∀ l,mapL σ 3 xs=some l→∀ (j:Nat) v,l[j]?=some v→∃ v',P j v'∧VRel (ν.comp σ) v v':=by
   intro xs
   induction xs with
   | nil =>
    intro P _ l hl j v hv
    have:l=[]:=by simp [mapL] at hl; exact hl
    rw [this] at hv; simp at hv
   | cons x xs ih =>
    intro P hP l hl j v hv
    obtain ⟨y,ys,rfl,e1,e2⟩:=mapL_cons hl
    cases j with
    | zero =>
     simp at hv; subst hv
     obtain ⟨v',h3,h4⟩:=hP 0 x rfl
     exact ⟨v',h3,mapV_rel 3 _ _ _ e1 h4⟩
    | succ j =>
     exact ih (fun j=>P (j+1)) (fun j v hv=>hP (j+1) v (by simpa using hv)) ys e2 j v (by simpa using hv)
  refine ⟨hB.esz,fun r hr=>?_,fun r hr j v hv=>?_,fun h=>by simp [Blk.isFlat] at h,fun r hr v hv=>?_,fun ho _=>?_,(fun r h=>nomatch h),hB.live⟩
  ·obtain ⟨q,h3,h4,h5⟩:=hrow r hr
   have:=(mapL_all (p:=fun _=>True) (fun _ _ _ _=>trivial) h4 (fun _ _=>trivial)).1
   rw [this,← h3]; exact hB.len r h5
  ·obtain ⟨q,h3,h4,h5⟩:=hrow r hr
   exact real q (fun j v'=>w.cell? (l.at r j)=some v') (fun j v hv=>hB.cell r h5 j v (by rw [h3]; exact hv)) _ h4 j v hv
  ·obtain ⟨q,h3,h4,h5⟩:=hrow r hr
   exact (mapL_all (p:=fun v=>v.oneCell'=true) (fun _ _ h h'=>mapV_one h h') h4 (fun v hv=>hB.one r h5 v (by rw [h3]; exact hv))).2 v hv
  ·obtain ⟨cur,t,q1,q2,q3⟩:=hB.own ho rfl
   exact ⟨cur,t,q1,q2,by simp only [Blk.n] at q3 ⊢; omega⟩
/-- The blocks that stay. -/
def optBK (H:Heap):Nat→(Option Blk→Prop)→Prop:=fun id k=>match H,id with
 | [],_=>k none
 | b::_,0=>k b
 | _::H,n+1=>optBK H n k
theorem optBK_spec:∀ {H:Heap} {id:Nat} {k:Option Blk→Prop},optBK H id k→∃ b,k b∧∀ c,b=some c→H[id]?=some (some c)
 | [],_,k,h=>by
  have h:k none:=by unfold optBK at h; exact h
  exact ⟨none,h,fun c hc=>by cases hc⟩
 | b::_,0,k,h=>by
  have h:k b:=by unfold optBK at h; exact h
  exact ⟨b,h,fun c hc=>by rw [hc]; rfl⟩
 | _::H,n+1,k,h=>by
  have h:optBK H n k:=by unfold optBK at h; exact h
  obtain ⟨b,h1,h2⟩:=optBK_spec h
  exact ⟨b,h1,fun c hc=>by simpa using h2 c hc⟩
def selH (σ:List Nat) (H:Heap):List Nat→(Heap→Prop)→Prop
 | [],k=>k []
 | s::l,k=>optBK H s fun b=>match b with
  | none=>selH σ H l fun H'=>k (none::H')
  | some b=>mapB σ b fun b'=>selH σ H l fun H'=>k (some b'::H')
theorem selH_spec {σ:List Nat} {H:Heap}:∀ {l:List Nat} {k:Heap→Prop},selH σ H l k→∃ H',k H'∧H'.length=l.length∧∀ (j:Nat) b',H'[j]?=some (some b')→∃ s b,l[j]?=some s∧H[s]?=some (some b)∧b'.own=b.own ∧
  ∀ (ν:Nu) (lc:Loc) (w:World),BRel ν lc b w→BRel (ν.comp σ) lc b' w
 | [],k,h=>⟨[],h,rfl,fun j b hj=>by simp at hj⟩
 | s::l,k,h=>by
  obtain ⟨b,h,hb⟩:=optBK_spec h
  cases b with
  | none =>
   obtain ⟨H',h1,h2,h3⟩:=selH_spec (l:=l) h
   refine ⟨_,h1,by simp [h2],fun j b' hj=>?_⟩
   cases j with
   | zero=>simp at hj
   | succ j=>simpa using h3 j b' (by simpa using hj)
  | some b =>
   obtain ⟨b1,h,ho,hr⟩:=mapB_spec h
   obtain ⟨H',h1,h2,h3⟩:=selH_spec (l:=l) h
   refine ⟨_,h1,by simp [h2],fun j b' hj=>?_⟩
   cases j with
   | zero=>simp at hj; subst hj; exact ⟨s,b,rfl,hb b rfl,ho,hr⟩
   | succ j=>simpa using h3 j b' (by simpa using hj)
def notIn (a:Nat):List Nat→Bool
 | []=>true
 | b::l=>match Nat.beq a b with
  | true=>false
  | false=>notIn a l
theorem notIn_spec {a:Nat}:∀ {l:List Nat},notIn a l=true→a ∉ l
 | [],_=>by simp
 | b::l,h=>by
  unfold notIn at h
  split at h
  ·cases h
  ·rename_i e
   rw [List.mem_cons,not_or]
   exact ⟨Nat.ne_of_beq_eq_false e,notIn_spec h⟩
def nodB:List Nat→Bool
 | []=>true
 | a::l=>match notIn a l with
  | true=>nodB l
  | false=>false
theorem nodB_spec:∀ {l:List Nat},nodB l=true→l.Nodup
 | [],_=>by simp
 | a::l,h=>by
  unfold nodB at h
  split at h
  ·rename_i e; exact List.nodup_cons.2 ⟨notIn_spec e,nodB_spec h⟩
  ·cases h
def preB (base:Nat):Nat→List Nat→Bool
 | k,[]=>Nat.ble base k
 | k,a::l=>match Nat.ble base k with
  | true=>true
  | false=>match Nat.beq a k with
   | true=>preB base (k+1) l
   | false=>false
theorem preB_spec {base:Nat}:∀ {l:List Nat} {k:Nat},preB base k l=true→∀ j,k+j < base→l[j]?=some (k+j)
 | [],k,h,j,hj=>by
  have:=Nat.le_of_ble_eq_true h
  omega
 | a::l,k,h,j,hj=>by
  unfold preB at h
  split at h
  ·rename_i e; have:=Nat.le_of_ble_eq_true e; omega
  ·split at h
   ·rename_i e
    have e:=Nat.eq_of_beq_eq_true e
    cases j with
    | zero=>simp [e]
    | succ j =>
     have:=preB_spec h j (by omega)
     rw [List.getElem?_cons_succ,this]; congr 1; omega
   ·cases h
def baseOk (base:Nat) (σ:List Nat):Bool:=match preB base 0 σ with
 | true=>nodB σ
 | false=>false
theorem baseOk_spec {base:Nat} {σ:List Nat} (h:baseOk base σ=true):(∀ j,j < base→σ[j]?=some j)∧σ.Nodup:=by
 unfold baseOk at h
 split at h
 ·rename_i e
  exact ⟨fun j hj=>by have:=preB_spec e j (by omega); simpa using this,nodB_spec h⟩
 ·cases h
def cmpK (E:Env) (σ keep:List Nat) (t:List Value) (H:Heap) (k:SK):Prop :=
 match baseOk E.base σ with
 | true=>∀ a:Nat→Value,mapT a σ keep 0 t fun t'=>selH σ H σ fun H'=>k t' H'
 | false=>False
theorem cmp_sound {E:Env} {F:Fr} (hn0:FrE F E) {σ keep:List Nat} {ν:Nu} {t:List Value} {H:Heap} {a:Act} {w:World} {k:SK} (hi:SInv F ν t H a w) (h:cmpK E σ keep t H k) :
  ∃ t' H',k t' H'∧SInv F (ν.comp σ) t' H' a w:=by
 unfold cmpK at h
 split at h
 ·rename_i hb
  obtain ⟨hb1,hb2⟩:=baseOk_spec hb
  obtain ⟨af,haf⟩:=any_fun hi.tm
  obtain ⟨t',h,ht⟩:=mapT_spec (h af) ν _ hi.tm (fun j y hy ν'=>by rw [Nat.zero_add]; exact haf j y hy ν')
  obtain ⟨H',h,hH1,hH⟩:=selH_spec h
  have hcomp:∀ (j s:Nat),σ[j]?=some s→(ν.comp σ) j=ν s:=fun j s hj=>by simp [Nu.comp,hj]
  refine ⟨t',H',h,⟨ht,hi.df,⟨fun j b' hj=>?_,fun i j bi bj li lj hi' hj' hne ho e1 e2=>?_⟩,fun j hj=>?_,hi.kp,fun j b' l hj ho hl=>?_,fun id l hid=>?_⟩⟩
  ·obtain ⟨s,b,h1,h2,h3,h4⟩:=hH j b' hj
   obtain ⟨l,h5,h6⟩:=hi.hp.blk s b h2
   exact ⟨l,by rw [hcomp j s h1]; exact h5,h4 ν l w h6⟩
  ·obtain ⟨s,b,h1,h2,h3,h4⟩:=hH i bi hi'
   obtain ⟨s',b',h1',h2',h3',h4'⟩:=hH j bj hj'
   rw [hcomp i s h1] at e1
   rw [hcomp j s' h1'] at e2
   refine hi.hp.sep s s' b b' li lj h2 h2' (fun e=>hne ?_) (by rw [← h3]; exact ho) e1 e2
   subst e
   exact (List.getElem?_inj (List.getElem?_eq_some_iff.1 h1).1 hb2).1 (h1.trans h1'.symm)
  ·rw [hH1] at hj
   simp [Nu.comp,List.getElem?_eq_none hj]
  ·obtain ⟨s,b,h1,h2,h3,h4⟩:=hH j b' hj
   rw [hcomp j s h1] at hl
   exact hi.own s b l h2 (by rw [← h3]; exact ho) hl
  ·have hlt:id < F.n0:=by
    rcases Nat.lt_or_ge id F.n0 with h | h
    ·exact h
    ·rw [F.fresh id h] at hid; cases hid
   rw [hcomp id id (hb1 id (by have:=hn0.n0; omega))]
   exact hi.mono id l hid
 ·exact h.elim
/-- The state as it is, or without what is not wanted. -/
def endK (E:Env) (t:List Value) (H:Heap) (k:SK):Prop:=k t H∨∃ σ keep,cmpK E σ keep t H k
theorem end_sound {E:Env} {F:Fr} (hn0:FrE F E) {ν:Nu} {t:List Value} {H:Heap} {a:Act} {w:World} {k:SK} (hi:SInv F ν t H a w) (h:endK E t H k) :
  ∃ ν' t' H',k t' H'∧SInv F ν' t' H' a w:=by
 rcases h with h | ⟨σ,keep,h⟩
 ·exact ⟨ν,t,H,h,hi⟩
 ·obtain ⟨t',H',h1,h2⟩:=cmp_sound hn0 hi h
  exact ⟨_,t',H',h1,h2⟩
/-- Some slots hold what is said; of the others nothing is said. -/
inductive Pat:List (Option Value)→List Value→Prop
 | nil:Pat [] []
 | keep {v:Value} {ps:List (Option Value)} {vs:List Value} (h:Pat ps vs):Pat (some v::ps) (v::vs)
 | skip {v:Value} {ps:List (Option Value)} {vs:List Value} (h:Pat ps vs):Pat (none::ps) (v::vs)
theorem Pat.s8 {a b c d e f g i:Value} {ps:List (Option Value)} {vs:List Value} (h:Pat ps vs):Pat (none::none::none::none::none::none::none::none::ps) (a::b::c::d::e::f::g::i::vs):=.skip (.skip (.skip (.skip (.skip (.skip (.skip (.skip h)))))))
def fillP (a:Nat→Value):Nat→List (Option Value)→List Value
 | _,[]=>[]
 | i,some v::ps=>v::fillP a (i+1) ps
 | i,none::ps=>a i::fillP a (i+1) ps
/-- A run of dead slots. -/
def nos (n:Nat) (ps:List (Option Value)):List (Option Value):=match n with
 | 0=>ps
 | n+1=>none::nos n ps
def zs (a:Nat→Value) (i n:Nat) (l:List Value):List Value:=match n with
 | 0=>l
 | n+1=>a i::zs a (i+1) n l
theorem Pat.sk:∀ (n:Nat) {ps:List (Option Value)} {vs:List Value},Pat ps (vs.drop n)→Nat.ble n vs.length=true→Pat (nos n ps) vs
 | 0,_,_,h,_=>h
 | n+1,_,[],_,h=>by simp at h
 | n+1,_,v::vs,h,hn=>.skip (Pat.sk n (vs:=vs) h (by simpa using hn))
theorem pat_fill {ps:List (Option Value)} {vs:List Value} (h:Pat ps vs):∃ a:Nat→Value,vs=fillP a 0 ps:=by
 have key:∀ (ps:List (Option Value)) (vs:List Value),Pat ps vs→∀ i,∃ a:Nat→Value,vs=fillP a i ps:=by
  intro ps vs h
  induction h with
  | nil=>exact fun i=>⟨fun _=>undef,rfl⟩
  | keep h ih=>
   intro i
   obtain ⟨a,ha⟩:=ih (i+1)
   exact ⟨a,by rw [ha]; rfl⟩
  | @skip v ps vs h ih =>
   intro i
   obtain ⟨a,ha⟩:=ih (i+1)
   refine ⟨fun j=>if j=i then v else a j,?_⟩
   have e:∀ (ps:List (Option Value)) (k:Nat),i < k→fillP (fun j=>if j=i then v else a j) k ps=fillP a k ps:=by
    intro ps
    induction ps with
    | nil=>intros; rfl
    | cons p ps ih =>
     intro k hk
     cases p with
     | none=>simp only [fillP,ih (k+1) (by omega),if_neg (show k≠i by omega)]
     | some p=>simp only [fillP,ih (k+1) (by omega)]
   simp only [fillP,e ps (i+1) (by omega),ha,if_true]
 exact key ps vs h 0
end Go.Ae
/- The abstract evaluation of code: regions in the text's order; and that it stands for the model's run. -/
namespace Go.Ae
open Go Go.RowKit
def loudK (E:Env) (o:Oper) (tmps:List Value) (H:Heap) (k:SK) (q:Prop):Prop :=
 match o.op with
 | .store t x y=>storeK E tmps H t x y fun t' H'=>dstK t' o.dst undef fun t''=>k t'' H'
 | .call c=>match c.callee with
  | .builtin .append=>match c.args.toList,c.argTypes.toList with
   | [x,y],[t,t']=>match Nat.beq t t' with
    | true=>appendK E tmps H t x y fun v t1 H1=>dstK t1 o.dst v fun t2=>k t2 H1
    | false=>q
   | _,_=>False
  | .builtin .clear=>match c.args.toList,c.argTypes.toList with
   | [x],[t]=>clearK E tmps H t x fun H1=>dstK tmps o.dst (.tuple #[]) fun t2=>k t2 H1
   | _,_=>False
  | .builtin .copy=>match c.args.toList,c.argTypes.toList with
   | [x,y],[t,_]=>evalK tmps x fun xv=>evalK tmps y fun yv=>copyInK E H t xv yv fun v H1=>dstK tmps o.dst v fun t2=>k t2 H1
   | _,_=>False
  | .value f=>evalK tmps f fun fv=>match fv with
   | .func (.func g) a b=>match E.Ψ g with
    | some G=>evalsK tmps c.args.toList fun vs=>appK a.toList vs fun l=>appK l b.toList fun args=>G args H fun v H'=>dstK tmps o.dst v fun t'=>k t' H'
    | none=>q
   | .func (.yield l) a b=>match a.toList,b.toList,E.ys with
    | [],[],(l',G)::_=>l'=l∧evalsK tmps c.args.toList fun vs=>G vs H fun v H'=>dstK tmps o.dst v fun t'=>k t' H'
    | _,_,_=>False
   | _=>False
  | _=>q
 | _=>q
def execK (E:Env) (o:Oper) (tmps:List Value) (H:Heap) (k:SK):Prop :=
 loudK E o tmps H k (lenK H fun nid=>opQ E o.op tmps H nid fun v nb=>dstK tmps o.dst v fun t'=>newK H nb fun H'=>k t' H')
def stepK (E:Env) (ops:List Oper) (o:Oper) (tmps:List Value) (H:Heap) (k:SK):Prop :=
 match o.guard with
 | none=>execK E o tmps H k
 | some (j,want)=>match (ops[j]?).bind (·.dst) with
  | some d=>getT tmps d fun v=>match v with
   | .bool b=>match want with
    | true=>br b (execK E o tmps H k) (dstK tmps o.dst undef fun t'=>k t' H)
    | false=>br b (dstK tmps o.dst undef fun t'=>k t' H) (execK E o tmps H k)
   | .tuple _=>dstK tmps o.dst undef fun t'=>k t' H
   | _=>False
  | none=>False
def opsK (E:Env) (ops:List Oper):List Oper→List Value→Heap→SK→Prop
 | [],t,H,k=>k t H
 | [o],t,H,k=>stepK E ops o t H k
 | o::p::l,t,H,k=>stepK E ops o t H fun t' H'=>opsK E ops (p::l) t' H' k
theorem opsK_cons {E:Env} {ops l:List Oper} {o:Oper} {t:List Value} {H:Heap} {k:SK} (h:opsK E ops (o::l) t H k):stepK E ops o t H fun t' H'=>opsK E ops l t' H' k:=by
 cases l with
 | nil=>exact h
 | cons p l=>exact h
section
variable {P:Program} {E:Env} {r:Option Nat} {n:Nat} {F:Fr}
/-- Where the blocks lie that may be written. -/
def HeldAt (ν:Nu) (H:Heap) (x:Nat):Prop:=∃ id c l,H[id]?=some (some c)∧c.own=true∧ν id=some l∧x=l.blk
/-- Behind a call. -/
theorem SInv.called {ν ν':Nu} {tmps:List Value} {H H':Heap} {a:Act} {w w':World} (hi:SInv F ν tmps H a w) (hle:ν.le ν') (hH':HRel ν' H' w') (hfr':∀ id,H'.length≤id→ν' id=none)
  (hkp:Kept (HeldAt ν H) w w') (hown:∀ id b l,H'[id]?=some (some b)→b.own=true→ν' id=some l→HeldAt ν H l.blk∨w.heap.size≤l.blk):SInv F ν' tmps H' a w':=by
 have hO:∀ x,HeldAt ν H x→F.O x∨F.W.heap.size≤x:=by
  rintro x ⟨id,c,l,h1,h2,h3,rfl⟩
  exact hi.own id c l h1 h2 h3
 refine ⟨hi.tm.mono hle,keepMarks hi.df fun D hD=>?_,hH',hfr',hi.kp.then hkp hO,fun id b l h5 h6 h7=>(hown id b l h5 h6 h7).elim (hO _) (fun h=>.inr (Nat.le_trans hi.kp.size h)),Nu.le_trans hi.mono hle⟩
 refine (hkp.blk D (Array.getElem?_eq_some_iff.1 hD).1 ?_).trans hD
 rintro ⟨id,c,l,h1,h2,h3,rfl⟩
 obtain ⟨l',h4,hB⟩:=hi.hp.blk id c h1
 rw [h3] at h4; cases h4
 cases hr:c.rc with
 | none =>
  obtain ⟨cur,t,h5,_⟩:=hB.own h2 hr
  rw [h5] at hD; cases hD
 | some r =>
  have:=hB.lr r hr
  rw [this] at hD; cases hD
theorem exec_sound (hE:EnvX P E) (hn0:FrE F E) {o:Oper} {ν:Nu} {tmps:List Value} {H:Heap} {a:Act} {w:World} (hi:SInv F ν tmps H a w) {k:SK}
  (h:execK E o tmps H k) {next:Act→World→Prop} {Q:Exit→Act→World→Prop}
  (hk:∀ ν t' H' a' w',SInv F ν t' H' a' w'→k t' H'→next a' w'):o.wpIn (WF r) n P a w next Q:=by
 have quiet:(lenK H fun nid=>opQ E o.op tmps H nid fun v nb=>dstK tmps o.dst v fun t'=>newK H nb fun H'=>k t' H')→o.wpIn (WF r) n P a w next Q:=by
  intro h
  have h:=lenK_spec h
  obtain ⟨v,nb,hk1,hq⟩:=opQ_sound (P:=P) hE.toEnvOk h
  refine hq o ν a w r n rfl (fun x _=>hi.opRel x) hi.hp (hi.fr _ (Nat.le_refl _)) next Q (fun v' w' ν' hp=>?_)
  have hsome:∀ (k':Heap→Prop),newK H nb k'→∃ H',k' H'∧SInv F ν' tmps H' a w':=fun k' hk'=>hi.quiet hp hk'
  -- first the new block, then the slot
  cases hd:o.dst with
  | none =>
   rw [hd] at hk1
   obtain ⟨H',h1,h2⟩:=hsome _ hk1
   exact hk _ _ _ _ _ h2 h1
  | some d =>
   rw [hd] at hk1
   obtain ⟨h1,h2⟩:=setT_spec hk1
   obtain ⟨H',h3,h4⟩:=hsome _ h2
   refine hk ν' (tmps.set d v) H' _ w' ⟨?_,h4.df,h4.hp,h4.fr,h4.kp,h4.own,h4.mono⟩ h3
   rw [put_tmps]
   exact h4.tm.set hp.val d
 unfold execK loudK at h
 split at h
 ·rename_i t x y ho
  exact store_sound hE.toEnvOk ho hi h hk
 ·rename_i c ho
  split at h
  ·rename_i hc
   split at h
   ·rename_i x y t t' hx ht
    split at h
    ·rename_i hb
     have hb:t=t':=Nat.eq_of_beq_eq_true hb
     subst hb
     obtain ⟨v,v',ν',t1,H1,w1,h,hv,hi',hrun⟩:=append_sound hE.toEnvOk hn0 hi h o.type
     obtain ⟨t2,h,hi2⟩:=hi'.dst hv h
     have hx:c.args=#[x,y]:=Array.ext' hx
     have ht:c.argTypes=#[t,t]:=Array.ext' ht
     exact wpIn_of_run (by simp [ho]) (by simp [execOp,ho,resolve,hc,hx,ht,invoke,builtin,hrun]) next Q (hk _ _ _ _ _ hi2 h)
    ·exact quiet h
   ·exact h.elim
  ·rename_i hc
   split at h
   ·rename_i x t hx ht
    obtain ⟨H1,w1,h,hi',hrun⟩:=clear_sound hE.toEnvOk hi h o.type
    obtain ⟨t2,h,hi2⟩:=hi'.dst (.tuple [] [] rfl (fun i x y hx _=>by simp at hx)) h
    have hx:c.args=#[x]:=Array.ext' hx
    have ht:c.argTypes=#[t]:=Array.ext' ht
    exact wpIn_of_run (by simp [ho]) (by simp [execOp,ho,resolve,hc,hx,ht,invoke,builtin,hrun]) next Q (hk _ _ _ _ _ hi2 h)
   ·exact h.elim
  ·rename_i hc
   split at h
   ·rename_i x y t t2 hx ht
    obtain ⟨xv,h2,hxv⟩:=evalK_spec h (hi.opRel x)
    clear h
    obtain ⟨yv,h,hyv⟩:=evalK_spec h2 (hi.opRel y)
    obtain ⟨v,H1,w1,h,hv,hi',hrun⟩:=copy_sound hE.toEnvOk hi hxv hyv h t2 o.type
    obtain ⟨t2,h,hi2⟩:=hi'.dst hv h
    have hx:c.args=#[x,y]:=Array.ext' hx
    have ht:c.argTypes=#[t,_]:=Array.ext' ht
    exact wpIn_of_run (by simp [ho]) (by simp [execOp,ho,resolve,hc,hx,ht,invoke,builtin,hrun]) next Q (hk _ _ _ _ _ hi2 h)
   ·exact h.elim
  ·rename_i f hc
   have h0:=h
   obtain ⟨fv,h2,hf⟩:=evalK_spec h (hi.opRel f)
   clear h
   split at h2
   ·rename_i g xa ya
    split at h2
    ·rename_i G hG
     obtain ⟨vs,h,hvs⟩:=evalsK_spec h2 (fun z _=>hi.opRel z)
     clear h2
     have h2:=appK_spec (appK_spec h)
     clear h
     have hok:=hE.ft g G hG
     obtain ⟨ys,ys',hfe,h3,h4⟩:=hf.to_func
     have hargs:=(h3.append hvs).append h4
     refine ⟨fun _ _=>trivial,?_⟩
     have hrun:(execOp a.eval o).run P w=.ok (.enter g ⟨(ys++c.args.toList.map a.eval)++ys'⟩) w:=by
      simp only [execOp,ho,resolve,hc,hfe,Deferred.ofValue,Sem.run_bind,Sem.run_pure,Result.andThen_ok,invoke,hok.enters]
      congr 2
      apply Array.ext'
      simp
     rw [Oper.semAt_eq _ _ _ (by simp [ho]),hrun]
     refine ⟨fun h=>by simp [WF,Fence.wide] at h,?_⟩
     have hcall:=hok.calls _ H _ h2 ν _ w (n - 1) (HeldAt ν H) hargs hi.hp hi.fr (fun id b l h5 h6 h7=>⟨id,b,l,h5,h6,h7,rfl⟩)
     have hcall':CallsIn (WF r) (n - 1) P g ⟨(ys++c.args.toList.map a.eval)++ys'⟩ w _:=hcall
     refine hcall'.mono ?_
     rintro e w' ⟨v,v',ν',H',rfl,h,hv,hle,hH',hfr',hkp,hown⟩
     have hi':SInv F ν' tmps H' a w':=hi.called hle hH' hfr' hkp hown
     obtain ⟨t',h,hi2⟩:=hi'.dst hv h
     exact hk _ _ _ _ _ hi2 h
    ·exact quiet h2
   ·rename_i l xa ya
    split at h2
    ·rename_i l' G rest hxa hya hys
     obtain ⟨rfl,h2⟩:=h2
     obtain ⟨vs,h2,hvs⟩:=evalsK_spec h2 (fun z _=>hi.opRel z)
     obtain ⟨ys,ys',hfe,h3,h4⟩:=hf.to_func
     rw [hxa] at h3; rw [hya] at h4
     have e1:=h3.nil_inv
     have e2:=h4.nil_inv
     subst e1; subst e2
     obtain ⟨fn,tm,asg,body,hy,hround⟩:=hE.ys l' G rest hys _ H _ h2 ν _ w (n - 1) (HeldAt ν H) (Nu.le_trans hn0.nu hi.mono) hvs hi.hp hi.fr (fun id b l h5 h6 h7=>⟨id,b,l,h5,h6,h7,rfl⟩)
     refine ⟨fun _ _=>trivial,?_⟩
     have hrun:(execOp a.eval o).run P w=.ok (.round l' fn tm asg body) w:=by
      simp only [execOp,ho,resolve,hc,hfe,Deferred.ofValue,Sem.run_bind,Sem.run_pure,Result.andThen_ok,invoke]
      have e:(⟨List.map a.eval c.args.toList⟩:Array Value)=Array.map a.eval c.args:=Array.ext' (by simp)
      rw [e] at hy
      simpa using hy
     rw [Oper.semAt_eq _ _ _ (by simp [ho]),hrun]
     refine ⟨fun h=>by simp [WF,Fence.wide] at h,?_⟩
     have hround':RoundIn (WF r) (n - 1) P l' fn tm asg body w _:=hround
     refine hround'.mono ?_
     rintro e w' ⟨v,v',ν',H',rfl,h,hv,hle,hH',hfr',hkp,hown⟩
     have hi':SInv F ν' tmps H' a w':=hi.called hle hH' hfr' hkp hown
     obtain ⟨t',h,hi2⟩:=hi'.dst hv h
     exact hk _ _ _ _ _ hi2 h
    ·exact h2.elim
   ·exact h2.elim
  ·exact quiet h
 ·exact quiet h
theorem yielded_of {ops:Array Oper} {tmps:Array Value} {j:Nat} {d:Tmp} (hd:(ops[j]?).bind (·.dst)=some d):yielded ops tmps j=match tmps[d]? with | some (.bool b)=>some b | _=>none:=by
 unfold yielded
 rw [hd]
 rfl
theorem step_sound (hE:EnvX P E) (hn0:FrE F E) {ops:Array Oper} {o:Oper} {ν:Nu} {tmps:List Value} {H:Heap} {a:Act} {w:World} (hi:SInv F ν tmps H a w) {k:SK}
  (h:stepK E ops.toList o tmps H k) {next:Act→World→Prop} {Q:Exit→Act→World→Prop}
  (hk:∀ ν t' H' a' w',SInv F ν t' H' a' w'→k t' H'→next a' w') :
  if Region.wanted o (yielded ops a.tmps) then o.wpIn (WF r) n P a w next Q else (∀ f,o.about P w a.eval=some f→(WF r).fn f)∧next (a.put o.dst undef) w:=by
 unfold stepK at h
 have skip:(dstK tmps o.dst undef fun t'=>k t' H)→(∀ f,o.about P w a.eval=some f→(WF r).fn f)∧next (a.put o.dst undef) w:=fun h=>by
  obtain ⟨t',h1,h2⟩:=hi.dst (.undef ν) h
  exact ⟨fun _ _=>trivial,hk _ _ _ _ _ h2 h1⟩
 split at h
 ·rename_i hg
  have:Region.wanted o (yielded ops a.tmps)=true:=by simp [Region.wanted,hg]
  rw [if_pos this]
  exact exec_sound hE hn0 hi h hk
 ·rename_i j want hg
  split at h
  ·rename_i d hd
   have hd':(ops[j]?).bind (·.dst)=some d:=by simpa using hd
   obtain ⟨v,hv,h⟩:=getT_spec h
   obtain ⟨v',hv',hr⟩:=hi.tm.get hv
   have hv'':a.tmps[d]?=some v':=by simpa using hv'
   have hy:=yielded_of (tmps:=a.tmps) hd'
   rw [hv''] at hy
   split at h
   ·rename_i b
    have:=hr.to_bool
    subst this
    have hw:Region.wanted o (yielded ops a.tmps)=(b == want):=by
     simp only [Region.wanted,hg,hy]
     cases b <;> cases want <;> rfl
    rw [hw]
    cases want <;> cases b <;> first | exact exec_sound hE hn0 hi h hk | exact skip h
   ·rename_i vs
    obtain ⟨ys,rfl,_⟩:=VRel.to_tuple (xs:=vs.toList) hr
    have hw:Region.wanted o (yielded ops a.tmps)=false:=by
     simp only [Region.wanted,hg,hy]
     rfl
    rw [hw]
    simp only [Bool.false_eq_true,if_false]
    exact skip h
   ·exact h.elim
  ·exact h.elim
theorem ops_sound (hE:EnvX P E) (hn0:FrE F E) {ops:Array Oper} {Q:Exit→Act→World→Prop}:∀ {l:List Oper} {idx:List Nat} {ν:Nu} {tmps:List Value} {H:Heap} {a:Act} {w:World} {k:SK},
  idx.map (ops[·]?)=l.map some→SInv F ν tmps H a w→opsK E ops.toList l tmps H k→(∀ ν t' H' a' w',SInv F ν t' H' a' w'→k t' H'→Q .normal a' w')→wpOpsIn (WF r) n P ops Q idx a w
 | [],idx,ν,tmps,H,a,w,k,he,hi,h,hk=>by
  have:idx=[]:=by cases idx with
   | nil=>rfl
   | cons=>simp at he
  subst this
  exact hk _ _ _ _ _ hi h
 | o::l,idx,ν,tmps,H,a,w,k,he,hi,h,hk=>by
  cases idx with
  | nil=>simp at he
  | cons i idx =>
   simp only [List.map_cons,List.cons.injEq] at he
   simp only [wpOpsIn,he.1]
   exact step_sound hE hn0 hi (opsK_cons h) (fun ν t' H' a' w' hi' h'=>ops_sound hE hn0 he.2 hi' h' hk)
theorem region_sound (hE:EnvX P E) (hn0:FrE F E) {ops:Array Oper} {Q:Exit→Act→World→Prop} {id:Nat} {ν:Nu} {tmps:List Value} {H:Heap} {a:Act} {w:World} {k:SK}
  (hi:SInv F ν tmps H a w) (h:opsK E ops.toList ops.toList tmps H k) (hk:∀ ν t' H' a' w',SInv F ν t' H' a' w'→k t' H'→Q .normal a' w'):(Code.region id ops false).wpIn (WF r) n P Q a w:=by
 refine wpIn_region (ops_sound hE hn0 ?_ hi h hk)
 apply List.ext_getElem?
 intro i
 simp only [List.getElem?_map,List.getElem?_range,Array.getElem?_toList]
 by_cases hlt:i < ops.size
 ·simp [hlt]
 ·simp [hlt]
end
end Go.Ae
/- The abstract evaluation of a function's body, and contracts out of it. -/
namespace Go.Ae
open Go Go.RowKit
abbrev XK:=Nat→List Value→Heap→Prop
/-- Rounds of a loop, a bounded number of them. -/
def roundsK (body:List Value→Heap→SK→Prop):Nat→List Value→Heap→Prop
 | 0,_,_=>False
 | m+1,t,H=>body t H (roundsK body m)
def setsK:List Value→List Nat→List Value→(List Value→Prop)→Prop
 | t,[],[],k=>k t
 | t,p::ps,x::xs,k=>setT t p x fun t'=>setsK t' ps xs k
 | _,_,_,_=>False
theorem setsK_spec:∀ {t:List Value} {ps:List Nat} {xs:List Value} {k:List Value→Prop},setsK t ps xs k→ps.length=xs.length∧∃ t1,k t1∧∀ (ν:Nu) (a:Array Value) (as:List Value),LRel ν t a.toList→LRel ν xs as→LRel ν t1 ((ps.zip as).foldl (fun t (p,v)=>t.setIfInBounds p v) a).toList
 | t,[],[],k,h=>⟨rfl,t,h,fun ν a as ha hx=>ha⟩
 | t,p::ps,x::xs,k,h=>by
  obtain ⟨hlt,h⟩:=setT_spec h
  obtain ⟨h1,t1,h2,h3⟩:=setsK_spec h
  refine ⟨by simp [h1],t1,h2,fun ν a as ha hx=>?_⟩
  obtain ⟨y,ys,rfl,k1,k2⟩:=hx.uncons
  refine h3 ν (a.setIfInBounds p y) ys ?_ k2
  rw [Array.toList_setIfInBounds]
  exact ha.set k1 p
 | _,[],_::_,_,h=>h.elim
 | _,_::_,[],_,h=>h.elim
def lrecK (H:Heap) (id:Nat) (k:Loop→Prop):Prop :=
 blkK H id fun b=>match b with
  | .lrec r=>k r
  | _=>False
/-- The end of a round: the record, and what yield answers. -/
def endRK (R:LoopState→Option Code→Loop) (γ:Nat) (jump:Option Code) (K:Value→Heap→Prop) (H:Heap):Prop :=
 lrecK H γ fun r=>r=R .busy none∧setB H γ (some (.lrec (R (match jump with | none=>.ready | some _=>.done) jump))) fun H'=>K (.bool (match jump with | none=>true | some _=>false)) H'
/-- Behind the iterator. -/
def afterK (R:LoopState→Option Code→Loop) (γ:Nat) (t:List Value) (kn:SK) (kx:XK) (kr:SK) (H:Heap):Prop :=
 lrecK H γ fun r=>setB H γ none fun H'=>match r.state,r.pending with
  | .busy,_=>False
  | _,none=>kn t H'
  | _,some (.exit i)=>kx i t H'
  | _,some .ret=>kr t H'
  | _,_=>False
def vc:Env→(Env→List Oper→List Value→Heap→SK→Prop)→Code→List Value→Heap→SK→XK→SK→Prop
 | _,_,.skip,t,H,kn,_,_=>kn t H
 | E,_,.region _ ops false,t,H,kn,_,_=>opsK E ops.toList ops.toList t H kn
 | E,D,.region _ ops true,t,H,kn,_,_=>D E ops.toList t H kn
 | E,D,.seq a b,t,H,kn,kx,kr=>vc E D a t H (fun t H=>vc E D b t H kn kx kr) kx kr
 | E,D,.cond c x y,t,H,kn,kx,kr=>evalK t c fun v=>match v with
  | .bool b=>br b (vc E D x t H kn kx kr) (vc E D y t H kn kx kr)
  | _=>False
 | E,D,.block id c,t,H,kn,kx,kr=>vc E D c t H kn (fun i t H=>match Nat.beq i id with | true=>kn t H | false=>kx i t H) kr
 | _,_,.exit id,t,H,_,kx,_=>kx id t H
 | _,_,.ret,t,H,_,_,kr=>kr t H
 | E,D,.loop c,t,H,_,kx,kr =>
  (∃ I:Nat→List Value→Heap→Prop,(endK E t H fun t H=>∃ n,I n t H)∧∀ n t H,I n t H→vc E D c t H (fun t H=>endK E t H fun t H=>∃ m,m < n∧I m t H) kx kr) ∨
  (∃ m,roundsK (fun t H k=>vc E D c t H k kx kr) m t H)
 | E,D,.rangeFunc g ps assign body,t,H,kn,kx,kr=>match E.rd with
  | true=>False
  | false=>evalK t g fun gv=>match gv with
   | .func (.func f) a b=>match a.toList,E.It f with
    | [],some I=>∀ (l:Nat) (nu:Nu) (fn:FuncId) (tm:Array Value) (df:Nat),lenK H fun γ=>pushB H (some (.lrec ⟨.ready,none,fn,tm,ps,assign,body,df⟩)) fun H1 =>
     I l (fun args H K=>lrecK H γ fun r=>r=⟨.ready,none,fn,tm,ps,assign,body,df⟩∧setsK t ps.toList args fun t1=>lenK H fun n0 =>
       vc { E with base:=n0,rd:=true } D assign t1 H (fun t2 H2=>lrecK H2 γ fun r2=>r2=⟨.ready,none,fn,tm,ps,assign,body,df⟩∧setB H2 γ (some (.lrec ⟨.busy,none,fn,tm,ps,assign,body,df⟩)) fun H3 =>
         vc { E with base:=n0,rd:=true } D body t2 H3 (fun _ H4=>endRK (fun s p=>⟨s,p,fn,tm,ps,assign,body,df⟩) γ none K H4) (fun i _ H4=>endRK (fun s p=>⟨s,p,fn,tm,ps,assign,body,df⟩) γ (some (.exit i)) K H4)
          (fun _ H4=>endRK (fun s p=>⟨s,p,fn,tm,ps,assign,body,df⟩) γ (some .ret) K H4))
        (fun _ _ _=>False) (fun _ _=>False))
      nu (.func (.yield l) #[] #[]::b.toList) H1 fun _ H2=>afterK (fun s p=>⟨s,p,fn,tm,ps,assign,body,df⟩) γ t kn kx kr H2
    | _,_=>False
   | _=>False
 | _,_,_,_,_,_,_,_=>False
def resultsK (E:Env) (H:Heap) (tmps:List Value):List ResultVar→(List Value→Prop)→Prop
 | [],k=>k []
 | .tmp t::l,k=>getT tmps t fun v=>resultsK E H tmps l fun vs=>k (v::vs)
 | .cell a t::l,k=>getT tmps a fun av=>match av with
  | .pointer (some ⟨id,row,sp⟩)=>tyK E.tt t fun ti=>blkK H id fun b=>rowK b row fun cs=>takeK cs (sp.getD 0) ti.size fun us=>resultsK E H tmps l fun vs=>k (valOf ti.agg us::vs)
  | _=>False
def tupK (vs:List Value) (k:Value→Prop):Prop :=
 match vs with
 | [v]=>k v
 | vs=>k (.tuple ⟨vs⟩)
/-- A value without addresses, two levels deep. -/
def plain1:Value→Bool
 | .bool _ | .int _ _ | .string _ | .pointer none | .nilFunc=>true
 | .agg cs=>allScal cs.toList
 | .func _ a b=>a.toList.isEmpty && b.toList.isEmpty
 | _=>false
def allPlain1:List Value→Bool
 | []=>true
 | v::l=>plain1 v && allPlain1 l
def plain2:Value→Bool
 | .tuple vs=>allPlain1 vs.toList
 | .func _ a b=>allPlain1 a.toList && allPlain1 b.toList
 | v=>plain1 v
theorem LRel.self_scal {ν:Nu}:∀ {l:List Value},allScal l=true→LRel ν l l
 | [],_=>.nil ν
 | v::l,h=>by
  simp only [allScal,Bool.and_eq_true] at h
  exact .cons (VRel.scal_self h.1) (LRel.self_scal h.2)
theorem plain1_spec {v:Value} (h:plain1 v=true):(∀ ν,VRel ν v v)∧∀ ν w,VRel ν v w→w=v:=by
 cases v with
 | bool b=>exact ⟨fun ν=>.bool b,fun ν w hw=>hw.to_bool⟩
 | int k n=>exact ⟨fun ν=>.int k n,fun ν w hw=>hw.to_int⟩
 | string s=>exact ⟨fun ν=>.str s,fun ν w hw=>hw.to_str⟩
 | pointer a =>
  cases a with
  | none=>exact ⟨fun ν=>.pnil,fun ν w hw=>by cases hw; rfl⟩
  | some a=>simp [plain1] at h
 | nilFunc=>exact ⟨fun ν=>.fnil,fun ν w hw=>by cases hw; rfl⟩
 | agg cs =>
  have h':allScal cs.toList=true:=h
  refine ⟨fun ν=>?_,fun ν w hw=>?_⟩
  ·have:=LRel.self_scal (ν:=ν) h'
   exact .agg _ _ this.1 this.2
  ·obtain ⟨ys,rfl,hy⟩:=VRel.to_agg (xs:=cs.toList) hw
   rw [LRel.of_scal (allScal_spec h') hy]
 | func fn a b =>
  simp only [plain1,Bool.and_eq_true,List.isEmpty_iff] at h
  refine ⟨fun ν=>?_,fun ν w hw=>?_⟩
  ·have e1:a=⟨[]⟩:=Array.ext' h.1
   have e2:b=⟨[]⟩:=Array.ext' h.2
   subst e1; subst e2
   exact .func fn [] [] [] [] rfl (fun i x y hx _=>by simp at hx) rfl (fun i x y hx _=>by simp at hx)
  ·obtain ⟨ys,ys',rfl,h1,h2⟩:=hw.to_func
   rw [h.1] at h1; rw [h.2] at h2
   rw [h1.nil_inv,h2.nil_inv]
   rw [Array.ext' (xs:=a) (ys:=⟨[]⟩) h.1,Array.ext' (xs:=b) (ys:=⟨[]⟩) h.2]
 | _=>simp [plain1] at h
theorem allPlain1_spec:∀ {l:List Value},allPlain1 l=true→(∀ ν,LRel ν l l)∧∀ ν m,LRel ν l m→m=l
 | [],_=>⟨fun ν=>.nil ν,fun ν m hm=>hm.nil_inv⟩
 | v::l,h=>by
  simp only [allPlain1,Bool.and_eq_true] at h
  obtain ⟨h1,h2⟩:=plain1_spec h.1
  obtain ⟨h3,h4⟩:=allPlain1_spec h.2
  refine ⟨fun ν=>.cons (h1 ν) (h3 ν),fun ν m hm=>?_⟩
  obtain ⟨y,ys,rfl,k1,k2⟩:=hm.uncons
  rw [h2 ν y k1,h4 ν ys k2]
theorem plain2_spec {v:Value} (h:plain2 v=true):(∀ ν,VRel ν v v)∧∀ ν w,VRel ν v w→w=v:=by
 cases v with
 | tuple vs =>
  have h':allPlain1 vs.toList=true:=h
  obtain ⟨h1,h2⟩:=allPlain1_spec h'
  refine ⟨fun ν=>.tuple _ _ (h1 ν).1 (h1 ν).2,fun ν w hw=>?_⟩
  obtain ⟨ys,rfl,hy⟩:=VRel.to_tuple (xs:=vs.toList) hw
  rw [h2 ν ys hy]
 | func fn a b =>
  simp only [plain2,Bool.and_eq_true] at h
  obtain ⟨h1,h2⟩:=allPlain1_spec h.1
  obtain ⟨h3,h4⟩:=allPlain1_spec h.2
  refine ⟨fun ν=>.func fn _ _ _ _ (h1 ν).1 (h1 ν).2 (h3 ν).1 (h3 ν).2,fun ν w hw=>?_⟩
  obtain ⟨ys,ys',rfl,k1,k2⟩:=hw.to_func
  rw [h2 ν ys k1,h4 ν ys' k2]
 | _=>exact plain1_spec h
def allPlain2:List Value→Bool
 | []=>true
 | v::l=>plain2 v && allPlain2 l
theorem allPlain2_spec:∀ {l:List Value},allPlain2 l=true→(∀ ν,LRel ν l l)∧∀ ν m,LRel ν l m→m=l
 | [],_=>⟨fun ν=>.nil ν,fun ν m hm=>hm.nil_inv⟩
 | v::l,h=>by
  simp only [allPlain2,Bool.and_eq_true] at h
  obtain ⟨h1,h2⟩:=plain2_spec h.1
  obtain ⟨h3,h4⟩:=allPlain2_spec h.2
  refine ⟨fun ν=>.cons (h1 ν) (h3 ν),fun ν m hm=>?_⟩
  obtain ⟨y,ys,rfl,k1,k2⟩:=hm.uncons
  rw [h2 ν y k1,h4 ν ys k2]
/-- How a region that draws its order may be evaluated. -/
def DOk (P:Program) (D:Env→List Oper→List Value→Heap→SK→Prop):Prop :=
 ∀ (E:Env),EnvX P E→∀ (r:Option Nat) (n:Nat) (F:Fr),FrE F E→∀ (ops:Array Oper) (Q:Exit→Act→World→Prop) (id:Nat) (ν:Nu) (tmps:List Value) (H:Heap) (a:Act) (w:World) (k:SK),
  SInv F ν tmps H a w→D E ops.toList tmps H k→(∀ ν t' H' a' w',SInv F ν t' H' a' w'→k t' H'→Q .normal a' w')→(Code.region id ops true).wpIn (WF r) n P Q a w
section
variable {P:Program} {E:Env} {r:Option Nat} {n:Nat} {F:Fr} {D:Env→List Oper→List Value→Heap→SK→Prop}
/-- The record turns. -/
theorem SInv.turnRec {F:Fr} {ν:Nu} {t:List Value} {H:Heap} {a:Act} {w:World} (hi:SInv F ν t H a w) {γ:Nat} {r:Loop} {l:Loc} (r':Loop) (hb:H[γ]?=some (some (.lrec r))) (hl:ν γ=some l) :
  SInv F ν t (H.set γ (some (.lrec r'))) a (w.putObj l.blk (.loop r')):=by
 have hlt:γ < H.length:=(List.getElem?_eq_some_iff.1 hb).1
 obtain ⟨l',hl',hB⟩:=hi.hp.blk γ _ hb
 rw [hl] at hl'; cases hl'
 have hrec:=hB.lr r rfl
 have hw:l.blk < w.heap.size:=(Array.getElem?_eq_some_iff.1 hrec).1
 have hset:∀ (id:Nat) (b:Blk),(H.set γ (some (.lrec r')))[id]?=some (some b)→(id=γ∧b=.lrec r')∨(id≠γ∧H[id]?=some (some b)):=fun id b h=>by
  by_cases e:id=γ
  ·subst e; rw [List.getElem?_set_self hlt] at h; cases h; exact .inl ⟨rfl,rfl⟩
  ·rw [List.getElem?_set_ne (Ne.symm e)] at h; exact .inr ⟨e,h⟩
 refine ⟨hi.tm,keepMarks hi.df fun D hD=>(World.putObj_heap_other (fun e=>by rw [e,hrec] at hD; cases hD)).trans hD,⟨fun id b h=>?_,fun i j bi bj li lj h1 h2 hne ho e1 e2=>?_⟩,fun id hid=>hi.fr id (by simpa using hid),
  hi.kp.then (O':=fun x=>x=l.blk) ⟨rfl,rfl,rfl,by simp,fun b h1 h2=>World.putObj_heap_other h2⟩ (fun b hb'=>by subst hb'; exact hi.own γ _ _ hb rfl hl),fun id b l' h ho hl'=>?_,hi.mono⟩
 ·rcases hset id b h with ⟨rfl,rfl⟩ | ⟨hne,h⟩
  ·exact ⟨l,hl,hB.esz,fun r hr=>absurd hr (Nat.not_lt_zero r),fun r hr=>absurd hr (Nat.not_lt_zero r),(fun h=>nomatch h),fun r hr=>absurd hr (Nat.not_lt_zero r),(fun _ h=>nomatch h),fun r hr=>by cases hr; exact World.putObj_heap_same hw,by simpa using hw⟩
  ·obtain ⟨l',hl',hB'⟩:=hi.hp.blk id b h
   exact ⟨l',hl',hB'.same (World.putObj_heap_other (Ne.symm (hi.hp.sep γ id _ b l l' hb h (Ne.symm hne) rfl hl hl'))) (by simp)⟩
 ·rcases hset i bi h1 with ⟨rfl,rfl⟩ | ⟨hni,g1⟩ <;> rcases hset j bj h2 with ⟨rfl,rfl⟩ | ⟨hnj,g2⟩
  ·exact absurd rfl hne
  ·exact hi.hp.sep _ j _ bj li lj hb g2 hne rfl e1 e2
  ·exact hi.hp.sep i _ bi _ li lj g1 hb hne ho e1 e2
  ·exact hi.hp.sep i j bi bj li lj g1 g2 hne ho e1 e2
 ·rcases hset id b h with ⟨rfl,rfl⟩ | ⟨hne,h⟩
  ·exact hi.own _ _ _ hb rfl hl'
  ·exact hi.own id b l' h ho hl'
theorem vc_sound (hD:DOk P D):∀ (c:Code) {E:Env} {r:Option Nat} {n:Nat} {F:Fr},EnvX P E→FrE F E→(E.rd=false→r=none)→∀ {ν:Nu} {t:List Value} {H:Heap} {a:Act} {w:World} {kn:SK} {kx:XK} {kr:SK} {Q:Exit→Act→World→Prop},
  SInv F ν t H a w→vc E D c t H kn kx kr→(∀ ν t H a w,SInv F ν t H a w→kn t H→Q .normal a w)→(∀ i ν t H a w,SInv F ν t H a w→kx i t H→Q (.exit i) a w) →
  (∀ ν t H a w,SInv F ν t H a w→kr t H→Q .ret a w)→c.wpIn (WF r) n P Q a w:=by
 intro c
 induction c with
 | skip=>exact fun hE hn0 hrd=>fun hi h hn _ _=>wpIn_skip (hn _ _ _ _ _ hi h)
 | region id ops d =>
  intro E r n F hE hn0 hrd ν t H a w kn kx kr Q hi h hn _ _
  cases d with
  | false=>exact region_sound hE hn0 hi h hn
  | true=>exact hD E hE r n F hn0 ops Q id ν t H a w kn hi h hn
 | seq x y ihx ihy =>
  intro E r n F hE hn0 hrd ν t H a w kn kx kr Q hi h hn hx hr
  exact wpIn_seq (ihx hE hn0 hrd hi h (fun ν t H a w hi' h'=>ihy hE hn0 hrd hi' h' hn hx hr) hx hr)
 | cond c x y ihx ihy =>
  intro E r n F hE hn0 hrd ν t H a w kn kx kr Q hi h hn hx hr
  obtain ⟨v,h,hv⟩:=evalK_spec h (hi.opRel c)
  split at h
  ·rename_i b
   have hb:=hv.to_bool
   exact wpIn_cond_split hb (fun e=>ihx hE hn0 hrd hi (br_true h e) hn hx hr) (fun e=>ihy hE hn0 hrd hi (br_false h e) hn hx hr)
  ·exact h.elim
 | block id c ih =>
  intro E r n F hE hn0 hrd ν t H a w kn kx kr Q hi h hn hx hr
  refine wpIn_block (ih hE hn0 hrd hi h hn (fun i ν t H a w hi' h'=>?_) hr)
  simp only [Exit.inBlock]
  split at h'
  ·rename_i e
   rw [if_pos (Nat.eq_of_beq_eq_true e)]; exact hn _ _ _ _ _ hi' h'
  ·rename_i e
   rw [if_neg (Nat.ne_of_beq_eq_false e)]; exact hx _ _ _ _ _ _ hi' h'
 | loop c ih =>
  intro E r n F hE hn0 hrd ν t H a w kn kx kr Q hi h hn hx hr
  rcases h with ⟨I,h00,hstep⟩ | ⟨m,hm⟩
  ·-- by an invariant
   obtain ⟨ν,t,H,⟨m0,h0⟩,hi⟩:=end_sound hn0 hi h00
   have key:∀ (m:Nat) ν t H a w,SInv F ν t H a w→I m t H→∀ (b:Frame) (k:List Item) (cs:List Frame),b.roundOf=(WF r).round→(WF r).fn b.fn→(WF r).room (cs.length+1+n) →
     ∃ e a' w',Q e a' w'∧ArrivesIn (Machine.fenced P (WF r)) P (lone (b.atR a (.code c::.inLoop c::k)) cs w) b k cs e a' w':=by
    intro m
    induction m using Nat.strongRecOn with
    | _ m ihm =>
     intro ν t H a w hi hI b k cs hro hb hroom
     have:=ih hE hn0 hrd (Q:=fun e a w=>match e with | .normal=>∃ m' ν t H,m' < m∧SInv F ν t H a w∧I m' t H | e=>Q e a w) hi (hstep m t H hI)
      (fun ν t H a w hi' h'=>let ⟨ν2,t2,H2,⟨m',hlt,hI'⟩,hi2⟩:=end_sound hn0 hi' h'; ⟨m',ν2,t2,H2,hlt,hi2,hI'⟩) hx hr b (.inLoop c::k) cs hro hb hroom
     obtain ⟨e,a₁,w₁,hq,harr⟩:=this
     cases e with
     | normal =>
      obtain ⟨m',ν',t',H',hlt,hi',hI'⟩:=hq
      obtain ⟨e₂,a₂,w₂,hq₂,harr₂⟩:=ihm m' hlt ν' t' H' a₁ w₁ hi' hI' b k cs hro hb hroom
      exact ⟨e₂,a₂,w₂,hq₂,.of_steps (StepsIn.trans harr (.one (fenced_calm hb hroom rfl) stepR_inLoop)) harr₂⟩
     | exit id=>exact ⟨_,a₁,w₁,hq,.pass (x:=.inLoop c) rfl (fun _ _=>.inl (by simp)) harr⟩
     | goto l=>exact ⟨_,a₁,w₁,hq,.pass (x:=.inLoop c) rfl (fun _ _=>.inl (by simp)) harr⟩
     | ret=>exact ⟨_,a₁,w₁,hq,.pass (x:=.inLoop c) rfl (fun _ _=>.inl (by simp)) harr⟩
     | panic ch=>exact ⟨_,a₁,w₁,hq,.pass (x:=.inLoop c) rfl (fun _ _=>.inl (by simp)) harr⟩
     | outgrown=>exact ⟨_,a₁,w₁,hq,.pass (x:=.inLoop c) rfl (fun _ _=>.inl (by simp)) harr⟩
   intro b k cs hro hb hroom
   obtain ⟨e,a',w',hq,harr⟩:=key m0 ν t H a w hi h0 b k cs hro hb hroom
   exact ⟨e,a',w',hq,.of_steps (.one (fenced_calm hb hroom rfl) stepR_loop) harr⟩
  ·-- round by round
   have key:∀ (m:Nat) ν t H a w,SInv F ν t H a w→roundsK (fun t H k=>vc E D c t H k kx kr) m t H→∀ (b:Frame) (k:List Item) (cs:List Frame),b.roundOf=(WF r).round→(WF r).fn b.fn→(WF r).room (cs.length+1+n) →
     ∃ e a' w',Q e a' w'∧ArrivesIn (Machine.fenced P (WF r)) P (lone (b.atR a (.code c::.inLoop c::k)) cs w) b k cs e a' w':=by
    intro m
    induction m with
    | zero=>exact fun ν t H a w _ h=>h.elim
    | succ m ihm =>
     intro ν t H a w hi hI b k cs hro hb hroom
     have:=ih hE hn0 hrd (Q:=fun e a w=>match e with | .normal=>∃ ν t H,SInv F ν t H a w∧roundsK (fun t H k=>vc E D c t H k kx kr) m t H | e=>Q e a w) hi hI
      (fun ν t H a w hi' h'=>⟨ν,t,H,hi',h'⟩) hx hr b (.inLoop c::k) cs hro hb hroom
     obtain ⟨e,a₁,w₁,hq,harr⟩:=this
     cases e with
     | normal =>
      obtain ⟨ν',t',H',hi',hI'⟩:=hq
      obtain ⟨e₂,a₂,w₂,hq₂,harr₂⟩:=ihm ν' t' H' a₁ w₁ hi' hI' b k cs hro hb hroom
      exact ⟨e₂,a₂,w₂,hq₂,.of_steps (StepsIn.trans harr (.one (fenced_calm hb hroom rfl) stepR_inLoop)) harr₂⟩
     | exit id=>exact ⟨_,a₁,w₁,hq,.pass (x:=.inLoop c) rfl (fun _ _=>.inl (by simp)) harr⟩
     | goto l=>exact ⟨_,a₁,w₁,hq,.pass (x:=.inLoop c) rfl (fun _ _=>.inl (by simp)) harr⟩
     | ret=>exact ⟨_,a₁,w₁,hq,.pass (x:=.inLoop c) rfl (fun _ _=>.inl (by simp)) harr⟩
     | panic ch=>exact ⟨_,a₁,w₁,hq,.pass (x:=.inLoop c) rfl (fun _ _=>.inl (by simp)) harr⟩
     | outgrown=>exact ⟨_,a₁,w₁,hq,.pass (x:=.inLoop c) rfl (fun _ _=>.inl (by simp)) harr⟩
   intro b k cs hro hb hroom
   obtain ⟨e,a',w',hq,harr⟩:=key m ν t H a w hi hm b k cs hro hb hroom
   exact ⟨e,a',w',hq,.of_steps (.one (fenced_calm hb hroom rfl) stepR_loop) harr⟩
 | exit id=>exact fun hE hn0 hrd=>fun hi h _ hx _=>wpIn_exit (hx _ _ _ _ _ _ hi h)
 | ret=>exact fun hE hn0 hrd=>fun hi h _ _ hr=>wpIn_ret (hr _ _ _ _ _ hi h)
 | rangeFunc g ps assign body iha ihb =>
  intro E r n F hE hn0 hrd ν t H a w kn kx kr Q hi h hn hx hr
  unfold vc at h
  split at h
  ·exact h.elim
  rename_i hrd0
  obtain rfl:=hrd hrd0
  obtain ⟨gv,h,hg⟩:=evalK_spec h (hi.opRel g)
  split at h
  ·rename_i f xa ya
   split at h
   ·rename_i I hxa hI
    obtain ⟨zs,zs',hge,hz,hz'⟩:=hg.to_func
    rw [hxa] at hz
    have hz0:=hz.nil_inv
    subst hz0
    have hit:=hE.its f I hI
    refine wpIn_rangeFunc ?_
    intro fn hfn
    obtain ⟨W1,hW1⟩:∃ W1,W1=(w.alloc (.deferred (some []))).alloc (.loop { state:=.ready,pending:=none,fn,tmps:=a.tmps,params:=ps,assign,body,defers:=w.heap.size }):=⟨_,rfl⟩
    refine ⟨w.heap.size+1,[{ target:=.collected w.heap.size,args:=#[] }],W1,{ target:=.fn (.func f) ⟨zs'⟩,args:=#[.func (.yield (w.heap.size+1)) #[] #[]] },W1,f,
     #[.func (.yield (w.heap.size+1)) #[] #[]]++⟨zs'⟩,W1,by rw [hW1]; exact run_enterLoop_outer _ _ _ _ _,?_,fun _ _=>trivial,?_,fun h=>by simp [WF,Fence.wide] at h,?_⟩
    ·simp only [resolve,hge]
     simp [go_sem]
    ·simp [invoke,go_sem,hit.enters]
    -- the record's block
    have hnone:ν H.length=none:=hi.fr _ (Nat.le_refl _)
    obtain ⟨ν1,hν1⟩:∃ ν1,ν1=ν.add H.length ⟨w.heap.size+1,0,0,0⟩:=⟨_,rfl⟩
    have hle1:ν.le ν1:=by rw [hν1]; exact Nu.le_add hnone
    have h:=pushB_spec (lenK_spec (h (w.heap.size+1) ν1 fn a.tmps w.heap.size))
    have hbel:Below w.heap.size w W1:=by
     rw [hW1]; exact ((Below.refl _ w).alloc (Nat.le_refl _) _).alloc (by simp) _
    have hsz:W1.heap.size=w.heap.size+2:=by rw [hW1]; simp
    have hrec:W1.heap[w.heap.size+1]?=some (.loop { state:=.ready,pending:=none,fn,tmps:=a.tmps,params:=ps,assign,body,defers:=w.heap.size }):=by
     rw [hW1]; have:=World.alloc_heap_new (w.alloc (.deferred (some []))) (.loop { state:=.ready,pending:=none,fn,tmps:=a.tmps,params:=ps,assign,body,defers:=w.heap.size }); rwa [World.size_alloc] at this
    have hmark:W1.heap[w.heap.size]?=some (.deferred (some [])):=by
     rw [hW1]; exact (Below.heap_alloc _ _ _ (by simp)).trans (World.alloc_heap_new w _)
    have hH1:HRel ν1 (H++[some (.lrec { state:=.ready,pending:=none,fn,tmps:=a.tmps,params:=ps,assign,body,defers:=w.heap.size })]) W1:=by
     rw [hν1]
     refine hi.hp.push (b:=.lrec { state:=.ready,pending:=none,fn,tmps:=a.tmps,params:=ps,assign,body,defers:=w.heap.size }) hbel hnone _ (fun j c hj=>?_) (by simp) ⟨rfl,fun r hr=>absurd hr (Nat.not_lt_zero r),fun r hr=>absurd hr (Nat.not_lt_zero r),(fun h=>nomatch h),fun r hr=>absurd hr (Nat.not_lt_zero r),(fun _ h=>nomatch h),fun r hr=>by cases hr; exact hrec,by rw [hsz]; simp⟩
     rw [List.getElem?_append] at hj
     split at hj
     ·rename_i hlt
      exact .inr ⟨by omega,hj⟩
     ·rename_i hge
      have:j - H.length=0:=by
       rcases Nat.eq_zero_or_pos (j - H.length) with e | e
       ·exact e
       ·rw [List.getElem?_eq_none (by simp; omega)] at hj; cases hj
      rw [this] at hj
      simp at hj
      exact .inl ⟨by omega,hj.symm⟩
    have hfr1:∀ id,(H++[some (Blk.lrec { state:=.ready,pending:=none,fn,tmps:=a.tmps,params:=ps,assign,body,defers:=w.heap.size })]).length≤id→ν1 id=none:=fun id hid=>by
     rw [List.length_append] at hid
     rw [hν1,Nu.add_ne (by simp at hid; omega)]
     exact hi.fr id (by simp at hid; omega)
    have hargs:LRel ν1 (.func (.yield (w.heap.size+1)) #[] #[]::ya.toList) (#[Value.func (.yield (w.heap.size+1)) #[] #[]]++(⟨zs'⟩:Array Value)).toList:=by
     simp only [Array.toList_append]
     exact .cons (.func _ [] [] [] [] rfl (fun i x y hx _=>by simp at hx) rfl (fun i x y hx _=>by simp at hx)) (hz'.mono hle1)
    have hγ:ν1 H.length=some ⟨w.heap.size+1,0,0,0⟩:=by rw [hν1]; exact Nu.add_same
    refine (hit.calls _ _ ν1 ?_ _ _ _ h ν1 _ W1 (n - 1) (HeldAt ν1 (H++[some (.lrec { state:=.ready,pending:=none,fn,tmps:=a.tmps,params:=ps,assign,body,defers:=w.heap.size })])) (fun _ _ h=>h) hargs hH1 hfr1 (fun id b l h1 h2 h3=>⟨id,b,l,h1,h2,h3,rfl⟩)).mono ?_
    ·intro xs Hy K hG νy as wy m O hley hxs hHy hfry howny
     obtain ⟨by0,hby0,hG⟩:=blkK_spec hG
     split at hG
     ·rename_i ry
      obtain ⟨rfl,hG⟩:=hG
      obtain ⟨ly,hly,hBy⟩:=hHy.blk _ _ hby0
      have hly':=hley _ _ hγ
      rw [hly] at hly'; cases hly'
      have hrecy:=hBy.lr _ rfl
      obtain ⟨hlen,t1,hG,ht1⟩:=setsK_spec hG
      have hG:=lenK_spec hG
      have hsz2:(⟨as⟩:Array Value).size=ps.size:=by
       have:=hxs.1
       simp at this ⊢
       simpa [this] using hlen.symm
      refine ⟨fn,_,assign,body,run_yield hrecy hsz2,roundIn_of_wpIn trivial ?_⟩
      have hE2:EnvX P { E with base:=Hy.length,rd:=true }:=⟨⟨hE.ty,hE.eq,hE.fn,hE.ft⟩,hE.its,hE.ys⟩
      have hF2:FrE ⟨wy,O,νy,Hy.length,hfry⟩ { E with base:=Hy.length,rd:=true }:=⟨Nat.le_refl _,Nu.le_trans hn0.nu (Nu.le_trans hi.mono (Nu.le_trans hle1 hley))⟩
      have hi2:SInv ⟨wy,O,νy,Hy.length,hfry⟩ νy t1 Hy { tmps:=(ps.zip ⟨as⟩).foldl (fun tmps (t,a)=>tmps.setIfInBounds t a) a.tmps,defers:=[] } wy:=by
       refine ⟨?_,Marks.nil _ _,hHy,hfry,Kept.refl wy,fun id b l h1 h2 h3=>.inl (howny id b l h1 h2 h3),νy.le_refl⟩
       have:=ht1 νy a.tmps as (hi.tm.mono (Nu.le_trans hle1 hley)) hxs
       rw [← Array.foldl_toList]
       simpa using this
      refine iha (r:=some (w.heap.size+1)) hE2 hF2 (fun h=>by cases h) hi2 hG ?_ (fun _ _ _ _ _ _ _ h=>h.elim) (fun _ _ _ _ _ _ h=>h.elim)
      intro ν5 t5 H5 a5 w5 hi5 h5
      obtain ⟨b5,hb5,h5⟩:=blkK_spec h5
      split at h5
      ·rename_i r5
       obtain ⟨rfl,h5⟩:=h5
       obtain ⟨hlt5,h5⟩:=setB_spec h5
       obtain ⟨l5,hl5,hB5⟩:=hi5.hp.blk _ _ hb5
       have hl5':=hi5.mono _ _ hly
       rw [hl5] at hl5'; cases hl5'
       have hrec5:=hB5.lr _ rfl
       refine ⟨_,run_beginRound hrec5 rfl,?_⟩
       have hi6:=hi5.turnRec { state:=.busy,pending:=none,fn,tmps:=a.tmps,params:=ps,assign,body,defers:=w.heap.size } hb5 hl5
       have fin:∀ (jump:Option Code) ν7 t7 H7 a7 w7,SInv ⟨wy,O,νy,Hy.length,hfry⟩ ν7 t7 H7 a7 w7→endRK (fun s p=>⟨s,p,fn,a.tmps,ps,assign,body,w.heap.size⟩) H.length jump K H7 →
         ∃ v w',(Instr.endRound (w.heap.size+1) jump).run P w7=.ok v w'∧FTPost K νy O wy (.returned v) w':=by
        intro jump ν7 t7 H7 a7 w7 hi7 h7
        obtain ⟨b7,hb7,h7⟩:=blkK_spec h7
        split at h7
        ·rename_i r7
         obtain ⟨rfl,h7⟩:=h7
         obtain ⟨hlt7,h7⟩:=setB_spec h7
         obtain ⟨l7,hl7,hB7⟩:=hi7.hp.blk _ _ hb7
         have hl7':=hi7.mono _ _ hly
         rw [hl7] at hl7'; cases hl7'
         have hrec7:=hB7.lr _ rfl
         have he:=run_endRound (P:=P) jump hrec7
         refine ⟨_,_,he,?_⟩
         have hi8:=hi7.turnRec { state:=if jump.isNone then .ready else .done,pending:=jump,fn,tmps:=a.tmps,params:=ps,assign,body,defers:=w.heap.size } hb7 hl7
         refine ⟨.bool jump.isNone,_,ν7,_,rfl,?_,.bool _,hi8.mono,hi8.hp,hi8.fr,hi8.kp,hi8.own⟩
         cases jump <;> exact h7
        ·exact h7.elim
       refine ihb (r:=some (w.heap.size+1)) hE2 hF2 (fun h=>by cases h) hi6 h5 (fun ν t H a w hi h=>fin none _ _ _ _ _ hi h) (fun i ν t H a w hi h=>fin (some (.exit i)) _ _ _ _ _ hi h) (fun ν t H a w hi h=>fin (some .ret) _ _ _ _ _ hi h)
      ·exact h5.elim
     ·exact hG.elim
    ·rintro e w3 ⟨v,v',ν3,H3,rfl,h3,hv3,hle3,hH3,hfr3,hkp3,hown3⟩
     obtain ⟨b3,hb3,h3⟩:=blkK_spec h3
     split at h3
     ·rename_i r3
      obtain ⟨hlt3,h3⟩:=setB_spec h3
      obtain ⟨l3,hl3,hB3⟩:=hH3.blk _ _ hb3
      have hl3':=hle3 _ _ hγ
      rw [hl3] at hl3'; cases hl3'
      have hrec3:w3.heap[w.heap.size+1]?=some (.loop r3):=hB3.lr r3 rfl
      have hlt:w.heap.size+1 < w3.heap.size:=(Array.getElem?_eq_some_iff.1 hrec3).1
      have hi4:SInv F ν3 t (H3.set H.length none) { a with defers:=[{ target:=.collected w.heap.size,args:=#[] }]++a.defers } (w3.putObj (w.heap.size+1) (.loop { r3 with state:=.exhausted })):=by
       have hheld:∀ x,HeldAt ν1 (H++[some (.lrec { state:=.ready,pending:=none,fn,tmps:=a.tmps,params:=ps,assign,body,defers:=w.heap.size })]) x→(F.O x∨F.W.heap.size≤x)∧W1.heap[x]?≠some (.deferred (some [])):=by
        rintro x ⟨id,c,l,h1,h2,h3,rfl⟩
        obtain ⟨l',h4,hB⟩:=hH1.blk id c h1
        rw [h3] at h4; cases h4
        refine ⟨?_,fun hd=>?_⟩
        ·by_cases hid:id < H.length
         ·rw [List.getElem?_append_left hid] at h1
          rw [hν1,Nu.add_ne (by omega)] at h3
          exact hi.own id c l h1 h2 h3
         ·have:id=H.length:=by
           have:=(List.getElem?_eq_some_iff.1 h1).1
           simp at this; omega
          subst this
          rw [hγ] at h3; cases h3
          exact .inr (by have:=hi.kp.size; show _≤w.heap.size+1; omega)
        ·cases hr:c.rc with
         | none=>obtain ⟨cur,tt,h5,_⟩:=hB.own h2 hr; rw [h5] at hd; cases hd
         | some r=>rw [hB.lr r hr] at hd; cases hd
       have hkeep:∀ D:Nat,W1.heap[D]?=some (Obj.deferred (some []))→(w3.putObj (w.heap.size+1) (.loop { r3 with state:=.exhausted })).heap[D]?=some (Obj.deferred (some [])):=fun D hD=>by
        have hD3:=(hkp3.blk D (Array.getElem?_eq_some_iff.1 hD).1 (fun h=>(hheld D h).2 hD)).trans hD
        exact (World.putObj_heap_other (fun e=>by rw [e,hrec3] at hD3; cases hD3)).trans hD3
       have hset:∀ (id:Nat) (b:Blk),(H3.set H.length none)[id]?=some (some b)→id≠H.length∧H3[id]?=some (some b):=fun id b hb=>by
        by_cases e:id=H.length
        ·subst e; rw [List.getElem?_set_self hlt3] at hb; cases hb
        ·rw [List.getElem?_set_ne (Ne.symm e)] at hb; exact ⟨e,hb⟩
       refine ⟨hi.tm.mono (Nu.le_trans hle1 hle3),?_,⟨fun id b hb=>?_,fun i j bi bj li lj h1 h2=>?_⟩,fun id hid=>hfr3 id (by simpa using hid),?_,fun id b l hb ho hl=>?_,Nu.le_trans hi.mono (Nu.le_trans hle1 hle3)⟩
       ·refine ⟨List.nodup_cons.2 ⟨fun hm=>?_,hi.df.1⟩,fun d hd=>?_⟩
        ·obtain ⟨D,e,_,hD⟩:=hi.df.2 _ hm
         have:=(Array.getElem?_eq_some_iff.1 hD).1
         cases e
         omega
        ·rcases List.mem_cons.1 hd with rfl | hd
         ·exact ⟨_,rfl,hi.kp.size,hkeep _ hmark⟩
         ·obtain ⟨D,e,h0,hD⟩:=hi.df.2 d hd
          exact ⟨D,e,h0,hkeep D ((hbel.block D (Array.getElem?_eq_some_iff.1 hD).1).trans hD)⟩
       ·obtain ⟨hne,hb⟩:=hset id b hb
        obtain ⟨l,hl,hB⟩:=hH3.blk id b hb
        have hsep:=hH3.sep _ id _ b _ l hb3 hb (Ne.symm hne) rfl hl3 hl
        exact ⟨l,hl,hB.same (World.putObj_heap_other (Ne.symm hsep)) (by simp)⟩
       ·exact hH3.sep i j bi bj li lj (hset i bi h1).2 (hset j bj h2).2
       ·refine (hi.kp.below hbel).then (hkp3.then (O':=fun x=>x=w.heap.size+1) ⟨rfl,rfl,rfl,by simp,fun b h1 h2=>World.putObj_heap_other h2⟩ (fun b hb=>.inl (by subst hb; exact ⟨H.length,.lrec { state:=.ready,pending:=none,fn,tmps:=a.tmps,params:=ps,assign,body,defers:=w.heap.size },_,by simp,rfl,hγ,rfl⟩))) (fun b hb=>(hheld b hb).1)
       ·rcases hown3 id b l (hset id b hb).2 ho hl with h | h
        ·exact (hheld _ h).1
        ·exact .inr (by have:=hi.kp.size; omega)
      by_cases hbusy:r3.state=.busy
      ·rw [hbusy] at h3; exact h3.elim
      ·have he:=run_endLoop (P:=P) hrec3 hbusy
       generalize w3.putObj (w.heap.size+1) (.loop { r3 with state:=.exhausted })=w4 at hi4 he
       refine ⟨r3.pending,w4,he,?_⟩
       clear he
       have pick:∀ {X:Prop},(match r3.state,r3.pending with
        | .busy,_=>False
        | _,none=>kn t (H3.set H.length none)
        | _,some (.exit i)=>kx i t (H3.set H.length none)
        | _,some .ret=>kr t (H3.set H.length none)
        | _,_=>False)→(∀ s,(match (generalizing:=false) s,r3.pending with
        | LoopState.busy,_=>False
        | _,none=>kn t (H3.set H.length none)
        | _,some (.exit i)=>kx i t (H3.set H.length none)
        | _,some .ret=>kr t (H3.set H.length none)
        | _,_=>False)→X)→X:=fun h k=>k _ h
       refine pick h3 fun s h3=>?_
       cases hp:r3.pending with
       | none =>
        rw [hp] at h3
        cases s <;> first | exact h3.elim | exact hn _ _ _ _ _ hi4 h3
       | some c =>
        rw [hp] at h3
        cases c <;> cases s <;> first | exact h3.elim | exact wpIn_exit (hx _ _ _ _ _ _ hi4 h3) | exact wpIn_ret (hr _ _ _ _ _ hi4 h3)
     ·exact h3.elim
   ·exact h.elim
  ·exact h.elim
 | _=>exact fun _ _ _=>fun _ h _ _ _=>h.elim
def resFn (tmps:Array Value):ResultVar→Sem Value
 | .tmp t=>pure (tmps.getD t undef)
 | .cell x t=>do loadVar t (← asAddr (tmps.getD x undef))
theorem results_eq (fn:Func) (tmps:Array Value):results fn tmps=(do let vs ← fn.results.mapM (resFn tmps); pure (if h:vs.size=1 then vs[0] else .tuple vs)):=rfl
theorem asAddr_ptr (a:Addr):asAddr (.pointer (some a))=pure a:=rfl
theorem results_sound (hE:EnvX P E) {ν:Nu} {tmps:List Value} {H:Heap} {a:Act} {w:World} (hi:SInv F ν tmps H a w):∀ {l:List ResultVar} {k:List Value→Prop},resultsK E H tmps l k →
  ∃ vs vs',k vs∧LRel ν vs vs'∧(l.mapM (resFn a.tmps)).run P w=.ok vs' w
 | [],k,h=>⟨[],[],h,.nil ν,rfl⟩
 | .tmp t::l,k,h=>by
  obtain ⟨v,hv,h⟩:=getT_spec h
  obtain ⟨v',hv',hr⟩:=hi.tm.get hv
  obtain ⟨vs,vs',h1,h2,h3⟩:=results_sound hE hi h
  have e:a.tmps.getD t undef=v':=by
   have:a.tmps[t]?=some v':=by simpa using hv'
   simp [this]
  exact ⟨v::vs,v'::vs',h1,.cons hr h2,by simp only [List.mapM_cons,resFn,Sem.run_bind,Sem.run_pure,Result.andThen_ok,h3,e]⟩
 | .cell x t::l,k,h=>by
  obtain ⟨v,hv,h⟩:=getT_spec h
  obtain ⟨v',hv',hr⟩:=hi.tm.get hv
  split at h
  ·rename_i id row sp
   obtain ⟨ti,ht,h⟩:=tyK_spec h
   obtain ⟨b,hb,h⟩:=blkK_spec h
   obtain ⟨hrow,h⟩:=rowK_spec h
   obtain ⟨us,h,hl,hus⟩:=takeK_spec h
   obtain ⟨lc,hlc,hB⟩:=hi.hp.blk id b hb
   obtain ⟨lc',hlc',he⟩:=hr.to_ptr
   rw [hlc] at hlc'; cases hlc'
   obtain ⟨us',h1,h2,h3⟩:=take_cells hB hrow hl hus
   obtain ⟨vs,vs',k1,k2,k3⟩:=results_sound hE hi h
   have e:a.tmps.getD x undef=v':=by
    have:a.tmps[x]?=some v':=by simpa using hv'
    simp [this]
   refine ⟨_,_::vs',k1,.cons (valOf_rel h1) k2,?_⟩
   simp only [List.mapM_cons,resFn,Sem.run_bind,Result.andThen_ok,e,he,asAddr_ptr,Sem.run_pure,run_loadVar' (hE.ty _ _ ht) h2 h3,k3]
  ·exact h.elim
/-- Blocks of deferred calls have been shut; all else is as it was. -/
structure Shut (n0:Nat) (w w':World):Prop where
 os:w'.os=w.os
 tape:w'.tape=w.tape
 output:w'.output=w.output
 size:w'.heap.size=w.heap.size
 low:∀ q:Nat,q < n0→w'.heap[q]?=w.heap[q]?
 same:∀ (q:Nat) (o:Obj),(∀ c,o≠.deferred c)→w.heap[q]?=some o→w'.heap[q]?=some o
theorem Shut.refl (n0:Nat) (w:World):Shut n0 w w:=⟨rfl,rfl,rfl,rfl,fun _ _=>rfl,fun _ _ _ h=>h⟩
theorem Shut.trans {n0:Nat} {w w' w'':World} (h:Shut n0 w w') (k:Shut n0 w' w''):Shut n0 w w'' :=
 ⟨k.os.trans h.os,k.tape.trans h.tape,k.output.trans h.output,k.size.trans h.size,fun q hq=>(k.low q hq).trans (h.low q hq),fun q o ho hq=>k.same q o ho (h.same q o ho hq)⟩
theorem shut_one {n0 D:Nat} {w:World} (hD:w.heap[D]?=some (Obj.deferred (some []))) (h0:n0≤D):Shut n0 w (w.putObj D (.deferred none)) :=
 ⟨rfl,rfl,rfl,by simp,fun q hq=>World.putObj_heap_other (by omega),fun q o ho hq=>(World.putObj_heap_other (fun e=>by subst e; rw [hD] at hq; cases hq; exact ho _ rfl)).trans hq⟩
theorem leaves_marks {fn:Func} {tmps:Array Value} {R:Ending→World→Prop} {n0:Nat}:∀ (ds:List Deferred) (w:World),Marks n0 ds w→(∀ w',Shut n0 w w'→∃ v,(results fn tmps).run P w'=.ok v w'∧R (.returned v) w')→LeavesInM Fence.wide n P fn tmps R ds .returning w
 | [],w,_,h=>h w (Shut.refl n0 w)
 | d::ds,w,hm,h=>by
  obtain ⟨D,rfl,h0,hD⟩:=hm.2 d (List.mem_cons_self ..)
  have hnd:=List.nodup_cons.1 hm.1
  refine ⟨by simp,.inl ⟨D,w.putObj D (.deferred none),rfl,run_takeDeferred hD,?_⟩⟩
  refine leaves_marks ds _ ⟨hnd.2,fun e he=>?_⟩ fun w' hw'=>h w' ((shut_one hD h0).trans hw')
  obtain ⟨D',rfl,h1,hD'⟩:=hm.2 e (List.mem_cons_of_mem _ he)
  exact ⟨D',rfl,h1,(World.putObj_heap_other (fun e2=>hnd.1 (by rw [← e2]; exact he))).trans hD'⟩
theorem BRel.shut {ν:Nu} {l:Loc} {b:Blk} {n0:Nat} {w w':World} (h:BRel ν l b w) (hs:Shut n0 w w'):BRel ν l b w':=by
 refine ⟨h.esz,h.len,fun r hr j v hv=>?_,h.plain,h.one,fun ho hc=>?_,fun r hr=>hs.same _ _ (fun c=>by simp) (h.lr r hr),by rw [hs.size]; exact h.live⟩
 ·obtain ⟨v',h1,h2⟩:=h.cell r hr j v hv
  refine ⟨v',?_,h2⟩
  have h3:=h1
  unfold World.cell? at h3
  cases ho:w.heap[(l.at r j).block]? with
  | none=>simp [ho] at h3
  | some o =>
   have:∀ c,o≠Obj.deferred c:=fun c e=>by subst e; simp [ho] at h3
   rw [World.cell?_of_block (a:=l.at r j) ((hs.same _ _ this ho).trans ho.symm)]
   exact h1
 ·obtain ⟨cur,t,h1,h2⟩:=h.own ho hc
  exact ⟨cur,t,hs.same _ _ (fun c=>by simp) h1,h2⟩
theorem HRel.shut {ν:Nu} {H:Heap} {n0:Nat} {w w':World} (h:HRel ν H w) (hs:Shut n0 w w'):HRel ν H w' :=
 ⟨fun id b hi=>let ⟨l,h1,h2⟩:=h.blk id b hi; ⟨l,h1,h2.shut hs⟩,h.sep⟩
/-- The evaluation of a whole function. -/
def fnK (E:Env) (D:Env→List Oper→List Value→Heap→SK→Prop) (fn:Func) (args:List Value) (H:Heap) (K:Value→Heap→Prop):Prop :=
 match fn.body with
 | some c=>lenK H fun n0=>appK args (List.replicate (fn.ntmps - args.length) undef) fun t0 =>
  vc { E with base:=n0 } D c t0 H (fun t H=>resultsK { E with base:=n0 } H t fn.results.toList fun vs=>tupK vs fun v=>K v H) (fun _ _ _=>False) (fun t H=>resultsK { E with base:=n0 } H t fn.results.toList fun vs=>tupK vs fun v=>K v H)
 | none=>False
theorem EnvX.at {E:Env} (hE:EnvX P E) (n0:Nat):EnvX P { E with base:=n0 }:=⟨⟨hE.ty,hE.eq,hE.fn,hE.ft⟩,hE.its,hE.ys⟩
theorem fn_sound (hE:EnvX P E) (hD:DOk P D) {f:FuncId} {fn:Func} (hf:P.funcs[f]?=some fn) {args as:List Value} {H:Heap} {ν:Nu} {w:World} {O:Nat→Prop} {K:Value→Heap→Prop} {n:Nat}
  (h:fnK E D fn args H K) (ha:LRel ν args as) (hH:HRel ν H w) (hfr:∀ id,H.length≤id→ν id=none)
  (hown:∀ id b l,H[id]?=some (some b)→b.own=true→ν id=some l→O l.blk) (hnu:E.nu.le ν) {R:Ending→World→Prop}
  (hR:∀ ν' v v' t H' a w',SInv ⟨w,O,ν,H.length,hfr⟩ ν' t H' a w'→K v H'→VRel ν' v v'→R (.returned v') w'):CallsIn Fence.wide n P f ⟨as⟩ w R:=by
 unfold fnK at h
 split at h
 ·rename_i c hc
  have h:=appK_spec (lenK_spec h)
  refine callsIn_of_wp_marks hf hc trivial ?_
  have hi:SInv ⟨w,O,ν,H.length,hfr⟩ ν (args++List.replicate (fn.ntmps - args.length) undef) H { tmps:=(⟨as⟩:Array Value)++Array.replicate (fn.ntmps - (⟨as⟩:Array Value).size) undef,defers:=[] } w:=by
   refine ⟨?_,Marks.nil _ _,hH,hfr,Kept.refl w,fun id b l h1 h2 h3=>.inl (hown id b l h1 h2 h3),ν.le_refl⟩
   have e:((⟨as⟩:Array Value)++Array.replicate (fn.ntmps - (⟨as⟩:Array Value).size) undef).toList=as++List.replicate (fn.ntmps - args.length) undef:=by
    simp [ha.1]
   rw [e]
   refine ha.append ⟨rfl,fun i x y hx hy=>?_⟩
   rw [hx] at hy; cases hy
   have:=List.mem_of_getElem? hx
   simp at this
   rw [this.2]; exact .undef ν
  have hE':=hE.at H.length
  have fin:∀ ν' t H' a w',SInv ⟨w,O,ν,H.length,hfr⟩ ν' t H' a w'→(resultsK { E with base:=H.length } H' t fn.results.toList fun vs=>tupK vs fun v=>K v H')→LeavesInM Fence.wide n P fn a.tmps R a.defers .returning w':=by
   intro ν' t H' a w' hi0 h'
   refine leaves_marks a.defers w' hi0.df fun w2 hs=>?_
   have hi':SInv ⟨w,O,ν,H.length,hfr⟩ ν' t H' { tmps:=a.tmps,defers:=[] } w2 :=
    ⟨hi0.tm,Marks.nil _ _,hi0.hp.shut hs,hi0.fr,⟨hs.os.trans hi0.kp.os,hs.tape.trans hi0.kp.tape,hs.output.trans hi0.kp.output,by rw [hs.size]; exact hi0.kp.size,fun b h1 h2=>(hs.low b h1).trans (hi0.kp.blk b h1 h2)⟩,hi0.own,hi0.mono⟩
   obtain ⟨vs,vs',h1,h2,h3⟩:=results_sound hE' hi' h'
   have hres:(fn.results.mapM (resFn a.tmps)).run P w2=.ok ⟨vs'⟩ w2:=by
    rw [Array.mapM_eq_mapM_toList]
    simp only [Sem.run_map,h3,Result.andThen_ok]
   rw [results_eq]
   simp only [Sem.run_bind,hres,Result.andThen_ok,Sem.run_pure]
   refine ⟨_,rfl,?_⟩
   unfold tupK at h1
   split at h1
   ·rename_i v
    obtain ⟨y,ys,rfl,k1,k2⟩:=h2.uncons
    rw [k2.nil_inv]
    exact hR _ _ _ _ _ _ _ hi' h1 k1
   ·rename_i hne
    have hlen:¬ ((⟨vs'⟩:Array Value).size=1):=by
     intro e
     have:vs.length=1:=by rw [h2.1]; exact e
     obtain ⟨v,rfl⟩:=List.length_eq_one_iff.1 this
     exact hne v rfl
    rw [dif_neg hlen]
    exact hR _ _ _ _ _ _ _ hi' h1 (.tuple _ _ h2.1 h2.2)
  exact vc_sound hD c (r:=none) (F:=⟨w,O,ν,H.length,hfr⟩) hE' ⟨Nat.le_refl _,hnu⟩ (fun _=>rfl) hi h (fun ν t H a w' hi' h'=>fin ν t H a w' hi' h') (fun _ _ _ _ _ _ _ h'=>h'.elim) (fun ν t H a w' hi' h'=>fin ν t H a w' hi' h')
 ·exact h.elim
theorem nu_none {E:Env} {ν:Nu} (h:E.nu=fun _=>none):E.nu.le ν:=by rw [h]; exact fun _ _ h=>nomatch h
/-- A contract without blocks out of the evaluation. -/
theorem snd_of {S:PSpec} (hE:EnvOk P E) (hD:DOk P D) {f:FuncId} {fn:Func} (hf:P.funcs[f]?=some fn) (hen:∀ args w,(callFunc f args).run P w=.ok (.enter f args) w)
  (ha:∀ i,allPlain2 (S.args i)=true) (hv:∀ i,plain2 (S.val i)=true) (h:∀ i,S.pre i→fnK E D fn (S.args i) [] fun v _=>v=S.val i)
  (hI:ItsOk P E:=by exact ItsOk.none rfl) (hy:E.ys=[]:=by rfl) (hu:E.nu=(fun _=>none):=by rfl):Snd P f S:=by
 refine ⟨hen,fun i hp ν as w n has=>?_⟩
 have e:=(allPlain2_spec (ha i)).2 ν as has
 subst e
 refine fn_sound (O:=fun _=>False) (ν:=fun _=>none) (hE.x hI hy) hD hf (h i hp) ((allPlain2_spec (ha i)).1 _) ⟨fun id b hb=>by simp at hb,fun i j bi bj li lj hi=>by simp at hi⟩ (fun _ _=>rfl) (fun id b l hb=>by simp at hb) (nu_none hu) ?_
 rintro ν' v v' t H a w' hi rfl hr
 exact ⟨v',rfl,by rw [(plain2_spec (hv i)).2 _ _ hr]; exact (plain2_spec (hv i)).1 ν,⟨hi.kp.os,hi.kp.tape,hi.kp.output,hi.kp.size,fun k hk=>hi.kp.blk k hk (fun h=>h)⟩⟩
/-- A function walked through where it is called. -/
theorem ft_of (hE:EnvOk P E) (hD:DOk P D) {f:FuncId} {fn:Func} (hf:P.funcs[f]?=some fn) (hen:∀ args w,(callFunc f args).run P w=.ok (.enter f args) w)
  (hI:ItsOk P E:=by exact ItsOk.none rfl) (hy:E.ys=[]:=by rfl) (hu:E.nu=(fun _=>none):=by rfl):FTOk P f (fnK E D fn):=by
 refine ⟨hen,fun args H K h ν as w n O ha hH hfr hown=>fn_sound (hE.x hI hy) hD hf h ha hH hfr hown (nu_none hu) ?_⟩
 intro ν' v v' t H' a w' hi hk hv
 exact ⟨v,v',ν',H',rfl,hk,hv,hi.mono,hi.hp,hi.fr,hi.kp,hi.own⟩
/-- An iterator walked through where it is ranged over. -/
theorem it_of (hE:EnvOk P E) (hD:DOk P D) {f:FuncId} {fn:Func} (hf:P.funcs[f]?=some fn) (hen:∀ args w,(callFunc f args).run P w=.ok (.enter f args) w)
  (hI:ItsOk P E:=by exact ItsOk.none rfl):ITOk P f (fun l G nu=>fnK { E with ys:=[(l,G)],nu:=nu } D fn):=by
 refine ⟨hen,fun l G ν0 hY args H K h ν as w n O hle ha hH hfr hown=>?_⟩
 refine fn_sound (E:={ E with ys:=[(l,G)],nu:=ν0 }) ⟨⟨hE.ty,hE.eq,hE.fn,hE.ft⟩,hI,fun l' G' r e=>by cases e; exact hY⟩ hD hf h ha hH hfr hown hle ?_
 intro ν' v v' t H' a w' hi hk hv
 exact ⟨v,v',ν',H',rfl,hk,hv,hi.mono,hi.hp,hi.fr,hi.kp,hi.own⟩
end
end Go.Ae
/- A table of types, checked by evaluation. -/
namespace Go.Ae
open Go Go.RowKit
def constCell:Value→Bool
 | .bool _ | .int _ _ | .string _ | .pointer none | .nilFunc=>true
 | .slice none 0 0=>true
 | _=>false
theorem constCell_spec {v:Value} (h:constCell v=true):(∀ ν,VRel ν v v)∧v.oneCell'=true:=by
 unfold constCell at h
 split at h
 ·exact ⟨fun ν=>.bool _,rfl⟩
 ·exact ⟨fun ν=>.int _ _,rfl⟩
 ·exact ⟨fun ν=>.str _,rfl⟩
 ·exact ⟨fun ν=>.pnil,rfl⟩
 ·exact ⟨fun ν=>.fnil,rfl⟩
 ·exact ⟨fun ν=>.snil,rfl⟩
 ·cases h
def constCells:List Value→Bool
 | []=>true
 | v::l=>constCell v && constCells l
theorem constCells_spec:∀ {l:List Value},constCells l=true→(∀ ν,LRel ν l l)∧∀ v∈l,v.oneCell'=true
 | [],_=>⟨fun ν=>.nil ν,fun v hv=>by simp at hv⟩
 | v::l,h=>by
  simp only [constCells,Bool.and_eq_true] at h
  obtain ⟨h1,h2⟩:=constCell_spec h.1
  obtain ⟨h3,h4⟩:=constCells_spec h.2
  exact ⟨fun ν=>.cons (h1 ν) (h3 ν),fun u hu=>by
   rcases List.mem_cons.1 hu with e | e
   ·rw [e]; exact h2
   ·exact h4 u e⟩
def fieldsB (P:Program):List Field→List (Nat × Nat × Bool)→Bool
 | [],[]=>true
 | f::l,x::m=>Nat.beq f.offset x.1 && Nat.ble 1 x.2.1 && (match P.info? f.type with | some i=>Nat.beq i.size x.2.1 | none=>false) &&
  (match P.underlying f.type with | some d=>(isAggD d == x.2.2) | none=>false) && fieldsB P l m
 | _,_=>false
theorem fieldsB_spec {P:Program}:∀ {l:List Field} {m:List (Nat × Nat × Bool)},fieldsB P l m=true→l.length=m.length∧∀ (i:Nat) f x,l[i]?=some f→m[i]?=some x→FieldOk P f x
 | [],[],_=>⟨rfl,fun i f x h=>by simp at h⟩
 | f::l,x::m,h=>by
  simp only [fieldsB,Bool.and_eq_true] at h
  obtain ⟨⟨⟨⟨h1,h2⟩,h3⟩,h4⟩,h5⟩:=h
  obtain ⟨k1,k2⟩:=fieldsB_spec h5
  refine ⟨by simp [k1],fun i g y hg hy=>?_⟩
  cases i with
  | zero =>
   simp at hg hy
   subst hg; subst hy
   refine ⟨Nat.eq_of_beq_eq_true h1,Nat.le_of_ble_eq_true h2,?_,?_⟩
   ·split at h3
    ·exact ⟨_,by assumption,Nat.eq_of_beq_eq_true h3⟩
    ·cases h3
   ·split at h4
    ·exact ⟨_,by assumption,by simpa using h4⟩
    ·cases h4
  | succ i=>exact k2 i g y (by simpa using hg) (by simpa using hy)
 | [],_::_,h=>by simp [fieldsB] at h
 | _::_,[],h=>by simp [fieldsB] at h
def kindB (P:Program) (t:TypeId) (k:TK):Bool :=
 match k,P.underlying t with
 | .int q,some (.int q')=>decide (q=q')
 | .bool,some .bool=>true
 | .str,some .string=>true
 | .struct fs,some (.struct fields)=>fieldsB P fields.toList fs
 | .slice e,some (.slice e')=>Nat.beq e e'
 | .array n e,some (.array n' e')=>Nat.beq n n' && Nat.beq e e'
 | .other,some d=>!isAggD d
 | _,_=>false
theorem kindB_spec {P:Program} {t:TypeId} {k:TK} (h:kindB P t k=true):∃ d,P.underlying t=some d∧KOk P k d:=by
 unfold kindB at h
 split at h
 ·exact ⟨_,by assumption,by rw [of_decide_eq_true h]; rfl⟩
 ·exact ⟨_,by assumption,rfl⟩
 ·exact ⟨_,by assumption,rfl⟩
 ·obtain ⟨h1,h2⟩:=fieldsB_spec h
  exact ⟨_,by assumption,_,rfl,by simpa using h1,fun i f x hf hx=>h2 i f x (by simpa using hf) hx⟩
 ·exact ⟨_,by assumption,by rw [Nat.eq_of_beq_eq_true h]; rfl⟩
 ·simp only [Bool.and_eq_true] at h
  exact ⟨_,by assumption,by rw [Nat.eq_of_beq_eq_true h.1,Nat.eq_of_beq_eq_true h.2]; rfl⟩
 ·exact ⟨_,by assumption,by simpa [KOk] using h⟩
 ·cases h
def shapeB (ti:TI):Bool:=constCells ti.zero && Nat.beq ti.zero.length ti.size && Nat.ble 1 ti.size && Nat.ble 1 ti.bytes
theorem tiok {P:Program} {t:TypeId} {ti:TI} (h1:(P.info? t).map (fun i=>(i.size,i.bytes,i.zero.map fun z=>z.cells.toList))=some (ti.size,ti.bytes,some ti.zero)) (h2:kindB P t ti.kind=true) (h3:shapeB ti=true):TIok P t ti:=by
 obtain ⟨i,hi,he⟩:=Option.map_eq_some_iff.1 h1
 simp only [Prod.mk.injEq] at he
 obtain ⟨e1,e2,e3⟩:=he
 obtain ⟨z,hz,hz'⟩:=Option.map_eq_some_iff.1 e3
 simp only [shapeB,Bool.and_eq_true] at h3
 obtain ⟨⟨⟨k1,k2⟩,k3⟩,k4⟩:=h3
 obtain ⟨k5,k6⟩:=constCells_spec k1
 exact ⟨⟨i,hi,e1,e2,z,hz,Array.ext' hz'⟩,kindB_spec h2,k5,Nat.eq_of_beq_eq_true k2,k6,Nat.le_of_ble_eq_true k3,Nat.le_of_ble_eq_true k4⟩
/-! ### '==' of structs -/
/-- The cells of a type, as its '==' goes through them: kinds, or a struct's fields. -/
inductive ET where
 | bool | int (k:IntKind) | str
 | struct (fs:List (Nat × ET))      -- each field's size and shape
end Go.Ae
/- Regions that draw their order: whatever order the machine takes, it comes to what the text's order gives, if the operations ahead of the last ones write nothing and each slot has its order. -/
namespace Go.Ae
open Go Go.RowKit
/-- The slots that an operation reads (its guard's too). -/
def opTmps:List Operand→List Tmp
 | []=>[]
 | .tmp t::l=>t::opTmps l
 | _::l=>opTmps l
theorem opTmps_mem {t:Tmp}:∀ {l:List Operand},Operand.tmp t∈l→t∈opTmps l
 | .tmp u::l,h=>by
  rcases List.mem_cons.1 h with e | e
  ·cases e; simp [opTmps]
  ·simp [opTmps,opTmps_mem e]
 | .const v::l,h=>by
  rcases List.mem_cons.1 h with e | e
  ·cases e
  ·simpa [opTmps] using opTmps_mem e
 | .global v::l,h=>by
  rcases List.mem_cons.1 h with e | e
  ·cases e
  ·simpa [opTmps] using opTmps_mem e
 | .func v::l,h=>by
  rcases List.mem_cons.1 h with e | e
  ·cases e
  ·simpa [opTmps] using opTmps_mem e
def readsOf (ops:List Oper) (o:Oper):List Tmp :=
 opTmps o.op.operands.toList++(match o.guard with | some (j,_)=>(match (ops[j]?).bind (·.dst) with | some d=>[d] | none=>[]) | none=>[])
/-- The check, by evaluation. masks: for each operation some of those that must have gone before it. -/
def masksOk (ops:List Oper) (masks:List (List Nat)):Bool :=
 (List.range ops.length).all fun j=>match ops[j]? with
  | some o=>(masks.getD j []).all fun i=>i < j && o.after.toList.any fun e=>Region.binds .any e && (e.on == i || ((masks.getD e.on []).contains i && decide (e.on < j)))
  | none=>true
def drawOk (ops:List Oper) (m:Nat) (masks:List (List Nat)):Bool :=
 decide (m≤ops.length) && masksOk ops masks &&
 (List.range ops.length).all (fun j=>match ops[j]? with
  | some o=>o.after.toList.all fun e=>!Region.binds .any e || decide (e.on < j)
  | none=>true) &&
 (List.range m).all (fun j=>match ops[j]? with
  | some o=>(List.range m).all fun i=>i == j || match ops[i]? with
   | some p=>match p.dst with
    | some d=>(o.dst != some d) && (!(readsOf ops o).contains d || (masks.getD j []).contains i || (masks.getD i []).contains j)
    | none=>true
   | none=>true
  | none=>true) &&
 (List.range ops.length).all (fun j=>decide (j < m) || (List.range j).all fun i=>(masks.getD j []).contains i)
/-- New blocks of the operations that have gone before. -/
def maskK:List (Option Blk)→Nat→List Nat→(List (Option Blk)→Prop)→Prop
 | [],_,_,k=>k []
 | b::S,i,mask,k=>match mask with
  | m::ms=>match Nat.beq m i with
   | true=>maskK S (i+1) ms fun S'=>k (b::S')
   | false=>maskK S (i+1) (m::ms) fun S'=>k (none::S')
  | []=>maskK S (i+1) [] fun S'=>k (none::S')
def apH:Heap→List (Option Blk)→(Heap→Prop)→Prop
 | [],S,k=>k S
 | b::H,S,k=>apH H S fun G=>k (b::G)
theorem apH_spec:∀ {H:Heap} {S:List (Option Blk)} {k:Heap→Prop},apH H S k→k (H++S)
 | [],_,_,h=>h
 | _::H,S,k,h=>apH_spec (H:=H) h
def snocB:List (Option Blk)→Option Blk→(List (Option Blk)→Prop)→Prop
 | [],b,k=>k [b]
 | c::S,b,k=>snocB S b fun S'=>k (c::S')
theorem snocB_spec:∀ {S:List (Option Blk)} {b:Option Blk} {k:List (Option Blk)→Prop},snocB S b k→k (S++[b])
 | [],_,_,h=>h
 | _::S,b,k,h=>snocB_spec (S:=S) h
def headK (E:Env) (ops:List Oper) (H:Heap) (n0:Nat):List Oper→List (List Nat)→Nat→List Value→List (Option Blk)→(List Value→List (Option Blk)→Prop)→Prop
 | [],_,_,t,S,k=>k t S
 | o::l,mask::masks,j,t,S,k =>
  match o.guard with
  | none=>maskK S 0 mask fun Sm=>apH H Sm fun G=>opQ E o.op t G (n0+j) fun v nb=>dstK t o.dst v fun t'=>snocB S nb fun S'=>headK E ops H n0 l masks (j+1) t' S' k
  | some (g,want)=>match (ops[g]?).bind (·.dst) with
   | some d=>getT t d fun v=>match v with
    | .bool b=>br (b == want)
      (maskK S 0 mask fun Sm=>apH H Sm fun G=>opQ E o.op t G (n0+j) fun v nb=>dstK t o.dst v fun t'=>snocB S nb fun S'=>headK E ops H n0 l masks (j+1) t' S' k)
      (dstK t o.dst undef fun t'=>snocB S none fun S'=>headK E ops H n0 l masks (j+1) t' S' k)
    | .tuple _=>dstK t o.dst undef fun t'=>snocB S none fun S'=>headK E ops H n0 l masks (j+1) t' S' k
    | _=>False
   | none=>False
 | _::_,[],_,_,_,_=>False
def takeO:List Oper→Nat→(List Oper→List Oper→Prop)→Prop
 | l,0,k=>k [] l
 | [],_+1,_=>False
 | o::l,m+1,k=>takeO l m fun a b=>k (o::a) b
theorem takeO_spec:∀ {l:List Oper} {m:Nat} {k:List Oper→List Oper→Prop},takeO l m k→m≤l.length∧k (l.take m) (l.drop m)
 | l,0,_,h=>⟨by simp,by simpa [takeO] using h⟩
 | [],_+1,_,h=>h.elim
 | o::l,m+1,k,h=>by
  obtain ⟨h1,h2⟩:=takeO_spec (l:=l) h
  exact ⟨by simp; omega,by simpa using h2⟩
/-- A region that draws. -/
def drawK (E:Env) (ops:List Oper) (t:List Value) (H:Heap) (k:SK):Prop :=
 ∃ (m:Nat) (masks:List (List Nat)),drawOk ops m masks=true∧lenK H fun n0=>takeO ops m fun hd tl=>headK E ops H n0 hd masks 0 t [] fun t' S=>apH H S fun G=>opsK E ops tl t' G k
/-! ### What the evaluation says of each operation -/
structure Res where
 v:Value
 nb:Option Blk
 run:Bool
/-- The slots and the new blocks when the operations of D have gone. -/
def dstOf (ops:List Oper) (i:Nat):Option Tmp:=(ops[i]?).bind (·.dst)
def viewT (ops:List Oper) (rs:List Res) (D:Nat→Bool) (t0:List Value):Nat→List Value
 | 0=>t0
 | i+1=>match D i,dstOf ops i,rs[i]? with
  | true,some d,some r=>(viewT ops rs D t0 i).set d r.v
  | _,_,_=>viewT ops rs D t0 i
def viewS (rs:List Res) (D:Nat→Bool) (m:Nat):List (Option Blk):=(List.range m).map fun i=>if D i then (rs[i]?).bind (·.nb) else none
section
variable {ops:List Oper} {rs:List Res} {t0:List Value}
theorem viewT_length (D:Nat→Bool):∀ m,(viewT ops rs D t0 m).length=t0.length
 | 0=>rfl
 | m+1=>by
  unfold viewT
  split
  ·rw [List.length_set]; exact viewT_length D m
  ·exact viewT_length D m
/-- No two of the first m write one slot. -/
def Apart (ops:List Oper) (m:Nat):Prop:=∀ i j d,i < m→j < m→dstOf ops i=some d→dstOf ops j=some d→i=j
theorem viewT_out (D:Nat→Bool) {d:Tmp}:∀ m,(∀ i,i < m→D i=true→dstOf ops i=some d→rs[i]?=none)→(viewT ops rs D t0 m)[d]?=t0[d]?
 | 0,_=>rfl
 | m+1,h=>by
  unfold viewT
  split
  ·rename_i d' r hD hd hr
   have hne:d'≠d:=fun e=>by subst e; rw [h m (by omega) hD hd] at hr; cases hr
   rw [List.getElem?_set_ne hne]
   exact viewT_out D m (fun i hi=>h i (by omega))
  ·exact viewT_out D m (fun i hi=>h i (by omega))
theorem viewT_in (D:Nat→Bool) {d:Tmp} {i:Nat} {r:Res} (hd:dstOf ops i=some d) (hr:rs[i]?=some r) (hD:D i=true) (hlt:d < t0.length) :
  ∀ m,i < m→Apart ops m→(viewT ops rs D t0 m)[d]?=some r.v
 | 0,h,_=>by omega
 | m+1,h,ha=>by
  by_cases e:i=m
  ·subst e
   unfold viewT
   rw [hD,hd,hr]
   dsimp only
   rw [List.getElem?_set_self]
   rw [viewT_length]; exact hlt
  ·have ih:=viewT_in D hd hr hD hlt m (by omega) (fun a b c h1 h2=>ha a b c (by omega) (by omega))
   unfold viewT
   split
   ·rename_i d' r' hD' hd' hr'
    have hne:d'≠d:=fun e'=>by subst e'; exact e (ha i m d' (by omega) (by omega) hd hd')
    rw [List.getElem?_set_ne hne]; exact ih
   ·exact ih
/-- What two views have in common. -/
theorem viewT_same {D D':Nat→Bool} {d:Tmp} {m:Nat} (ha:Apart ops m) (hlt:∀ i d,i < m→dstOf ops i=some d→d < t0.length) (h:∀ i,i < m→dstOf ops i=some d→D i=D' i) :
  (viewT ops rs D t0 m)[d]?=(viewT ops rs D' t0 m)[d]?:=by
 by_cases hex:∃ i r,i < m∧dstOf ops i=some d∧D i=true∧rs[i]?=some r
 ·obtain ⟨i,r,hi,hd,hD,hr⟩:=hex
  rw [viewT_in D hd hr hD (hlt i d hi hd) m hi ha,viewT_in D' hd hr (by rw [← h i hi hd]; exact hD) (hlt i d hi hd) m hi ha]
 ·rw [viewT_out D m,viewT_out D' m]
  ·intro i hi hD hd
   cases hr:rs[i]? with
   | none=>rfl
   | some r=>exact absurd ⟨i,r,hi,hd,by rw [h i hi hd]; exact hD,hr⟩ hex
  ·intro i hi hD hd
   cases hr:rs[i]? with
   | none=>rfl
   | some r=>exact absurd ⟨i,r,hi,hd,hD,hr⟩ hex
/-- One more has gone. -/
theorem viewT_step {D D':Nat→Bool} {m j:Nat} (ha:Apart ops m) (hlt:∀ i d,i < m→dstOf ops i=some d→d < t0.length) (hj:j < m) (hDj:D j=false) (hD':∀ i,D' i=(D i || i == j)) {r:Res} (hr:rs[j]?=some r) :
  viewT ops rs D' t0 m=match dstOf ops j with | some d=>(viewT ops rs D t0 m).set d r.v | none=>viewT ops rs D t0 m:=by
 apply List.ext_getElem?
 intro x
 have hDD:∀ i,i≠j→D' i=D i:=fun i hi=>by rw [hD' i]; simp [hi]
 cases hd:dstOf ops j with
 | none =>
  dsimp only
  refine viewT_same ha hlt (fun i hi hdi=>hDD i (fun e=>?_))
  subst e; rw [hd] at hdi; cases hdi
 | some d =>
  dsimp only
  by_cases e:d=x
  ·subst e
   have hl:=hlt j d hj hd
   rw [List.getElem?_set_self (by rw [viewT_length]; exact hl)]
   exact viewT_in D' hd hr (by rw [hD' j]; simp) hl m hj ha
  ·rw [List.getElem?_set_ne e]
   refine viewT_same ha hlt (fun i hi hdi=>hDD i (fun e'=>?_))
   subst e'; rw [hd] at hdi; cases hdi; exact e rfl
theorem viewS_get {D:Nat→Bool} {m i:Nat} {b:Blk}:(viewS rs D m)[i]?=some (some b)↔i < m∧D i=true∧(rs[i]?).bind (·.nb)=some b:=by
 unfold viewS
 rw [List.getElem?_map]
 by_cases h:i < m
 ·simp only [List.getElem?_range h,Option.map_some,Option.some.injEq]
  cases D i <;> simp [h]
 ·rw [List.getElem?_eq_none (by simp; omega)]
  simp [h]
theorem viewS_length (D:Nat→Bool) (m:Nat):(viewS rs D m).length=m:=by simp [viewS]
end
/-- Operations that give a value out of their operands alone. -/
def pureOp:Op→Bool
 | .move _=>true
 | .extract _ _=>true
 | .binOp _ _ _ _ _=>true
 | .slice _ _ _ _ _=>true
 | _=>false
/-- Operations that give a value out of their operands and the heap. -/
def heapOp:Op→Bool
 | .load _ _=>true
 | .indexAddr _ _ _=>true
 | .call c=>match c.callee with
  | .builtin .len=>true
  | _=>false
 | _=>false
/-- What the evaluation says of head operation j. -/
structure HeadOk (P:Program) (ops:List Oper) (t0:List Value) (H:Heap) (masks:List (List Nat)) (rs:List Res) (j:Nat):Prop where
 ok:∃ o r,ops[j]?=some o∧rs[j]?=some r∧(∀ d,o.dst=some d→d < t0.length) ∧
  ((∃ G:Heap,(∀ id b,G[id]?=some (some b)→(id < H.length∧H[id]?=some (some b))∨(∃ i,id=H.length+i∧i < j∧i∈masks.getD j []∧(rs[i]?).bind (·.nb)=some b)) ∧
    (∀ (ν:Nu) (a:Act) (w:World) (q:Option Nat) (n:Nat),(∀ x∈o.op.operands,OpRel ν (viewT ops rs (fun i=>decide (i < j)) t0 j) a x)→HRel ν G w→ν (H.length+j)=none →
     ∀ next Q,(∀ v' w' ν',QPost ν ν' (H.length+j) w w' r.v v' r.nb→next (a.put o.dst v') w')→o.wpIn (WF q) n P a w next Q) ∧
    (o.guard=none∨∃ g want d b,o.guard=some (g,want)∧dstOf ops g=some d∧(viewT ops rs (fun i=>decide (i < j)) t0 j)[d]?=some (.bool b)∧(b == want)=true)) ∨
    (r.v=undef∧r.nb=none∧∃ g want d v,o.guard=some (g,want)∧dstOf ops g=some d∧(viewT ops rs (fun i=>decide (i < j)) t0 j)[d]?=some v∧((∃ b,v=.bool b∧(b == want)=false)∨∃ vs,v=.tuple vs)))
 mv:∀ o,ops[j]?=some o→(pureOp o.op || heapOp o.op)=true→o.guard=none→∃ r,rs[j]?=some r∧r.nb=none∧∃ G:Heap,(∀ id b,G[id]?=some (some b)→(id < H.length∧H[id]?=some (some b))∨(∃ i,id=H.length+i∧i < j∧i∈masks.getD j []∧(rs[i]?).bind (·.nb)=some b)) ∧
  (pureOp o.op=true→∀ (ν0:Nu) (w0:World),HRel ν0 G w0→PureV P ν0 o.op (viewT ops rs (fun i=>decide (i < j)) t0 j) r.v)∧(heapOp o.op=true→∀ ν0,HeapV P ν0 G o.op (viewT ops rs (fun i=>decide (i < j)) t0 j) r.v)
/-- The same, and what such an operation gives. -/
theorem opQ_sound2 {P:Program} {E:Env} (hE:EnvOk P E) {op:Op} {tmps:List Value} {H:Heap} {nid:Nat} {k:QK} (h:opQ E op tmps H nid k) :
  ∃ v nb,k v nb∧(∀ (o:Oper) (ν:Nu) (a:Act) (w:World) (r:Option Nat) (n:Nat),o.op=op→(∀ x∈op.operands,OpRel ν tmps a x)→HRel ν H w→ν nid=none →
   ∀ next Q,(∀ v' w' ν',QPost ν ν' nid w w' v v' nb→next (a.put o.dst v') w')→o.wpIn (WF r) n P a w next Q) ∧
   (pureOp op=true→nb=none∧∀ (ν0:Nu) (w0:World),HRel ν0 H w0→PureV P ν0 op tmps v)∧(heapOp op=true→nb=none∧∀ ν0,HeapV P ν0 H op tmps v):=by
 have mk:heapOp op=false→∀ v,k v none→(∀ (ν0:Nu) (w0:World),HRel ν0 H w0→PureV P ν0 op tmps v)→∃ v nb,k v nb∧(∀ (o:Oper) (ν:Nu) (a:Act) (w:World) (r:Option Nat) (n:Nat),o.op=op→(∀ x∈op.operands,OpRel ν tmps a x)→HRel ν H w→ν nid=none →
   ∀ next Q,(∀ v' w' ν',QPost ν ν' nid w w' v v' nb→next (a.put o.dst v') w')→o.wpIn (WF r) n P a w next Q) ∧
   (pureOp op=true→nb=none∧∀ (ν0:Nu) (w0:World),HRel ν0 H w0→PureV P ν0 op tmps v)∧(heapOp op=true→nb=none∧∀ ν0,HeapV P ν0 H op tmps v):=by
  intro hno v hk hp
  refine ⟨v,none,hk,fun o ν a w r n ho ha hH hn next Q hN=>?_,fun _=>⟨rfl,hp⟩,fun h=>by rw [hno] at h; cases h⟩
  obtain ⟨u,k1,k2⟩:=(hp ν w hH).2 o ν a w ν.le_refl ho ha
  exact wpIn_of_run (v':=u) (w':=w) (by rw [ho]; exact (hp ν w hH).1) k2 next Q (hN _ _ ν ⟨ν.le_refl,fun _ _=>rfl,k1,Below.refl _ _,fun _=>rfl,(fun b hb=>by cases hb)⟩)
 by_cases hp:pureOp op=true
 ·cases op with
  | move x =>
   have h':qMove tmps x k:=h
   obtain ⟨v,hk,hv⟩:=evalK_all h'
   exact mk rfl v hk fun ν0 w0 _=>⟨by simp,fun o ν a w hle ho ha=>⟨a.eval x,hv ν a (ha x (by simp [Op.operands])),by simp [execOp,ho]⟩⟩
  | extract x i =>
   have h':qExtract tmps x i k:=h
   obtain ⟨v0,h',hv⟩:=evalK_all h'
   split at h'
   ·rename_i vs
    obtain ⟨u,h1,h2⟩:=getT_spec h'
    refine mk rfl u h2 fun ν0 w0 _=>⟨by simp,fun o ν a w hle ho ha=>?_⟩
    obtain ⟨ys,he,hy⟩:=VRel.to_tuple (xs:=vs.toList) (hv ν a (ha x (by simp [Op.operands])))
    obtain ⟨u',h3,h4⟩:=hy.get h1
    exact ⟨u',h4,by simp [execOp,ho,he,Instr.extract,h3]⟩
   ·exact h'.elim
  | binOp op t x y ty =>
   have h':qBin E.tt E.eqs tmps op t x y k:=h
   obtain ⟨v,hk,hv⟩:=q_bin_core hE.ty hE.eq (ty:=ty) h'
   exact mk rfl v hk fun ν0 _ _=>hv ν0
  | slice t x lo hi mx =>
   obtain ⟨v,hk,hv⟩:=q_slice_core hE.ty h
   exact mk rfl v hk hv
  | _=>cases hp
 ·have hv:QVal P op tmps H k→∃ v nb,k v nb∧(∀ (o:Oper) (ν:Nu) (a:Act) (w:World) (r:Option Nat) (n:Nat),o.op=op→(∀ x∈op.operands,OpRel ν tmps a x)→HRel ν H w→ν nid=none →
   ∀ next Q,(∀ v' w' ν',QPost ν ν' nid w w' v v' nb→next (a.put o.dst v') w')→o.wpIn (WF r) n P a w next Q) ∧
   (pureOp op=true→nb=none∧∀ (ν0:Nu) (w0:World),HRel ν0 H w0→PureV P ν0 op tmps v)∧(heapOp op=true→nb=none∧∀ ν0,HeapV P ν0 H op tmps v):=fun ⟨v,hk,hv⟩ =>
   ⟨v,none,hk,fun o ν a w r n ho ha hH hn next Q hN=>by
    obtain ⟨u,k1,k2⟩:=(hv ν).2 o ν a w ν.le_refl ho ha hH
    exact wpIn_of_run (v':=u) (w':=w) (by rw [ho]; exact (hv ν).1) k2 next Q (hN _ _ ν ⟨ν.le_refl,fun _ _=>rfl,k1,Below.refl _ _,fun _=>rfl,(fun b hb=>by cases hb)⟩),fun h=>absurd h hp,fun _=>⟨rfl,hv⟩⟩
  by_cases hh:heapOp op=true
  ·cases op with
   | load t x=>exact hv (q_loadV hE.ty h)
   | indexAddr t x i=>exact hv (q_indexAddrV hE.ty h)
   | call c =>
    cases hc:c.callee with
    | builtin b =>
     cases b with
     | len =>
      unfold opQ at h
      simp only [hc] at h
      split at h
      ·rename_i x t hx ht
       exact hv (q_lenV hE.ty hc (Array.ext' hx) (Array.ext' ht) h)
      ·exact h.elim
     | _=>simp [heapOp,hc] at hh
    | _=>simp [heapOp,hc] at hh
   | _=>cases hh
  ·obtain ⟨v,nb,hk,hq⟩:=opQ_sound (P:=P) hE h
   exact ⟨v,nb,hk,hq,fun h=>absurd h hp,fun h=>absurd h hh⟩
theorem maskK_spec:∀ {S:List (Option Blk)} {i:Nat} {mask:List Nat} {k:List (Option Blk)→Prop},maskK S i mask k→∃ S',k S'∧S'.length=S.length∧∀ j b,S'[j]?=some (some b)→S[j]?=some (some b)∧(i+j)∈mask
 | [],i,mask,k,h=>⟨[],by simpa [maskK] using h,rfl,fun j b hb=>by simp at hb⟩
 | c::S,i,[],k,h=>by
  obtain ⟨S',h1,h2,h3⟩:=maskK_spec (S:=S) (i:=i+1) (mask:=[]) (by simpa [maskK] using h)
  refine ⟨none::S',h1,by simp [h2],fun j b hb=>?_⟩
  cases j with
  | zero=>simp at hb
  | succ j=>have:=h3 j b (by simpa using hb); simp at this
 | c::S,i,m::ms,k,h=>by
  unfold maskK at h
  dsimp only at h
  split at h
  ·rename_i e
   have e:=Nat.eq_of_beq_eq_true e
   obtain ⟨S',h1,h2,h3⟩:=maskK_spec (S:=S) h
   refine ⟨c::S',h1,by simp [h2],fun j b hb=>?_⟩
   cases j with
   | zero=>simp at hb; subst hb; exact ⟨by simp,by simp [e]⟩
   | succ j =>
    obtain ⟨k1,k2⟩:=h3 j b (by simpa using hb)
    exact ⟨by simpa using k1,by rw [show i+(j+1)=i+1+j by omega]; simp [k2]⟩
  ·obtain ⟨S',h1,h2,h3⟩:=maskK_spec (S:=S) h
   refine ⟨none::S',h1,by simp [h2],fun j b hb=>?_⟩
   cases j with
   | zero=>simp at hb
   | succ j =>
    obtain ⟨k1,k2⟩:=h3 j b (by simpa using hb)
    exact ⟨by simpa using k1,by rw [show i+(j+1)=i+1+j by omega]; exact k2⟩
theorem viewT_succ {ops:List Oper} {rs:List Res} {D:Nat→Bool} {t0:List Value} {m:Nat}:viewT ops rs D t0 (m+1)=(match D m,dstOf ops m,rs[m]? with
  | true,some d,some r=>(viewT ops rs D t0 m).set d r.v
  | _,_,_=>viewT ops rs D t0 m):=rfl
theorem viewT_congr {ops:List Oper} {rs rs':List Res} {D:Nat→Bool} {t0:List Value}:∀ {m:Nat},(∀ i,i < m→rs[i]?=rs'[i]?)→viewT ops rs D t0 m=viewT ops rs' D t0 m
 | 0,_=>rfl
 | m+1,h=>by
  unfold viewT
  rw [h m (by omega),viewT_congr (m:=m) (fun i hi=>h i (by omega))]
theorem viewT_congrD {ops:List Oper} {rs:List Res} {D D':Nat→Bool} {t0:List Value}:∀ {m:Nat},(∀ i,i < m→D i=D' i)→viewT ops rs D t0 m=viewT ops rs D' t0 m
 | 0,_=>rfl
 | m+1,h=>by
  unfold viewT
  rw [h m (by omega),viewT_congrD (m:=m) (fun i hi=>h i (by omega))]
theorem viewT_cut {ops:List Oper} {rs:List Res} {D:Nat→Bool} {t0:List Value} {j:Nat}:∀ {m:Nat},j≤m→(∀ i,j≤i→i < m→D i=false)→viewT ops rs D t0 m=viewT ops rs D t0 j
 | 0,h,_=>by rw [Nat.le_zero.1 h]
 | m+1,h,hD=>by
  by_cases e:j=m+1
  ·rw [e]
  ·rw [viewT_succ,hD m (by omega) (by omega)]
   exact viewT_cut (m:=m) (by omega) (fun i h1 h2=>hD i h1 (by omega))
theorem HeadOk.more {P:Program} {ops:List Oper} {t0:List Value} {H:Heap} {masks:List (List Nat)} {rs:List Res} {j:Nat} (h:HeadOk P ops t0 H masks rs j) (hj:j < rs.length) (r:Res):HeadOk P ops t0 H masks (rs++[r]) j:=by
 have he:∀ i,i≤j→(rs++[r])[i]?=rs[i]?:=fun i hi=>by rw [List.getElem?_append_left (by omega)]
 have hv:∀ D,viewT ops (rs++[r]) D t0 j=viewT ops rs D t0 j:=fun D=>viewT_congr (fun i hi=>he i (by omega))
 obtain ⟨o,q,h1,h2,h3,h4⟩:=h.ok
 refine ⟨⟨o,q,h1,by rw [he j (Nat.le_refl _)]; exact h2,h3,?_⟩,fun o ho hx hg=>?_⟩
 rotate_left
 ·obtain ⟨r',k1,k2,k3⟩:=h.mv o ho hx hg
  obtain ⟨G,g1,g2⟩:=k3
  exact ⟨r',by rw [he j (Nat.le_refl _)]; exact k1,k2,G,fun id b hb=>(g1 id b hb).imp (fun x=>x) (fun ⟨i,q1,q2,q3,q4⟩=>⟨i,q1,q2,q3,by rw [he i (by omega)]; exact q4⟩),by rw [hv]; exact g2⟩
 rw [hv]
 rcases h4 with ⟨G,g1,g2,g3⟩ | h4
 ·exact .inl ⟨G,fun id b hb=>(g1 id b hb).imp (fun x=>x) (fun ⟨i,k1,k2,k3,k4⟩=>⟨i,k1,k2,k3,by rw [he i (by omega)]; exact k4⟩),g2,g3⟩
 ·exact .inr h4
theorem head_spec {P:Program} {E:Env} (hE:EnvOk P E) {ops:List Oper} {t0:List Value} {H:Heap} {masks:List (List Nat)} {k:List Value→List (Option Blk)→Prop} :
  ∀ {l:List Oper} {ms:List (List Nat)} {j:Nat} {rs:List Res},rs.length=j→(∀ (i:Nat) o,l[i]?=some o→ops[j+i]?=some o)→(∀ i,i < l.length→ms.getD i []=masks.getD (j+i) []) →
  (∀ i,i < j→HeadOk P ops t0 H masks rs i)→headK E ops H H.length l ms j (viewT ops rs (fun i=>decide (i < j)) t0 j) (rs.map (·.nb)) k →
  ∃ rs':List Res,rs'.length=j+l.length∧(∀ i,i < j+l.length→HeadOk P ops t0 H masks rs' i)∧k (viewT ops rs' (fun i=>decide (i < j+l.length)) t0 (j+l.length)) (rs'.map (·.nb))
 | [],ms,j,rs,hl,_,_,hok,h=>⟨rs,hl,hok,h⟩
 | o::l,[],j,rs,hl,_,_,hok,h=>h.elim
 | o::l,mask::ms,j,rs,hl,ho,hm,hok,h=>by
  have hoj:ops[j]?=some o:=by have:=ho 0 o rfl; simpa using this
  have hmask:mask=masks.getD j []:=by have:=hm 0 (by simp); simpa using this
  -- the next step, whatever this one's result
  have next:∀ (r:Res) t',(t'=match o.dst with | some d=>(viewT ops rs (fun i=>decide (i < j)) t0 j).set d r.v | none=>viewT ops rs (fun i=>decide (i < j)) t0 j) →
    (HeadOk P ops t0 H masks (rs++[r]) j)→headK E ops H H.length l ms (j+1) t' (rs.map (·.nb)++[r.nb]) k →
    ∃ rs':List Res,rs'.length=j+(o::l).length∧(∀ i,i < j+(o::l).length→HeadOk P ops t0 H masks rs' i)∧k (viewT ops rs' (fun i=>decide (i < j+(o::l).length)) t0 (j+(o::l).length)) (rs'.map (·.nb)):=by
   intro r t' ht' hj h'
   have hv:viewT ops (rs++[r]) (fun i=>decide (i < j+1)) t0 (j+1)=t':=by
    have hr:(rs++[r])[j]?=some r:=by rw [← hl]; simp
    have hd:dstOf ops j=o.dst:=by simp [dstOf,hoj]
    have hrest:viewT ops (rs++[r]) (fun i=>decide (i < j+1)) t0 j=viewT ops rs (fun i=>decide (i < j)) t0 j:=by
     rw [viewT_congr (rs':=rs) (fun i hi=>by rw [List.getElem?_append_left (by omega)])]
     exact viewT_congrD (fun i hi=>by simp; omega)
    have hdec:decide (j < j+1)=true:=by simp
    rw [ht',viewT_succ,hr,hd,hrest,hdec]
    cases o.dst <;> rfl
   rw [← hv] at h'
   have h'':headK E ops H H.length l ms (j+1) (viewT ops (rs++[r]) (fun i=>decide (i < j+1)) t0 (j+1)) ((rs++[r]).map (·.nb)) k:=by simpa using h'
   obtain ⟨rs',k1,k2,k3⟩:=head_spec hE (l:=l) (ms:=ms) (j:=j+1) (rs:=rs++[r]) (by simp [hl]) (fun i p hp=>by have:=ho (i+1) p (by simpa using hp); rwa [show j+1+i=j+(i+1) by omega])
    (fun i hi=>by have:=hm (i+1) (by simp; omega); rw [show j+1+i=j+(i+1) by omega]; simpa using this)
    (fun i hi=>by
     by_cases e:i=j
     ·subst e; exact hj
     ·exact (hok i (by omega)).more (by omega) r) h''
   have e:j+1+l.length=j+(o::l).length:=by simp; omega
   rw [e] at k1 k2 k3
   exact ⟨rs',k1,k2,k3⟩
  have hvj:∀ r:Res,viewT ops (rs++[r]) (fun i=>decide (i < j)) t0 j=viewT ops rs (fun i=>decide (i < j)) t0 j:=fun r=>viewT_congr (fun i hi=>by rw [List.getElem?_append_left (by omega)])
  have hrj:∀ r:Res,(rs++[r])[j]?=some r:=fun r=>by rw [← hl]; simp
  have run:(o.guard=none∨∃ g want d b,o.guard=some (g,want)∧dstOf ops g=some d∧(viewT ops rs (fun i=>decide (i < j)) t0 j)[d]?=some (.bool b)∧(b == want)=true) →
    (maskK (rs.map (·.nb)) 0 mask fun Sm=>apH H Sm fun G=>opQ E o.op (viewT ops rs (fun i=>decide (i < j)) t0 j) G (H.length+j) fun v nb=>dstK (viewT ops rs (fun i=>decide (i < j)) t0 j) o.dst v fun t'=>snocB (rs.map (·.nb)) nb fun S'=>headK E ops H H.length l ms (j+1) t' S' k) →
    ∃ rs':List Res,rs'.length=j+(o::l).length∧(∀ i,i < j+(o::l).length→HeadOk P ops t0 H masks rs' i)∧k (viewT ops rs' (fun i=>decide (i < j+(o::l).length)) t0 (j+(o::l).length)) (rs'.map (·.nb)):=by
   intro hg h
   obtain ⟨Sm,h1,h2,h3⟩:=maskK_spec h
   have h1:=apH_spec h1
   obtain ⟨v,nb,hk,hq,hmv⟩:=opQ_sound2 (P:=P) hE h1
   have hdst:∃ t',(t'=match o.dst with | some d=>(viewT ops rs (fun i=>decide (i < j)) t0 j).set d v | none=>viewT ops rs (fun i=>decide (i < j)) t0 j)∧(∀ d,o.dst=some d→d < t0.length)∧(snocB (rs.map (·.nb)) nb fun S'=>headK E ops H H.length l ms (j+1) t' S' k):=by
    cases hd:o.dst with
    | none=>rw [hd] at hk; exact ⟨_,rfl,(fun d hd=>by cases hd),hk⟩
    | some d =>
     rw [hd] at hk
     obtain ⟨k1,k2⟩:=setT_spec hk
     rw [viewT_length] at k1
     exact ⟨_,rfl,(fun d' hd'=>by cases hd'; exact k1),k2⟩
   obtain ⟨t',e1,e2,e3⟩:=hdst
   refine next ⟨v,nb,true⟩ t' e1 ⟨⟨o,⟨v,nb,true⟩,hoj,hrj _,e2,.inl ⟨H++Sm,fun id b hb=>?_,?_,?_⟩⟩,fun p hp hx hg'=>?_⟩ (snocB_spec e3)
   rotate_right
   ·rw [hoj] at hp; cases hp
    have k1:nb=none:=by
     rcases Bool.or_eq_true_iff.1 hx with hx | hx
     ·exact (hmv.1 hx).1
     ·exact (hmv.2 hx).1
    refine ⟨_,hrj _,k1,H++Sm,fun id b hb=>?_,fun hx=>by rw [hvj]; exact (hmv.1 hx).2,fun hx=>by rw [hvj]; exact (hmv.2 hx).2⟩
    rw [List.getElem?_append] at hb
    split at hb
    ·exact .inl ⟨by assumption,hb⟩
    ·rename_i hge
     obtain ⟨q1,q2⟩:=h3 _ b hb
     have hlt:id - H.length < rs.length:=by
      have:=(List.getElem?_eq_some_iff.1 q1).1
      simpa using this
     refine .inr ⟨id - H.length,by omega,by omega,by rw [← hmask]; simpa using q2,?_⟩
     rw [List.getElem?_append_left hlt]
     rw [List.getElem?_map] at q1
     cases hr:rs[id - H.length]? with
     | none=>rw [hr] at q1; cases q1
     | some r=>rw [hr] at q1; simpa using q1
   ·rw [List.getElem?_append] at hb
    split at hb
    ·exact .inl ⟨by assumption,hb⟩
    ·rename_i hge
     obtain ⟨q1,q2⟩:=h3 _ b hb
     have hlt:id - H.length < rs.length:=by
      have:=(List.getElem?_eq_some_iff.1 q1).1
      simpa using this
     refine .inr ⟨id - H.length,by omega,by omega,by rw [← hmask]; simpa using q2,?_⟩
     rw [List.getElem?_append_left hlt]
     rw [List.getElem?_map] at q1
     cases hr:rs[id - H.length]? with
     | none=>rw [hr] at q1; cases q1
     | some r=>rw [hr] at q1; simpa using q1
   ·rw [hvj]
    exact fun ν a w q n ha hH hn next Q hN=>hq o ν a w q n rfl ha hH hn next Q hN
   ·rw [hvj]; exact hg
  have skip:(∃ g want d v,o.guard=some (g,want)∧dstOf ops g=some d∧(viewT ops rs (fun i=>decide (i < j)) t0 j)[d]?=some v∧((∃ b,v=.bool b∧(b == want)=false)∨∃ vs,v=.tuple vs)) →
    (dstK (viewT ops rs (fun i=>decide (i < j)) t0 j) o.dst undef fun t'=>snocB (rs.map (·.nb)) none fun S'=>headK E ops H H.length l ms (j+1) t' S' k) →
    ∃ rs':List Res,rs'.length=j+(o::l).length∧(∀ i,i < j+(o::l).length→HeadOk P ops t0 H masks rs' i)∧k (viewT ops rs' (fun i=>decide (i < j+(o::l).length)) t0 (j+(o::l).length)) (rs'.map (·.nb)):=by
   intro hg hk
   have hdst:∃ t',(t'=match o.dst with | some d=>(viewT ops rs (fun i=>decide (i < j)) t0 j).set d undef | none=>viewT ops rs (fun i=>decide (i < j)) t0 j)∧(∀ d,o.dst=some d→d < t0.length)∧(snocB (rs.map (·.nb)) none fun S'=>headK E ops H H.length l ms (j+1) t' S' k):=by
    cases hd:o.dst with
    | none=>rw [hd] at hk; exact ⟨_,rfl,(fun d hd=>by cases hd),hk⟩
    | some d =>
     rw [hd] at hk
     obtain ⟨k1,k2⟩:=setT_spec hk
     rw [viewT_length] at k1
     exact ⟨_,rfl,(fun d' hd'=>by cases hd'; exact k1),k2⟩
   obtain ⟨t',e1,e2,e3⟩:=hdst
   refine next ⟨undef,none,false⟩ t' e1 ⟨⟨o,⟨undef,none,false⟩,hoj,hrj _,e2,.inr ⟨rfl,rfl,by rw [hvj]; exact hg⟩⟩,fun p hp hx hg'=>?_⟩ (snocB_spec e3)
   rw [hoj] at hp; cases hp
   obtain ⟨g,want,d,v,k1,_⟩:=hg
   rw [hg'] at k1; cases k1
  unfold headK at h
  split at h
  ·exact run (.inl (by assumption)) h
  ·rename_i g want hg
   split at h
   ·rename_i d hd
    obtain ⟨v,hv,h⟩:=getT_spec h
    split at h
    ·rename_i b
     cases hb:(b == want) with
     | true=>exact run (.inr ⟨g,want,d,b,hg,hd,hv,hb⟩) (br_true h hb)
     | false=>exact skip ⟨g,want,d,_,hg,hd,hv,.inl ⟨b,rfl,hb⟩⟩ (br_false h hb)
    ·exact skip ⟨g,want,d,_,hg,hd,hv,.inr ⟨_,rfl⟩⟩ h
    ·exact h.elim
   ·exact h.elim
end Go.Ae
/- Regions that draw their order, continued: the machine's choice does not matter. -/
namespace Go.Ae
open Go Go.RowKit
structure Order (ops:List Oper) (masks:List (List Nat)):Prop where
 mask:∀ j o,ops[j]?=some o→∀ i∈masks.getD j [],i < j∧∃ e∈o.after,Region.binds .any e=true∧(e.on=i∨(i∈masks.getD e.on []∧e.on < j))
 back:∀ j o,ops[j]?=some o→∀ e∈o.after,Region.binds .any e=true→e.on < j
structure Checks (ops:List Oper) (m:Nat) (masks:List (List Nat)):Prop extends Order ops masks where
 le:m≤ops.length
 apart:∀ j o i p d,j < m→i < m→i≠j→ops[j]?=some o→ops[i]?=some p→p.dst=some d→o.dst≠some d∧(d ∉ readsOf ops o∨i∈masks.getD j []∨j∈masks.getD i [])
 tail:∀ j,j < ops.length→m≤j→∀ i,i < j→i∈masks.getD j []
theorem drawOk_spec {ops:List Oper} {m:Nat} {masks:List (List Nat)} (h:drawOk ops m masks=true):Checks ops m masks:=by
 unfold drawOk at h
 simp only [Bool.and_eq_true,decide_eq_true_eq] at h
 obtain ⟨⟨⟨⟨h1,h2⟩,h3⟩,h4⟩,h5⟩:=h
 have lt:∀ {j:Nat} {o:Oper},ops[j]?=some o→j∈List.range ops.length:=fun hj=>List.mem_range.2 (List.getElem?_eq_some_iff.1 hj).1
 refine ⟨⟨fun j o hj i hi=>?_,fun j o hj e he hb=>?_⟩,h1,fun j o i p d hj hi hne ho hp hd=>?_,fun j hj hm i hi=>?_⟩
 ·unfold masksOk at h2
  have:=List.all_eq_true.1 h2 j (lt hj)
  rw [hj] at this
  have:=List.all_eq_true.1 this i hi
  simp only [Bool.and_eq_true,decide_eq_true_eq,List.any_eq_true,Bool.or_eq_true,beq_iff_eq,List.contains_iff_mem] at this
  obtain ⟨k1,e,k2,k3,k4⟩:=this
  exact ⟨k1,e,by simpa using k2,k3,k4⟩
 ·have:=List.all_eq_true.1 h3 j (lt hj)
  rw [hj] at this
  have:=List.all_eq_true.1 this e (by simpa using he)
  simp only [hb,Bool.not_true,Bool.false_or,decide_eq_true_eq] at this
  exact this
 ·have:=List.all_eq_true.1 h4 j (List.mem_range.2 hj)
  rw [ho] at this
  have:=List.all_eq_true.1 this i (List.mem_range.2 hi)
  rw [hp] at this
  have hb:(i == j)=false:=by simp [hne]
  rw [hb,Bool.false_or] at this
  dsimp only at this
  rw [hd] at this
  simp only [Bool.and_eq_true,bne_iff_ne,Bool.or_eq_true,Bool.not_eq_true',List.contains_iff_mem,or_assoc] at this
  refine ⟨this.1,this.2.imp (fun k=>?_) (fun k=>k)⟩
  intro hmem
  rw [List.contains_iff_mem.2 hmem] at k
  cases k
 ·have:=List.all_eq_true.1 h5 j (List.mem_range.2 hj)
  simp only [Bool.or_eq_true,decide_eq_true_eq,List.all_eq_true,List.mem_range,List.contains_iff_mem] at this
  rcases this with h | h
  ·omega
  ·exact h i hi
def DB (listed:Array Bool):Nat→Bool:=fun i=>listed.getD i false
theorem DB_set {listed:Array Bool} {j:Nat} (hj:j < listed.size) (i:Nat):DB (listed.setIfInBounds j true) i=(DB listed i || i == j):=by
 unfold DB
 by_cases e:j=i
 ·subst e; simp [hj]
 ·rw [getD_set_ne false e]
  have:(i == j)=false:=by simp; exact fun h=>e h.symm
  rw [this,Bool.or_false]
theorem DB_getD {listed:Array Bool} {i:Nat} (hi:i < listed.size) (d:Bool):listed.getD i d=DB listed i:=by
 unfold DB; simp [hi]
def Closed (ops:List Oper) (D:Nat→Bool):Prop:=∀ j o,D j=true→ops[j]?=some o→∀ e∈o.after,Region.binds .any e=true→D e.on=true
theorem closed_mask {ops:List Oper} {masks:List (List Nat)} (hc:Order ops masks) {D:Nat→Bool} (hD:Closed ops D):∀ (j:Nat) o,ops[j]?=some o→(∀ e∈o.after,Region.binds .any e=true→D e.on=true)→∀ i∈masks.getD j [],D i=true:=by
 intro j
 induction j using Nat.strongRecOn with
 | _ j ih =>
  intro o ho he i hi
  obtain ⟨_,e,h1,h2,h3⟩:=hc.mask j o ho i hi
  rcases h3 with rfl | ⟨h3,h4⟩
  ·exact he e h1 h2
  ·have hde:=he e h1 h2
   cases hop:ops[e.on]? with
   | none=>rw [List.getElem?_eq_none_iff] at hop; have:=(List.getElem?_eq_some_iff.1 ho).1; omega
   | some p=>exact ih e.on h4 p hop (hD e.on p hde hop) i h3
/-- How many have not gone. -/
def undone (D:Nat→Bool) (n:Nat):Nat:=((List.range n).filter fun i=>!D i).length
theorem undone_succ (D:Nat→Bool) (n:Nat):undone D (n+1)=undone D n+if D n then 0 else 1:=by
 unfold undone
 rw [List.range_succ,List.filter_append,List.length_append]
 cases hd:D n <;> simp [hd]
theorem undone_set {D D':Nat→Bool} {j:Nat} (h:∀ i,D' i=(D i || i == j)) (hj:D j=false):∀ n,undone D' n+(if j < n then 1 else 0)=undone D n
 | 0=>by simp [undone]
 | n+1=>by
  have ih:=undone_set h hj n
  rw [undone_succ,undone_succ,h n]
  by_cases e:n=j
  ·subst e
   simp only [Nat.lt_irrefl,if_false,Nat.add_zero] at ih
   rw [hj]; simp; omega
  ·have:(n == j)=false:=by simp [e]
   rw [this,Bool.or_false]
   by_cases hlt:j < n
   ·have e1:(if j < n+1 then 1 else 0)=1:=if_pos (by omega)
    rw [if_pos hlt] at ih; rw [e1]; generalize (if D n=true then 0 else 1)=z; omega
   ·have e1:(if j < n+1 then 1 else 0)=0:=if_neg (by omega)
    rw [if_neg hlt] at ih; rw [e1]; generalize (if D n=true then 0 else 1)=z; omega
theorem undone_pos {D:Nat→Bool} {n i:Nat} (hi:i < n) (hD:D i=false):0 < undone D n:=by
 unfold undone
 exact List.length_pos_of_mem (List.mem_filter.2 ⟨List.mem_range.2 hi,by simp [hD]⟩)
theorem readsOf_guard {ops:List Oper} {o:Oper} {g:Nat} {want:Bool} {d:Tmp} (hg:o.guard=some (g,want)) (hd:dstOf ops g=some d):d∈readsOf ops o:=by
 have hd':(ops[g]?).bind (fun x=>x.dst)=some d:=hd
 unfold readsOf
 refine List.mem_append_right _ ?_
 rw [hg]
 dsimp only
 rw [hd']
 simp
section
variable {P:Program} {E:Env} {r:Option Nat} {n:Nat} {F:Fr} {ops:Array Oper} {Q:Exit→Act→World→Prop} {m:Nat} {masks:List (List Nat)} {k:SK}
/-- If all before it has gone, it may go. -/
theorem least_ready (hc:Order ops.toList masks) {listed:Array Bool} (hs:listed.size=ops.size) {j:Nat} (hj:j < ops.size) (h0:DB listed j=false) (h1:∀ i,i < j→DB listed i=true):j∈Region.ready .any ops listed:=by
 rw [mem_ready]
 refine ⟨by rw [DB_getD (by omega)]; exact h0,ops[j],Array.getElem?_eq_getElem hj,fun e he hb=>?_⟩
 exact h1 _ (hc.back j ops[j] (by simp [hj]) e he hb)
theorem tail_game (hE:EnvX P E) (hn0:FrE F E) (hc:Order ops.toList masks) (htail:∀ j,j < ops.toList.length→m≤j→∀ i,i < j→i∈masks.getD j []) (hk:∀ ν t' H' a' w',SInv F ν t' H' a' w'→k t' H'→Q .normal a' w') :
  ∀ (fuel:Nat) (listed:Array Bool) (j0:Nat) (ν:Nu) (t:List Value) (H:Heap) (a:Act) (w:World),listed.size=ops.size→(∀ i,DB listed i=decide (i < j0))→m≤j0→j0≤ops.size →
  SInv F ν t H a w→opsK E ops.toList (ops.toList.drop j0) t H k→ops.size≤j0+fuel→wpAnyIn (WF r) n P .any ops Q fuel listed a w:=by
 intro fuel
 induction fuel with
 | zero =>
  intro listed j0 ν t H a w hs hD hm hle hi h hf
  have e:j0=ops.size:=by omega
  subst e
  rw [List.drop_eq_nil_of_le (by simp)] at h
  refine ⟨?_,hk _ _ _ _ _ hi h⟩
  rw [List.eq_nil_iff_forall_not_mem]
  intro j hj
  rw [mem_ready] at hj
  obtain ⟨h1,o,ho,_⟩:=hj
  have hlt:j < ops.size:=(Array.getElem?_eq_some_iff.1 ho).1
  rw [DB_getD (by omega),hD j] at h1
  simp at h1; omega
 | succ fuel ih =>
  intro listed j0 ν t H a w hs hD hm hle hi h hf
  by_cases e:j0=ops.size
  ·subst e
   rw [List.drop_eq_nil_of_le (by simp)] at h
   refine ⟨fun _=>hk _ _ _ _ _ hi h,fun j hj=>?_⟩
   rw [mem_ready] at hj
   obtain ⟨h1,o,ho,_⟩:=hj
   have hlt:j < ops.size:=(Array.getElem?_eq_some_iff.1 ho).1
   rw [DB_getD (by omega),hD j] at h1
   simp at h1; omega
  ·have hlt:j0 < ops.size:=by omega
   have hr:=least_ready hc hs hlt (by rw [hD]; simp) (fun i hi=>by rw [hD]; simpa using hi)
   refine ⟨fun hn=>?_,fun j hj=>?_⟩
   ·rw [hn] at hr; cases hr
   ·rw [mem_ready] at hj
    obtain ⟨h1,o,ho,he⟩:=hj
    have hjs:j < ops.size:=(Array.getElem?_eq_some_iff.1 ho).1
    rw [DB_getD (by omega),hD j] at h1
    have hge:j0≤j:=by simpa using h1
    have hol:ops.toList[j]?=some o:=by simpa using ho
    have hj0:j=j0:=by
     rcases Nat.lt_or_ge j0 j with hlt' | hge'
     ·have hmem:=htail j (by simpa using hjs) (by omega) j0 hlt'
      have hcl:Closed ops.toList (DB listed):=fun i p hi' hp e' he' hb'=>by
       rw [hD] at hi' ⊢
       have:=hc.back i p hp e' he' hb'
       simp at hi' ⊢; omega
      have:=closed_mask hc hcl j o hol (fun e' he' hb'=>he e' he' hb') j0 hmem
      rw [hD] at this; simp at this
     ·omega
    subst hj0
    have hdrop:ops.toList.drop j=o::ops.toList.drop (j+1):=by
     rw [List.drop_eq_getElem_cons (by simpa using hjs)]
     congr 1
     have:=List.getElem?_eq_getElem (l:=ops.toList) (i:=j) (by simpa using hjs)
     rw [hol] at this; exact (Option.some.inj this).symm
    rw [hdrop] at h
    unfold wpOpIn
    rw [ho]
    refine step_sound hE hn0 hi (opsK_cons h) (fun ν t' H' a' w' hi' h'=>?_)
    refine ih _ (j+1) ν t' H' a' w' (by simp [hs]) (fun i=>?_) (by omega) (by omega) hi' h' (by omega)
    rw [DB_set (by omega),hD i]
    by_cases e':i=j
    ·subst e'; simp
    ·have:(i == j)=false:=by simp [e']
     rw [this,Bool.or_false]
     simp; omega
/-- If exactly the first m have gone. -/
theorem undone_first {D:Nat→Bool} {m:Nat} (hD:∀ i,D i=decide (i < m)):∀ q,m≤q→undone D q=q - m:=by
 intro q
 induction q with
 | zero=>intro h; simp [undone]
 | succ q ihq =>
  intro h
  rw [undone_succ,hD q]
  by_cases e:m=q+1
  ·subst e
   have:∀ q',q'≤q+1→undone D q'=0:=by
    intro q'
    induction q' with
    | zero=>intro _; simp [undone]
    | succ q' ih'=>intro h'; rw [undone_succ,ih' (by omega),hD q']; simp; omega
   rw [this q (by omega)]; simp
  ·rw [ihq (by omega)]
   have:¬ (q < m):=by omega
   simp [this]; omega
/-- The least that has not gone. -/
theorem least_undone {D:Nat→Bool} {i:Nat} (h:D i=false):∃ j,j≤i∧D j=false∧∀ q,q < j→D q=true:=by
 induction i using Nat.strongRecOn with
 | _ i ihi =>
  by_cases hall:∀ j,j < i→D j=true
  ·exact ⟨i,Nat.le_refl _,h,hall⟩
  ·have:∃ j,j < i∧D j=false:=by
    refine Classical.byContradiction fun hne=>hall fun j hj=>?_
    cases hd:D j with
    | true=>rfl
    | false=>exact absurd ⟨j,hj,hd⟩ hne
   obtain ⟨j,h3,h4⟩:=this
   obtain ⟨q,k1,k2,k3⟩:=ihi j h3 h4
   exact ⟨q,by omega,k2,k3⟩
theorem head_game (hc:Order ops.toList masks) (hsize:m≤ops.size)
  (hapart:∀ j o i p d,j < m→i < m→i≠j→ops.toList[j]?=some o→ops.toList[i]?=some p→p.dst=some d→o.dst≠some d∧(d ∉ readsOf ops.toList o∨i∈masks.getD j []∨j∈masks.getD i []))
  {fl:List Nat} (hlate:∀ j,j < ops.size→m≤j→∀ i,i < m→i ∉ fl→i∈masks.getD j [])
  {t0:List Value} {H:Heap} {rs:List Res} (hh:∀ i,i < m→HeadOk P ops.toList t0 H masks rs i)
  (hend:∀ (fuel:Nat) (listed:Array Bool) (ν:Nu) (a:Act) (w:World),listed.size=ops.size→Closed ops.toList (DB listed)→(∀ i,DB listed i=true→i < m)→(∀ i,i < m→i ∉ fl→DB listed i=true) →
   SInv F ν (viewT ops.toList rs (DB listed) t0 m) (H++viewS rs (DB listed) m) a w→undone (DB listed) ops.size≤fuel→wpAnyIn (WF r) n P .any ops Q fuel listed a w) :
  ∀ (fuel:Nat) (listed:Array Bool) (ν:Nu) (a:Act) (w:World),listed.size=ops.size→Closed ops.toList (DB listed)→(∀ i,DB listed i=true→i < m) →
  SInv F ν (viewT ops.toList rs (DB listed) t0 m) (H++viewS rs (DB listed) m) a w→(∀ i,i < m→DB listed i=false→ν (H.length+i)=none)→undone (DB listed) ops.size≤fuel →
  wpAnyIn (WF r) n P .any ops Q fuel listed a w:=by
 have hdst:∀ i d,i < m→dstOf ops.toList i=some d→d < t0.length:=by
  intro i d hi hd
  obtain ⟨o,q,h1,h2,h3,_⟩:=(hh i hi).ok
  unfold dstOf at hd
  rw [h1] at hd
  exact h3 d hd
 have hap:Apart ops.toList m:=by
  intro i j d hi hj h1 h2
  rcases Nat.decEq i j with hne | he
  ·obtain ⟨o,q,k1,_⟩:=(hh i hi).ok
   obtain ⟨p,q',k2,_⟩:=(hh j hj).ok
   unfold dstOf at h1 h2
   rw [k1] at h1; rw [k2] at h2
   exact absurd h1 (hapart i o j p d hi hj (Ne.symm hne) k1 k2 h2).1
  ·exact he
 intro fuel
 induction fuel with
 | zero =>
  intro listed ν a w hs hcl hlt hi hfr hu
  have hall:∀ i,i < ops.size→DB listed i=true:=fun i hi'=>by
   cases hd:DB listed i with
   | true=>rfl
   | false=>have:=undone_pos hi' hd; omega
  exact hend 0 listed ν a w hs hcl hlt (fun i hi' _=>hall i (by omega)) hi hu
 | succ fuel ih =>
  intro listed ν a w hs hcl hlt hi hfr hu
  by_cases hdone:∀ i,i < m→i ∉ fl→DB listed i=true
  ·exact hend (fuel+1) listed ν a w hs hcl hlt hdone hi hu
  ·-- something of the head has not gone: the least such one may go
   have hex:∃ i,i < m∧i ∉ fl∧DB listed i=false:=by
    refine Classical.byContradiction fun hne=>hdone fun i hi' hf=>?_
    cases hd:DB listed i with
    | true=>rfl
    | false=>exact absurd ⟨i,hi',hf,hd⟩ hne
   obtain ⟨i1,hi1,hf1,hd1⟩:=hex
   obtain ⟨i0,hi01,hd0,hb0⟩:=least_undone hd1
   have hi0:i0 < m:=by omega
   have hr:=least_ready hc hs (by omega:i0 < ops.size) hd0 hb0
   refine ⟨(fun hn=>by rw [hn] at hr; cases hr),fun j hj=>?_⟩
   rw [mem_ready] at hj
   obtain ⟨h1,o,ho,he⟩:=hj
   have hjs:j < ops.size:=(Array.getElem?_eq_some_iff.1 ho).1
   rw [DB_getD (by omega)] at h1
   have hol:ops.toList[j]?=some o:=by simpa using ho
   have hmk:=closed_mask hc hcl j o hol (fun e' he' hb'=>he e' he' hb')
   have hjm:j < m:=by
    rcases Nat.lt_or_ge j m with h | h
    ·exact h
    ·have:=hmk i1 (hlate j hjs h i1 hi1 hf1)
     rw [hd1] at this; cases this
   obtain ⟨o',q,g1,g2,g3,g4⟩:=(hh j hjm).ok
   rw [hol] at g1; cases g1
   have hdj:dstOf ops.toList j=o.dst:=by simp [dstOf,hol]
   -- what it reads stands as the text's order has it
   have hread:∀ d,d∈readsOf ops.toList o→(viewT ops.toList rs (DB listed) t0 m)[d]?=(viewT ops.toList rs (fun i=>decide (i < j)) t0 j)[d]?:=by
    intro d hd
    rw [← viewT_cut (j:=j) (m:=m) (by omega) (fun i h1 h2=>by simp; omega)]
    refine viewT_same hap hdst (fun i hi' hdi=>?_)
    by_cases e:i=j
    ·subst e; rw [h1]; simp
    ·obtain ⟨p,q',k1,_⟩:=(hh i hi').ok
     have hpd:p.dst=some d:=by unfold dstOf at hdi; rw [k1] at hdi; exact hdi
     rcases (hapart j o i p d hjm hi' e hol k1 hpd).2 with h | h | h
     ·exact absurd hd h
     ·rw [hmk i h]
      have:=(hc.mask j o hol i h).1
      simp [this]
     ·have hji:=(hc.mask i p k1 j h).1
      have:DB listed i=false:=by
       cases hd':DB listed i with
       | false=>rfl
       | true =>
        have:=closed_mask hc hcl i p k1 (hcl i p hd' k1) j h
        rw [h1] at this; cases this
      rw [this]; simp; omega
   have hset:∀ i,DB (listed.setIfInBounds j true) i=(DB listed i || i == j):=fun i=>DB_set (by omega) i
   have hcl':Closed ops.toList (DB (listed.setIfInBounds j true)):=by
    intro i p hi' hp e' he' hb'
    rw [hset] at hi' ⊢
    by_cases e:i=j
    ·subst e
     rw [hol] at hp; cases hp
     have:DB listed e'.on=true:=he e' he' hb'
     rw [this]; rfl
    ·have e2:(i == j)=false:=by simp [e]
     rw [e2,Bool.or_false] at hi'
     rw [hcl i p hi' hp e' he' hb']; rfl
   have hlt':∀ i,DB (listed.setIfInBounds j true) i=true→i < m:=fun i hi'=>by
    rw [hset] at hi'
    by_cases e:i=j
    ·subst e; exact hjm
    ·have e2:(i == j)=false:=by simp [e]
     rw [e2,Bool.or_false] at hi'
     exact hlt i hi'
   have hu':undone (DB (listed.setIfInBounds j true)) ops.size≤fuel:=by
    have:=undone_set hset h1 ops.size
    rw [if_pos hjs] at this; omega
   have hstep:=viewT_step (D:=DB listed) (D':=DB (listed.setIfInBounds j true)) hap hdst hjm h1 hset g2
   rw [hdj] at hstep
   have hvs:∀ (id:Nat) (c:Blk),(H++viewS rs (DB (listed.setIfInBounds j true)) m)[id]?=some (some c) ↔
     (H++viewS rs (DB listed) m)[id]?=some (some c)∨(id=H.length+j∧q.nb=some c):=by
    intro id c
    by_cases hid:id < H.length
    ·rw [List.getElem?_append_left hid,List.getElem?_append_left hid]
     constructor
     ·exact .inl
     ·rintro (h | ⟨h,_⟩)
      ·exact h
      ·omega
    ·rw [List.getElem?_append_right (by omega),List.getElem?_append_right (by omega),viewS_get,viewS_get]
     constructor
     ·rintro ⟨k1,k2,k3⟩
      rw [hset] at k2
      by_cases e:id - H.length=j
      ·refine .inr ⟨by omega,?_⟩
       rw [e,g2] at k3; exact k3
      ·have e2:(id - H.length == j)=false:=by simp [e]
       rw [e2,Bool.or_false] at k2
       exact .inl ⟨k1,k2,k3⟩
     ·rintro (⟨k1,k2,k3⟩ | ⟨k1,k2⟩)
      ·exact ⟨k1,by rw [hset,k2]; rfl,k3⟩
      ·have e:id - H.length=j:=by omega
       rw [e]
       exact ⟨hjm,by rw [hset]; simp,by rw [g2]; exact k2⟩
   have hnone:ν (H.length+j)=none:=hfr j hjm h1
   have hlenS:(H++viewS rs (DB listed) m).length=H.length+m:=by rw [List.length_append,viewS_length]
   have hlenS':(H++viewS rs (DB (listed.setIfInBounds j true)) m).length=H.length+m:=by rw [List.length_append,viewS_length]
   -- the state behind it
   have after:∀ v' w' ν',QPost ν ν' (H.length+j) w w' q.v v' q.nb→wpAnyIn (WF r) n P .any ops Q fuel (listed.setIfInBounds j true) (a.put o.dst v') w':=by
    intro v' w' ν' hp
    have hb:=hp.below
    refine ih _ ν' _ w' (by simp [hs]) hcl' hlt' ⟨?_,?_,?_,fun id hid=>?_,hi.kp.below hb,fun id c lc hc' hoc hlc=>?_,Nu.le_trans hi.mono hp.le⟩ (fun i hi' hd'=>?_) hu'
    ·rw [hstep]
     cases hd:o.dst with
     | none=>exact hi.tm.mono hp.le
     | some d=>rw [put_tmps]; exact (hi.tm.mono hp.le).set hp.val d
    ·cases o.dst <;> exact hi.df.below hb
    ·cases hnb:q.nb with
     | none =>
      have:=hp.isN hnb
      subst this
      refine (hi.hp.below hb).fewer (fun id c hc'=>?_)
      rcases (hvs id c).1 hc' with h | ⟨_,h⟩
      ·exact h
      ·rw [hnb] at h; cases h
     | some b =>
      obtain ⟨l,hl,hB,hle⟩:=hp.isS b hnb
      have hadd:ν'=ν.add (H.length+j) l:=by
       funext id
       by_cases e:id=H.length+j
       ·subst e; rw [hl,Nu.add_same]
       ·rw [hp.only id e,Nu.add_ne e]
      subst hadd
      refine hi.hp.push hb hnone _ (fun id c hc'=>?_) hle hB
      rcases (hvs id c).1 hc' with h | ⟨h3,h4⟩
      ·by_cases e:id=H.length+j
       ·obtain ⟨l',hl',_⟩:=hi.hp.blk id c h
        rw [e,hnone] at hl'; cases hl'
       ·exact .inr ⟨e,h⟩
      ·rw [hnb] at h4; cases h4
       exact .inl ⟨h3,rfl⟩
    ·rw [hlenS'] at hid
     rw [hp.only id (by omega)]
     exact hi.fr id (by rw [hlenS]; exact hid)
    ·rcases (hvs id c).1 hc' with h | ⟨h3,h4⟩
     ·have hne:id≠H.length+j:=fun e=>by
       obtain ⟨l',hl',_⟩:=hi.hp.blk id c h
       rw [e,hnone] at hl'; cases hl'
      rw [hp.only id hne] at hlc
      exact hi.own id c lc h hoc hlc
     ·obtain ⟨l,hl,_,hle⟩:=hp.isS c h4
      rw [h3,hl] at hlc; cases hlc
      exact .inr (Nat.le_trans hi.kp.size hle)
    ·have hne:i≠j:=fun e=>by subst e; rw [hset] at hd'; simp at hd'
     rw [hp.only _ (by omega)]
     refine hfr i hi' ?_
     rw [hset] at hd'
     simp only [Bool.or_eq_false_iff] at hd'
     exact hd'.1
   unfold wpOpIn
   rw [ho]
   dsimp only
   have hrd:∀ d,d∈readsOf ops.toList o→∀ v,(viewT ops.toList rs (fun i=>decide (i < j)) t0 j)[d]?=some v→∃ v',a.tmps[d]?=some v'∧VRel ν v v':=by
    intro d hd v hv
    rw [← hread d hd] at hv
    obtain ⟨v',k1,k2⟩:=hi.tm.get hv
    exact ⟨v',by simpa using k1,k2⟩
   rcases g4 with ⟨G,q1,q2,q3⟩ | ⟨q1,q2,g,want,d,v,q3,q4,q5,q6⟩
   ·have hw:Region.wanted o (yielded ops a.tmps)=true:=by
     rcases q3 with hg | ⟨g,want,d,b,hg,hd,hv,hb⟩
     ·simp [Region.wanted,hg]
     ·obtain ⟨v',k1,k2⟩:=hrd d (readsOf_guard hg hd) _ hv
      rw [k2.to_bool] at k1
      have hy:=yielded_of (ops:=ops) (tmps:=a.tmps) (j:=g) (d:=d) (by simpa [dstOf] using hd)
      rw [k1] at hy
      simp only [Region.wanted,hg,hy]
      rw [← hb]
      cases b <;> cases want <;> rfl
    rw [if_pos hw]
    refine q2 ν a w r n (fun x hx t ht v hv=>hrd t ?_ v hv) (hi.hp.fewer fun id b hb=>?_) hnone _ Q after
    ·unfold readsOf
     exact List.mem_append_left _ (opTmps_mem (by rw [ht] at hx; simpa using hx))
    ·rcases q1 id b hb with ⟨h3,h4⟩ | ⟨i,h3,h4,h5,h6⟩
     ·rw [List.getElem?_append_left h3]; exact h4
     ·subst h3
      rw [List.getElem?_append_right (by omega)]
      rw [show H.length+i - H.length=i by omega,viewS_get]
      exact ⟨by omega,hmk i h5,h6⟩
   ·have hw:Region.wanted o (yielded ops a.tmps)=false:=by
     obtain ⟨v',k1,k2⟩:=hrd d (readsOf_guard q3 q4) _ q5
     have hy:=yielded_of (ops:=ops) (tmps:=a.tmps) (j:=g) (d:=d) (by simpa [dstOf] using q4)
     rw [k1] at hy
     rcases q6 with ⟨b,rfl,hb⟩ | ⟨vs,rfl⟩
     ·rw [k2.to_bool] at hy
      simp only [Region.wanted,q3,hy]
      rw [← hb]
      cases b <;> cases want <;> rfl
     ·obtain ⟨ys,rfl,_⟩:=VRel.to_tuple (xs:=vs.toList) k2
      simp only [Region.wanted,q3,hy]
      rfl
    rw [if_neg (by rw [hw]; simp)]
    refine ⟨fun _ _=>trivial,after undef w ν ⟨ν.le_refl,fun _ _=>rfl,by rw [q1]; exact .undef ν,Below.refl _ _,fun _=>rfl,(fun b hb=>by rw [q2] at hb; cases hb)⟩⟩
/-- **Whatever order is drawn.** -/
theorem drawK_ok (hm:P.follows .mixedOrders=true):DOk P drawK:=by
 intro E hE r n F hn0 ops Q id ν tmps H a w k hi h hk
 obtain ⟨m,masks,hok,h⟩:=h
 have h:=lenK_spec h
 obtain ⟨hmle,h⟩:=takeO_spec h
 have hc:=drawOk_spec hok
 obtain ⟨rs,hrs,hhead,hfin⟩:=head_spec (P:=P) hE.toEnvOk (ops:=ops.toList) (t0:=tmps) (H:=H) (masks:=masks) (l:=ops.toList.take m) (ms:=masks) (j:=0) (rs:=[]) rfl
  (fun i o ho=>by
   rw [List.getElem?_take] at ho
   split at ho
   ·simpa using ho
   ·cases ho)
  (fun i _=>by simp) (fun i hi=>by omega) h
 have hfin:=apH_spec hfin
 have hlen:0+(ops.toList.take m).length=m:=by rw [List.length_take]; omega
 rw [hlen] at hrs hhead hfin
 refine wpIn_region_any hm ?_
 have hD:DB (Array.replicate ops.size false)=fun _=>false:=by
  funext i
  unfold DB
  by_cases h:i < ops.size <;> simp [h]
 refine head_game (F:=F) (fl:=[]) hc.toOrder (by have:=hc.le; simpa using this) hc.apart (fun j hj hm i hi _=>hc.tail j (by simpa using hj) hm i (by omega)) hhead ?_ ops.size _ ν a _ (by simp) (fun j o hj=>by rw [hD] at hj; cases hj) (fun i hi'=>by rw [hD] at hi'; cases hi') ?_ (fun i _ _=>hi.fr _ (by omega)) ?_
 ·intro fuel listed ν a w hs hcl hlt hall hi hu
  have hle:m≤ops.size:=by have:=hc.le; simpa using this
  have hD:∀ i,DB listed i=decide (i < m):=fun i=>by
   by_cases h:i < m
   ·rw [hall i h (by simp)]; simp [h]
   ·cases hd:DB listed i with
    | true=>exact absurd (hlt i hd) h
    | false=>simp [h]
  have e1:viewT ops.toList rs (DB listed) tmps m=viewT ops.toList rs (fun i=>decide (i < m)) tmps m:=viewT_congrD (fun i _=>hD i)
  have e2:viewS rs (DB listed) m=rs.map (·.nb):=by
   unfold viewS
   apply List.ext_getElem?
   intro i
   rw [List.getElem?_map,List.getElem?_map]
   by_cases h:i < m
   ·rw [List.getElem?_range h,List.getElem?_eq_getElem (by omega:i < rs.length)]
    simp only [Option.map_some,hD i,h,decide_true,if_true]
    rw [List.getElem?_eq_getElem (by omega:i < rs.length)]; rfl
   ·rw [List.getElem?_eq_none (by simp; omega),List.getElem?_eq_none (by omega)]; rfl
  rw [e1,e2] at hi
  exact tail_game hE hn0 hc.toOrder hc.tail hk fuel listed m ν _ _ a w hs hD (Nat.le_refl _) hle hi hfin (by
   have:=undone_first hD ops.size hle; omega)
 ·rw [hD]
  have e1:viewT ops.toList rs (fun _=>false) tmps m=tmps:=viewT_cut (j:=0) (by omega) (fun _ _ _=>rfl)
  rw [e1]
  have hdrew:Below w.heap.size w { w with drawn:=w.drawn+1 }:=⟨rfl,rfl,rfl,Nat.le_refl _,fun _ _=>rfl⟩
  refine ⟨hi.tm,hi.df.below hdrew,(hi.hp.below hdrew).fewer (fun id c hc'=>?_),fun id hid=>hi.fr id (by rw [List.length_append] at hid; omega),hi.kp.below hdrew,fun id c lc hc' hoc hlc=>?_,hi.mono⟩
  ·rw [List.getElem?_append] at hc'
   split at hc'
   ·exact hc'
   ·have:=(viewS_get.1 hc').2.1; cases this
  ·rw [List.getElem?_append] at hc'
   split at hc'
   ·exact hi.own id c lc hc' hoc hlc
   ·have:=(viewS_get.1 hc').2.1; cases this
 ·unfold undone
  have:=List.length_filter_le (fun i=>!DB (Array.replicate ops.size false) i) (List.range ops.size)
  simpa using this
end
end Go.Ae
/- Regions that draw, in which moves may come behind the first stores. -/
namespace Go.Ae
open Go Go.RowKit
/-- A store or a quiet operation. -/
def midK (E:Env) (o:Oper) (t:List Value) (H:Heap) (k:SK):Prop :=
 match o.op with
 | .store ty x y=>storeK E t H ty x y fun t' H'=>dstK t' o.dst undef fun t''=>k t'' H'
 | .call c=>match c.callee with
  | .builtin .append=>match c.args.toList,c.argTypes.toList with
   | [x,y],[ty,ty']=>match Nat.beq ty ty' with
    | true=>evalK t x fun xv=>evalK t y fun yv=>match exactCap xv with
     | true=>appendV E [] H ty xv yv fun v _ H'=>dstK t o.dst v fun t'=>k t' H'
     | false=>False
    | false=>False
   | _,_=>False
  | .builtin .copy=>match c.args.toList,c.argTypes.toList with
   | [x,y],[ty,_]=>evalK t x fun xv=>evalK t y fun yv=>copyInK E H ty xv yv fun v H'=>dstK t o.dst v fun t'=>k t' H'
   | _,_=>False
  | _=>lenK H fun nid=>opQ E o.op t H nid fun v nb=>dstK t o.dst v fun t'=>newK H nb fun H'=>k t' H'
 | _=>lenK H fun nid=>opQ E o.op t H nid fun v nb=>dstK t o.dst v fun t'=>newK H nb fun H'=>k t' H'
/-- Blocks from before the region stay, where it is asked. -/
def frzK:Option Nat→Heap→Heap→Prop→Prop
 | none,_,_,k=>k
 | some n,H,H',k=>H'.take n=H.take n∧k
def midsK (E:Env) (fz:Option Nat):List Oper→List Value→Heap→SK→Prop
 | [],t,H,k=>k t H
 | o::l,t,H,k=>midK E o t H fun t' H'=>frzK fz H H' (midsK E fz l t' H' k)
theorem frzK_spec {fz:Option Nat} {H H':Heap} {k:Prop} (h:frzK fz H H' k):k∧∀ n,fz=some n→H'.take n=H.take n:=by
 cases fz with
 | none=>exact ⟨h,fun n e=>by cases e⟩
 | some m=>exact ⟨h.2,fun n e=>by cases e; exact h.1⟩
/-- Does a floating operation read the heap? -/
def fzOf (ops:List Oper) (fl:List Nat) (n:Nat):Option Nat:=match fl.all fun f=>match ops[f]? with | some o=>pureOp o.op | none=>true with
 | true=>none
 | false=>some n
def floatOk (ops:List Oper) (m q:Nat) (masks:List (List Nat)) (fl:List Nat):Bool :=
 decide (m+q≤ops.length) && masksOk ops masks &&
 (List.range ops.length).all (fun j=>match ops[j]? with
  | some o=>o.after.toList.all fun e=>!Region.binds .any e || decide (e.on < j)
  | none=>true) &&
 (List.range m).all (fun j=>match ops[j]? with
  | some o=>(List.range m).all fun i=>i == j || match ops[i]? with
   | some p=>match p.dst with
    | some d=>(o.dst != some d) && (!(readsOf ops o).contains d || (masks.getD j []).contains i || (masks.getD i []).contains j)
    | none=>true
   | none=>true
  | none=>true) &&
 fl.all (fun f=>decide (f < m) && match ops[f]? with
  | some o=>o.guard.isNone && ((pureOp o.op || (heapOp o.op && (masks.getD f []).all fun i=>fl.contains i)) && ((match o.dst with | some d=>!(opTmps o.op.operands.toList).contains d | none=>false) && (List.range (m+q)).all fun i=>i == f || (match dstOf ops i with
   | none=>true
   | some e=>(o.dst != some e) && (!(opTmps o.op.operands.toList).contains e || (decide (i < m) && (masks.getD f []).contains i)))))
  | none=>false) &&
 (List.range (m+q)).all (fun j=>decide (j < m) || match ops[j]? with
  | some o=>o.guard.isNone && ((List.range j).all fun i=>(masks.getD j []).contains i || fl.contains i) && fl.all fun f=>(masks.getD j []).contains f || match dstOf ops f with | some d=>!(readsOf ops o).contains d | none=>false
  | none=>true) &&
 (List.range ops.length).all (fun j=>decide (j < m+q) || (List.range j).all fun i=>(masks.getD j []).contains i)
structure FChecks (ops:List Oper) (m q:Nat) (masks:List (List Nat)) (fl:List Nat):Prop extends Order ops masks where
 le:m+q≤ops.length
 apart:∀ j o i p d,j < m→i < m→i≠j→ops[j]?=some o→ops[i]?=some p→p.dst=some d→o.dst≠some d∧(d ∉ readsOf ops o∨i∈masks.getD j []∨j∈masks.getD i [])
 flt:∀ f∈fl,f < m∧∃ o d,ops[f]?=some o∧o.guard=none∧(pureOp o.op=true∨(heapOp o.op=true∧∀ i∈masks.getD f [],i∈fl))∧o.dst=some d∧d ∉ opTmps o.op.operands.toList∧∀ i e,i < m+q→i≠f→dstOf ops i=some e→e≠d∧(e∈opTmps o.op.operands.toList→i < m∧i∈masks.getD f [])
 mid:∀ j o,m≤j→j < m+q→ops[j]?=some o→o.guard=none∧(∀ i,i < j→i∈masks.getD j []∨i∈fl)∧∀ f∈fl,f∈masks.getD j []∨∀ d,dstOf ops f=some d→d ∉ readsOf ops o
 tail:∀ j,j < ops.length→m+q≤j→∀ i,i < j→i∈masks.getD j []
theorem floatOk_spec {ops:List Oper} {m q:Nat} {masks:List (List Nat)} {fl:List Nat} (h:floatOk ops m q masks fl=true):FChecks ops m q masks fl:=by
 unfold floatOk at h
 simp only [Bool.and_eq_true,decide_eq_true_eq] at h
 obtain ⟨⟨⟨⟨⟨⟨h1,h2⟩,h3⟩,h4⟩,h5⟩,h6⟩,h7⟩:=h
 have lt:∀ {j:Nat} {o:Oper},ops[j]?=some o→j∈List.range ops.length:=fun hj=>List.mem_range.2 (List.getElem?_eq_some_iff.1 hj).1
 refine ⟨⟨fun j o hj i hi=>?_,fun j o hj e he hb=>?_⟩,h1,fun j o i p d hj hi hne ho hp hd=>?_,fun f hf=>?_,fun j o hm hj ho=>?_,fun j hj hm i hi=>?_⟩
 ·unfold masksOk at h2
  have:=List.all_eq_true.1 h2 j (lt hj)
  rw [hj] at this
  have:=List.all_eq_true.1 this i hi
  simp only [Bool.and_eq_true,decide_eq_true_eq,List.any_eq_true,Bool.or_eq_true,beq_iff_eq,List.contains_iff_mem] at this
  obtain ⟨k1,e,k2,k3,k4⟩:=this
  exact ⟨k1,e,by simpa using k2,k3,k4⟩
 ·have:=List.all_eq_true.1 h3 j (lt hj)
  rw [hj] at this
  have:=List.all_eq_true.1 this e (by simpa using he)
  simp only [hb,Bool.not_true,Bool.false_or,decide_eq_true_eq] at this
  exact this
 ·have:=List.all_eq_true.1 h4 j (List.mem_range.2 hj)
  rw [ho] at this
  have:=List.all_eq_true.1 this i (List.mem_range.2 hi)
  rw [hp] at this
  have hb:(i == j)=false:=by simp [hne]
  rw [hb,Bool.false_or] at this
  dsimp only at this
  rw [hd] at this
  simp only [Bool.and_eq_true,bne_iff_ne,Bool.or_eq_true,Bool.not_eq_true',List.contains_iff_mem,or_assoc] at this
  refine ⟨this.1,this.2.imp (fun k=>?_) (fun k=>k)⟩
  intro hmem
  rw [List.contains_iff_mem.2 hmem] at k
  cases k
 ·have:=List.all_eq_true.1 h5 f hf
  simp only [Bool.and_eq_true,decide_eq_true_eq] at this
  obtain ⟨k1,k2⟩:=this
  refine ⟨k1,?_⟩
  split at k2
  ·rename_i o ho
   simp only [Bool.and_eq_true,Bool.or_eq_true,Option.isNone_iff_eq_none] at k2
   obtain ⟨k2,hx,k3,k4⟩:=k2
   cases hd:o.dst with
   | none=>rw [hd] at k3; cases k3
   | some d =>
   rw [hd] at k3
   have hself:d ∉ opTmps o.op.operands.toList:=fun hm=>by
    have k3:(!(opTmps o.op.operands.toList).contains d)=true:=k3
    rw [List.contains_iff_mem.2 hm] at k3; cases k3
   refine ⟨o,d,ho,k2,hx.imp id (fun h=>⟨h.1,fun i hi=>by simpa using List.all_eq_true.1 h.2 i hi⟩),hd,hself,fun i e hi hne he=>?_⟩
   have:=List.all_eq_true.1 k4 i (List.mem_range.2 hi)
   have hb:(i == f)=false:=by simp [hne]
   rw [hb,Bool.false_or,he,hd] at this
   simp only [Bool.or_eq_true,Bool.and_eq_true,bne_iff_ne,decide_eq_true_eq,List.contains_iff_mem,Bool.not_eq_true'] at this
   obtain ⟨h1,h2⟩:=this
   refine ⟨fun e'=>h1 (by rw [e']),fun e'=>?_⟩
   rcases h2 with h2 | h2
   ·rw [List.contains_iff_mem.2 e'] at h2; cases h2
   ·exact h2
  ·cases k2
 ·have:=List.all_eq_true.1 h6 j (List.mem_range.2 hj)
  have hd:decide (j < m)=false:=by simp; omega
  rw [hd,Bool.false_or,ho] at this
  simp only [Bool.and_eq_true,Option.isNone_iff_eq_none,List.all_eq_true,List.mem_range,Bool.or_eq_true,List.contains_iff_mem] at this
  obtain ⟨⟨k1,k2⟩,k3⟩:=this
  refine ⟨k1,k2,fun f hf=>(k3 f hf).imp (fun h=>h) (fun h d hd=>?_)⟩
  rw [hd] at h
  simp only [Bool.not_eq_true'] at h
  intro hmem
  rw [List.contains_iff_mem.2 hmem] at h
  cases h
 ·have:=List.all_eq_true.1 h7 j (List.mem_range.2 hj)
  simp only [Bool.or_eq_true,decide_eq_true_eq,List.all_eq_true,List.mem_range,List.contains_iff_mem] at this
  rcases this with h | h
  ·omega
  ·exact h i hi
/-- A region that draws, with floating moves. -/
def drawF (E:Env) (ops:List Oper) (t:List Value) (H:Heap) (k:SK):Prop :=
 ∃ (m q:Nat) (masks:List (List Nat)) (fl:List Nat),floatOk ops m q masks fl=true∧lenK H fun n0=>takeO ops m fun hd tl=>takeO tl q fun md tl2 =>
  headK E ops H n0 hd masks 0 t [] fun t' S=>apH H S fun G=>midsK E (fzOf ops fl n0) md t' G fun t2 G2=>opsK E ops tl2 t2 G2 k
/-- Between: some of the floating operations have not gone. -/
structure MInv (fz:Option Nat) (P:Program) (F:Fr) (ν0:Nu) (ops:List Oper) (fl:List Nat) (D:Nat→Bool) (ν:Nu) (t:List Value) (H:Heap) (a:Act) (w:World):Prop where
 len:t.length=a.tmps.toList.length
 tm:∀ (d:Nat) v,t[d]?=some v→(∀ f∈fl,D f=false→dstOf ops f≠some d)→∃ v',a.tmps.toList[d]?=some v'∧VRel ν v v'
 un:∀ f∈fl,D f=false→∀ o d,ops[f]?=some o→o.dst=some d→∃ v G,t[d]?=some v∧HeapV P ν0 G o.op t v∧∀ id b,G[id]?=some (some b)→H[id]?=some (some b)∧∃ n,fz=some n∧id < n
 le:ν0.le ν
 rest:SInv F ν [] H { a with tmps:=#[] } w
theorem setT_mk:∀ {l:List Value} {n:Nat} {v:Value} {k:List Value→Prop},n < l.length→k (l.set n v)→setT l n v k
 | [],_,_,_,h,_=>absurd h (Nat.not_lt_zero _)
 | _::l,0,v,k,_,h=>h
 | x::l,n+1,v,k,h,hk=>setT_mk (l:=l) (by simpa using h) hk
theorem HeapV.same {P:Program} {ν0:Nu} {G:Heap} {op:Op} {t t':List Value} {v:Value} (h:HeapV P ν0 G op t v) (hs:∀ s∈opTmps op.operands.toList,t'[s]?=t[s]?):HeapV P ν0 G op t' v :=
 ⟨h.1,fun o ν a w hle ho ha=>h.2 o ν a w hle ho fun x hx s hxs u hu=>ha x hx s hxs u (by rw [hs s (opTmps_mem (by rw [← hxs]; simpa using hx))]; exact hu)⟩
theorem PureV.heap {P:Program} {ν0:Nu} {op:Op} {t:List Value} {v:Value} (h:PureV P ν0 op t v) (G:Heap):HeapV P ν0 G op t v:=⟨h.1,fun o ν a w hle ho ha _=>h.2 o ν a w hle ho ha⟩
theorem take_keep {fz:Option Nat} {G H H':Heap} (h:∀ id b,G[id]?=some (some b)→H[id]?=some (some b)∧∃ n,fz=some n∧id < n) (hf:∀ n,fz=some n→H'.take n=H.take n) :
  ∀ id b,G[id]?=some (some b)→H'[id]?=some (some b)∧∃ n,fz=some n∧id < n:=fun id b hb=>by
 obtain ⟨h1,n,h2,h3⟩:=h id b hb
 refine ⟨?_,n,h2,h3⟩
 have:=congrArg (fun l=>l[id]?) (hf n h2)
 simp only [List.getElem?_take,if_pos h3] at this
 rw [this]; exact h1
theorem quiet_of {op:Op} {C:Prop} (h:pureOp op=true∨(heapOp op=true∧C)):(pureOp op || heapOp op)=true:=by
 rcases h with h | ⟨h,_⟩
 ·rw [h]; rfl
 ·rw [h]; simp
theorem dstK_any {t:List Value} {o:Option Tmp} {v:Value} {k:List Value→Prop} {C:Prop} (h:dstK t o v k) (hk:∀ t,k t→C):C:=by
 cases o with
 | none=>exact hk _ h
 | some d=>exact hk _ (setT_spec h).2
theorem MInv.put {fz:Option Nat} {P:Program} {F:Fr} {ν0:Nu} {ops:List Oper} {fl:List Nat} {D D':Nat→Bool} {ν ν':Nu} {t:List Value} {H H':Heap} {a:Act} {w w':World} (h:MInv fz P F ν0 ops fl D ν t H a w) (hfz:∀ n,fz=some n→H'.take n=H.take n) (hle:ν.le ν')
  (hD:∀ f∈fl,D' f=D f) {v v':Value} (hv:VRel ν' v v') {o:Option Tmp} (ho:∀ d,o=some d→∀ f∈fl,∀ p e,ops[f]?=some p→p.dst=some e→d≠e∧d ∉ opTmps p.op.operands.toList)
  {k:List Value→Prop} (hk:dstK t o v k) (hr:SInv F ν' [] H' { a with tmps:=#[] } w'):∃ t',k t'∧MInv fz P F ν0 ops fl D' ν' t' H' (a.put o v') w':=by
 cases o with
 | none =>
  refine ⟨t,hk,h.len,fun d u hu hn=>?_,fun f hff hd p e h1 h2=>?_,Nu.le_trans h.le hle,hr⟩
  ·obtain ⟨u',k1,k2⟩:=h.tm d u hu (fun f hff hd=>hn f hff (by rw [hD f hff]; exact hd))
   exact ⟨u',k1,k2.mono hle⟩
  ·obtain ⟨u,G,q1,q2,q3⟩:=h.un f hff (by rw [← hD f hff]; exact hd) p e h1 h2
   exact ⟨u,G,q1,q2,take_keep q3 hfz⟩
 | some d0 =>
  obtain ⟨h1,h2⟩:=setT_spec hk
  refine ⟨_,h2,?_,fun d u hu hn=>?_,fun f hff hd p e k1 k2=>?_,Nu.le_trans h.le hle,hr⟩
  ·rw [put_tmps,List.length_set,List.length_set]; exact h.len
  ·rw [put_tmps]
   by_cases e:d0=d
   ·subst e
    rw [List.getElem?_set_self h1] at hu
    cases hu
    exact ⟨v',by rw [List.getElem?_set_self (by rw [← h.len]; exact h1)],hv⟩
   ·rw [List.getElem?_set_ne e] at hu ⊢
    obtain ⟨u',k1,k2⟩:=h.tm d u hu (fun f hff hd=>hn f hff (by rw [hD f hff]; exact hd))
    exact ⟨u',k1,k2.mono hle⟩
  ·obtain ⟨hne,hns⟩:=ho d0 rfl f hff p e k1 k2
   obtain ⟨u,G,q1,q2,q3⟩:=h.un f hff (by rw [← hD f hff]; exact hd) p e k1 k2
   exact ⟨u,G,by rw [List.getElem?_set_ne hne]; exact q1,q2.same fun s hs=>by rw [List.getElem?_set_ne (fun e:d0=s=>hns (by rw [e]; exact hs))],take_keep q3 hfz⟩
section
variable {fz:Option Nat} {P:Program} {E:Env} {r:Option Nat} {n:Nat} {F:Fr} {ops:Array Oper} {Q:Exit→Act→World→Prop} {m q:Nat} {masks:List (List Nat)} {fl:List Nat} {k:SK}
/-- One operation of the middle. -/
theorem mid_step (hE:EnvX P E) (hn0:FrE F E) {ν0:Nu} {o:Oper} {D D':Nat→Bool} {ν:Nu} {t:List Value} {H:Heap} {a:Act} {w:World} (h:MInv fz P F ν0 ops.toList fl D ν t H a w) {k:SK} (hkf:∀ t' H',k t' H'→∀ n,fz=some n→H'.take n=H.take n)
  (hD:∀ f∈fl,D' f=D f)
  (hrd:∀ f∈fl,D f=false→∀ d,dstOf ops.toList f=some d→d ∉ readsOf ops.toList o)
  (ho:∀ d,o.dst=some d→∀ f∈fl,∀ p e,ops.toList[f]?=some p→p.dst=some e→d≠e∧d ∉ opTmps p.op.operands.toList)
  (hk:midK E o t H k) {next:Act→World→Prop} {Q:Exit→Act→World→Prop}
  (hn:∀ ν' t' H' a' w',MInv fz P F ν0 ops.toList fl D' ν' t' H' a' w'→k t' H'→next a' w'):o.wpIn (WF r) n P a w next Q:=by
 have hop:∀ x∈o.op.operands,OpRel ν t a x:=fun x hx s hs v hv=>by
  obtain ⟨v',k1,k2⟩:=h.tm s v hv (fun f hff hd hds=>hrd f hff hd s hds (by unfold readsOf; exact List.mem_append_left _ (opTmps_mem (by rw [hs] at hx; simpa using hx))))
  exact ⟨v',by simpa using k1,k2⟩
 have quiet:(lenK H fun nid=>opQ E o.op t H nid fun v nb=>dstK t o.dst v fun t'=>newK H nb fun H'=>k t' H')→o.wpIn (WF r) n P a w next Q:=by
  intro hk
  have hk:=lenK_spec hk
  obtain ⟨v,nb,hk1,hq⟩:=opQ_sound (P:=P) hE.toEnvOk hk
  refine hq o ν a w r n rfl hop h.rest.hp (h.rest.fr _ (Nat.le_refl _)) next Q (fun v' w' ν' hp=>?_)
  cases hd:o.dst with
  | none =>
   rw [hd] at hk1 ho
   obtain ⟨H',h1,h2⟩:=h.rest.quiet hp hk1
   obtain ⟨t',k1,k2⟩:=h.put (D':=D') (o:=none) (hkf _ _ h1) hp.le hD hp.val (fun d hd=>by cases hd) (k:=fun t'=>t'=t) rfl h2
   subst k1
   exact hn _ _ _ _ _ k2 h1
  | some d =>
   rw [hd] at hk1 ho
   obtain ⟨h1,h2⟩:=setT_spec hk1
   obtain ⟨H',h3,h4⟩:=h.rest.quiet hp h2
   obtain ⟨t',k1,k2⟩:=h.put (D':=D') (o:=some d) (hkf _ _ h3) hp.le hD hp.val ho (k:=fun t'=>k t' H') (by
    show setT t d v _
    exact setT_mk h1 h3) h4
   exact hn _ _ _ _ _ k2 k1
 unfold midK at hk
 split at hk
 ·rename_i ty x y hst
  have hx:OpRel ν t a x:=hop x (by rw [hst]; simp [Op.operands])
  have hy:OpRel ν t a y:=hop y (by rw [hst]; simp [Op.operands])
  obtain ⟨w',H',hrun,hi',h2⟩:=store_core hE.toEnvOk hst h.rest hx hy hk
  obtain ⟨t',k1,k2⟩:=h.put (D':=D') (o:=o.dst) (dstK_any h2 fun t hk=>hkf t _ hk) ν.le_refl hD (.undef ν) ho h2 hi'
  refine ⟨fun _ _=>trivial,?_⟩
  rw [Oper.semAt_eq _ _ _ (by simp [hst]),hrun]
  exact hn _ _ _ _ _ k2 k1
 ·rename_i c hst
  split at hk
  ·rename_i hc
   split at hk
   ·rename_i x y t1 t2 hxy htt
    split at hk
    ·rename_i hb
     have hb:t1=t2:=Nat.eq_of_beq_eq_true hb
     subst hb
     have hcx:c.args=#[x,y]:=Array.ext' hxy
     have hct:c.argTypes=#[t1,t1]:=Array.ext' htt
     obtain ⟨xv,hk2,hxv⟩:=evalK_spec hk (hop x (by rw [hst]; simp [Op.operands,Call.operands,hcx]))
     obtain ⟨yv,hk3,hyv⟩:=evalK_spec hk2 (hop y (by rw [hst]; simp [Op.operands,Call.operands,hcx]))
     split at hk3
     ·rename_i hex
      obtain ⟨v,v',ν',t',H',w',h1,h2,h3,h4,h5⟩:=append_core hE.toEnvOk hn0 h.rest hxv hyv hk3 o.type
      obtain rfl:t'=[]:=List.eq_nil_of_length_eq_zero (by have:=h3.tm.1; simpa using this)
      obtain ⟨t2,k1,k2⟩:=h.put (D':=D') (dstK_any h1 fun t hk=>hkf t _ hk) (h5 hex) hD h2 ho h1 h3
      exact wpIn_of_run (by simp [hst]) (by simp [execOp,hst,resolve,hc,hcx,hct,invoke,builtin,h4]) next Q (hn _ _ _ _ _ k2 k1)
     ·exact hk3.elim
    ·exact hk.elim
   ·exact hk.elim
  ·rename_i hc
   split at hk
   ·rename_i x y t1 t2 hxy htt
    have hcx:c.args=#[x,y]:=Array.ext' hxy
    have hct:c.argTypes=#[t1,t2]:=Array.ext' htt
    obtain ⟨xv,hk2,hxv⟩:=evalK_spec hk (hop x (by rw [hst]; simp [Op.operands,Call.operands,hcx]))
    obtain ⟨yv,hk3,hyv⟩:=evalK_spec hk2 (hop y (by rw [hst]; simp [Op.operands,Call.operands,hcx]))
    obtain ⟨v,H',w',h1,h2,h3,h4⟩:=copy_sound hE.toEnvOk h.rest hxv hyv hk3 t2 o.type
    obtain ⟨t2,k1,k2⟩:=h.put (D':=D') (dstK_any h1 fun t hk=>hkf t _ hk) ν.le_refl hD h2 ho h1 h3
    exact wpIn_of_run (by simp [hst]) (by simp [execOp,hst,resolve,hc,hcx,hct,invoke,builtin,h4]) next Q (hn _ _ _ _ _ k2 k1)
   ·exact hk.elim
  ·exact quiet hk
 ·exact quiet hk
theorem mid_game (hE:EnvX P E) (hn0:FrE F E) (hc:FChecks ops.toList m q masks fl) (hk:∀ ν t' H' a' w',SInv F ν t' H' a' w'→k t' H'→Q .normal a' w') :
  ∀ (fuel:Nat) (listed:Array Bool) (j0:Nat) (ν0 ν:Nu) (t:List Value) (H:Heap) (a:Act) (w:World),listed.size=ops.size→Closed ops.toList (DB listed)→m≤j0→j0≤m+q →
  (∀ i,i < j0→i ∉ fl→DB listed i=true)→(∀ i,DB listed i=true→i < j0)→MInv fz P F ν0 ops.toList fl (DB listed) ν t H a w →
  midsK E fz ((ops.toList.take (m+q)).drop j0) t H (fun t' H'=>opsK E ops.toList (ops.toList.drop (m+q)) t' H' k)→undone (DB listed) ops.size≤fuel→wpAnyIn (WF r) n P .any ops Q fuel listed a w:=by
 have hle:m+q≤ops.size:=by have:=hc.le; simpa using this
 have hout:∀ (i:Nat) (d:Tmp),i < m+q→m≤i→dstOf ops.toList i=some d→∀ f∈fl,f≠i→∀ p e,ops.toList[f]?=some p→p.dst=some e→d≠e∧d ∉ opTmps p.op.operands.toList:=by
  intro i d hi hlate hd f hf hne p e h1 h3
  obtain ⟨_,o,d',k1,k2,k3,k4,_,k5⟩:=hc.flt f hf
  rw [h1] at k1; cases k1
  rw [h3] at k4; cases k4
  obtain ⟨q1,q2⟩:=k5 i d hi (Ne.symm hne) hd
  exact ⟨q1,fun e'=>by have:=(q2 e').1; omega⟩
 have finish:∀ (fuel:Nat) (listed:Array Bool) (j0:Nat) (ν0 ν:Nu) (t:List Value) (H:Heap) (a:Act) (w:World),listed.size=ops.size→m≤j0→j0≤m+q→(∀ i,DB listed i=true→i < j0)→MInv fz P F ν0 ops.toList fl (DB listed) ν t H a w →
   midsK E fz ((ops.toList.take (m+q)).drop j0) t H (fun t' H'=>opsK E ops.toList (ops.toList.drop (m+q)) t' H' k)→undone (DB listed) ops.size≤fuel→(∀ i,i < m+q→DB listed i=true)→wpAnyIn (WF r) n P .any ops Q fuel listed a w:=by
  intro fuel listed j0 ν0 ν t H a w hs hm hj0 hlt hi h hu hall
  have e:j0=m+q:=by
   rcases Nat.lt_or_ge j0 (m+q) with h' | h'
   ·have:=hlt j0 (hall j0 h'); omega
   ·omega
  subst e
  rw [List.drop_eq_nil_of_le (by simp; omega)] at h
  have hD:∀ i,DB listed i=decide (i < m+q):=fun i=>by
   by_cases h:i < m+q
   ·rw [hall i h]; simp [h]
   ·cases hd:DB listed i with
    | true=>exact absurd (hlt i hd) h
    | false=>simp [h]
  have hi':SInv F ν t H a w:=⟨⟨hi.len,fun d x y hx hy=>by
   obtain ⟨y',k1,k2⟩:=hi.tm d x hx (fun f hf hd=>by have:=(hc.flt f hf).1; rw [hall f (by omega)] at hd; cases hd)
   rw [hy] at k1; cases k1; exact k2⟩,hi.rest.df,hi.rest.hp,hi.rest.fr,hi.rest.kp,hi.rest.own,hi.rest.mono⟩
  exact tail_game hE hn0 hc.toOrder (m:=m+q) hc.tail hk fuel listed (m+q) ν t H a w hs hD (Nat.le_refl _) hle hi' h (by
   have:=undone_first hD ops.size hle; omega)
 intro fuel
 induction fuel with
 | zero =>
  intro listed j0 ν0 ν t H a w hs hcl hm hj0 hdone hlt hi h hu
  exact finish 0 listed j0 ν0 ν t H a w hs hm hj0 hlt hi h hu (fun i hi'=>by
   cases hd:DB listed i with
   | true=>rfl
   | false=>have:=undone_pos (n:=ops.size) (by omega:i < ops.size) hd; omega)
 | succ fuel ih =>
  intro listed j0 ν0 ν t H a w hs hcl hm hj0 hdone hlt hi h hu
  by_cases hall:∀ i,i < m+q→DB listed i=true
  ·exact finish (fuel+1) listed j0 ν0 ν t H a w hs hm hj0 hlt hi h hu hall
  ·have hex:∃ i,i < m+q∧DB listed i=false:=by
    refine Classical.byContradiction fun hne=>hall fun i hi'=>?_
    cases hd:DB listed i with
    | true=>rfl
    | false=>exact absurd ⟨i,hi',hd⟩ hne
   obtain ⟨i1,hi1,hd1⟩:=hex
   obtain ⟨i0,hi01,hd0,hb0⟩:=least_undone hd1
   have hr:=least_ready hc.toOrder hs (by omega:i0 < ops.size) hd0 hb0
   refine ⟨(fun hn=>by rw [hn] at hr; cases hr),fun j hj=>?_⟩
   rw [mem_ready] at hj
   obtain ⟨h1,o,ho,he⟩:=hj
   have hjs:j < ops.size:=(Array.getElem?_eq_some_iff.1 ho).1
   rw [DB_getD (by omega)] at h1
   have hol:ops.toList[j]?=some o:=by simpa using ho
   have hmk:=closed_mask hc.toOrder hcl j o hol (fun e' he' hb'=>he e' he' hb')
   have hset:∀ i,DB (listed.setIfInBounds j true) i=(DB listed i || i == j):=fun i=>DB_set (by omega) i
   have hcl':Closed ops.toList (DB (listed.setIfInBounds j true)):=by
    intro i p hi' hp e' he' hb'
    rw [hset] at hi' ⊢
    by_cases e:i=j
    ·subst e
     rw [hol] at hp; cases hp
     have:DB listed e'.on=true:=he e' he' hb'
     rw [this]; rfl
    ·have e2:(i == j)=false:=by simp [e]
     rw [e2,Bool.or_false] at hi'
     rw [hcl i p hi' hp e' he' hb']; rfl
   have hu':undone (DB (listed.setIfInBounds j true)) ops.size≤fuel:=by
    have:=undone_set hset h1 ops.size
    rw [if_pos hjs] at this; omega
   by_cases hjf:j∈fl
   ·-- a floating move
    obtain ⟨hjm,o',d,g1,g2,g3,g4,g6,g5⟩:=hc.flt j hjf
    rw [hol] at g1; cases g1
    obtain ⟨v,G,hv1,hv3,hGH⟩:=hi.un j hjf h1 o d hol g4
    obtain ⟨vu,hv2,hrun1⟩:=hv3.2 o ν a w hi.le rfl (fun x hx s hxs u hu=>by
     have hms:s∈opTmps o.op.operands.toList:=opTmps_mem (by rw [← hxs]; simpa using hx)
     obtain ⟨u',r1,r2⟩:=hi.tm s u hu (fun f hf hd hds=>by
      have hfm:=(hc.flt f hf).1
      by_cases e:f=j
      ·subst e
       have:dstOf ops.toList f=some d:=by simp [dstOf,hol,g4]
       rw [this] at hds; cases hds
       exact g6 hms
      ·have:=((g5 f s (by omega) e hds).2 hms).2
       rw [hmk f this] at hd; cases hd)
     exact ⟨u',by simpa using r1,r2⟩) (hi.rest.hp.fewer fun id b hb=>(hGH id b hb).1)
    unfold wpOpIn
    rw [ho]
    dsimp only
    rw [if_pos (by simp [Region.wanted,g2])]
    refine wpIn_of_run (v':=vu) (w':=w) hv3.1 hrun1 _ Q ?_
    rw [g4]
    refine ih _ j0 ν0 ν t H _ w (by simp [hs]) hcl' hm hj0 (fun i hi' hf=>by rw [hset,hdone i hi' hf]; rfl) (fun i hi'=>?_) ⟨?_,fun e u hu2 hn2=>?_,fun f hf hd p e k1 k2=>?_,hi.le,hi.rest⟩ h hu'
    ·rw [hset] at hi'
     by_cases e:i=j
     ·omega
     ·have e2:(i == j)=false:=by simp [e]
      rw [e2,Bool.or_false] at hi'
      exact hlt i hi'
    ·rw [put_tmps,List.length_set]; exact hi.len
    ·rw [put_tmps]
     by_cases e':d=e
     ·subst e'
      rw [hv1] at hu2; cases hu2
      have:d < t.length:=(List.getElem?_eq_some_iff.1 hv1).1
      exact ⟨vu,by rw [List.getElem?_set_self (by rw [← hi.len]; exact this)],hv2⟩
     ·rw [List.getElem?_set_ne e']
      refine hi.tm e u hu2 (fun f hf hd=>?_)
      by_cases e3:f=j
      ·subst e3
       intro hd'
       have:dstOf ops.toList f=some d:=by simp [dstOf,hol,g4]
       rw [this] at hd'; exact e' (Option.some.inj hd')
      ·exact hn2 f hf (by rw [hset,hd]; simp [e3])
    ·have hne:f≠j:=fun e3=>by subst e3; rw [hset] at hd; simp at hd
     have hd2:DB listed f=false:=by
      rw [hset] at hd
      simp only [Bool.or_eq_false_iff] at hd
      exact hd.1
     exact hi.un f hf hd2 p e k1 k2
   ·have hge:j0≤j:=by
     rcases Nat.lt_or_ge j j0 with h' | h'
     ·rw [hdone j h' hjf] at h1; cases h1
     ·exact h'
    have hjq:j < m+q:=by
     rcases Nat.lt_or_ge j (m+q) with h' | h'
     ·exact h'
     ·have:=hmk i1 (hc.tail j (by simpa using hjs) h' i1 (by omega))
      rw [hd1] at this; cases this
    obtain ⟨c1,c2,c3⟩:=hc.mid j o (by omega) hjq hol
    have hjj:j=j0:=by
     rcases Nat.lt_or_ge j0 j with h' | h'
     ·rcases c2 j0 h' with h2 | h2
      ·have:=hlt j0 (hmk j0 h2); omega
      ·have:=(hc.flt j0 h2).1; omega
     ·omega
    subst hjj
    have hdrop:(ops.toList.take (m+q)).drop j=o::(ops.toList.take (m+q)).drop (j+1):=by
     have hl:j < (ops.toList.take (m+q)).length:=by simp; omega
     rw [List.drop_eq_getElem_cons hl]
     congr 1
     have:=List.getElem?_eq_getElem hl
     rw [List.getElem?_take,if_pos hjq,hol] at this
     exact (Option.some.inj this).symm
    rw [hdrop] at h
    unfold wpOpIn
    rw [ho]
    dsimp only
    rw [if_pos (by simp [Region.wanted,c1])]
    refine mid_step hE hn0 (D':=DB (listed.setIfInBounds j true)) hi (fun t' H' h'=>(frzK_spec h').2) (fun f hf=>?_) (fun f hf hd d hd'=>?_) (fun d hd f hf=>?_) h (fun ν' t' H' a' w' hi' h'=>?_)
    ·have:f≠j:=fun e=>hjf (e ▸ hf)
     rw [hset]; simp [this]
    ·rcases c3 f hf with h2 | h2
     ·rw [hmk f h2] at hd; cases hd
     ·exact h2 d hd'
    ·exact hout j d hjq (by omega) (by simp [dstOf,hol,hd]) f hf (fun e=>hjf (e ▸ hf))
    ·refine ih _ (j+1) ν0 ν' t' H' a' w' (by simp [hs]) hcl' (by omega) (by omega) (fun i hi2 hf=>?_) (fun i hi2=>?_) hi' (frzK_spec h').1 hu'
     ·rw [hset]
      by_cases e:i=j
      ·simp [e]
      ·rw [hdone i (by omega) hf]; rfl
     ·rw [hset] at hi2
      by_cases e:i=j
      ·omega
      ·have e2:(i == j)=false:=by simp [e]
       rw [e2,Bool.or_false] at hi2
       have:=hlt i hi2; omega
/-- **Whatever order is drawn.** -/
theorem drawF_ok (hm:P.follows .mixedOrders=true):DOk P drawF:=by
 intro E hE r n F hn0 ops Q id ν tmps H a w k hi h hk
 obtain ⟨m,q,masks,fl,hok,h⟩:=h
 have h:=lenK_spec h
 obtain ⟨hmle,h⟩:=takeO_spec h
 obtain ⟨hqle,h⟩:=takeO_spec h
 have hc:=floatOk_spec hok
 obtain ⟨rs,hrs,hhead,hfin⟩:=head_spec (P:=P) hE.toEnvOk (ops:=ops.toList) (t0:=tmps) (H:=H) (masks:=masks) (l:=ops.toList.take m) (ms:=masks) (j:=0) (rs:=[]) rfl
  (fun i o ho=>by
   rw [List.getElem?_take] at ho
   split at ho
   ·simpa using ho
   ·cases ho)
  (fun i _=>by simp) (fun i hi=>by omega) h
 have hfin:=apH_spec hfin
 have hlen:0+(ops.toList.take m).length=m:=by rw [List.length_take]; omega
 rw [hlen] at hrs hhead hfin
 have hD:DB (Array.replicate ops.size false)=fun _=>false:=by
  funext i
  unfold DB
  by_cases h:i < ops.size <;> simp [h]
 have hmd:(ops.toList.drop m).take q=(ops.toList.take (m+q)).drop m:=by
  rw [List.drop_take]; congr 1; omega
 have htl:(ops.toList.drop m).drop q=ops.toList.drop (m+q):=by rw [List.drop_drop]
 rw [hmd,htl] at hfin
 have hsz:m+q≤ops.size:=by have:=hc.le; simpa using this
 refine wpIn_region_any hm ?_
 refine head_game (F:=F) (fl:=fl) hc.toOrder (by omega) hc.apart (fun j hj hm i hi hf=>?_) hhead ?_ ops.size _ ν a _ (by simp) (fun j o hj=>by rw [hD] at hj; cases hj) (fun i hi'=>by rw [hD] at hi'; cases hi') ?_ (fun i _ _=>hi.fr _ (by omega)) ?_
 ·by_cases h':j < m+q
  ·rcases (hc.mid j ops[j] hm h' (by simp [hj])).2.1 i (by omega) with h | h
   ·exact h
   ·exact absurd h hf
  ·exact hc.tail j (by simpa using hj) (by omega) i (by omega)
 ·intro fuel listed ν a w hs hcl hlt hall hi hu
  have hdst:∀ i d,i < m→dstOf ops.toList i=some d→d < tmps.length:=by
   intro i d hi hd
   obtain ⟨o,q,h1,h2,h3,_⟩:=(hhead i hi).ok
   unfold dstOf at hd
   rw [h1] at hd
   exact h3 d hd
  have hap:Apart ops.toList m:=by
   intro i j d hi hj h1 h2
   rcases Nat.decEq i j with hne | he
   ·obtain ⟨o,q,k1,_⟩:=(hhead i hi).ok
    obtain ⟨p,q',k2,_⟩:=(hhead j hj).ok
    unfold dstOf at h1 h2
    rw [k1] at h1; rw [k2] at h2
    exact absurd h1 (hc.apart i o j p d hi hj (Ne.symm hne) k1 k2 h2).1
   ·exact he
  have e2:viewS rs (DB listed) m=rs.map (·.nb):=by
   unfold viewS
   apply List.ext_getElem?
   intro i
   rw [List.getElem?_map,List.getElem?_map]
   by_cases h:i < m
   ·rw [List.getElem?_range h,List.getElem?_eq_getElem (by omega:i < rs.length)]
    simp only [Option.map_some]
    rw [List.getElem?_eq_getElem (by omega:i < rs.length)]
    cases hdi:DB listed i with
    | true=>rfl
    | false =>
     have hf:i∈fl:=Classical.byContradiction fun hn=>by rw [hall i h hn] at hdi; cases hdi
     obtain ⟨_,o,d,g1,g2,g3,g4,_⟩:=hc.flt i hf
     obtain ⟨r',k1,k2,_⟩:=(hhead i h).mv o g1 (quiet_of g3) g2
     rw [List.getElem?_eq_getElem (by omega:i < rs.length)] at k1
     cases k1
     rw [k2]; rfl
   ·rw [List.getElem?_eq_none (by simp; omega),List.getElem?_eq_none (by omega)]; rfl
  have hi0:=hi.hp
  rw [e2] at hi
  refine mid_game hE hn0 hc hk fuel listed m ν ν _ _ a w hs hcl (Nat.le_refl _) (by omega) hall hlt ⟨?_,fun d u hu2 hn2=>?_,fun f hf hd o d k1 k3=>?_,ν.le_refl,⟨.nil ν,hi.df,hi.hp,hi.fr,hi.kp,hi.own,hi.mono⟩⟩ hfin hu
  ·have:=hi.tm.1
   rw [viewT_length] at this ⊢
   exact this
  ·have hsame:(viewT ops.toList rs (DB listed) tmps m)[d]?=(viewT ops.toList rs (fun i=>decide (i < m)) tmps m)[d]?:=by
    refine viewT_same hap hdst (fun i hi' hdi=>?_)
    have:DB listed i=true:=by
     by_cases hf:i∈fl
     ·cases hdi':DB listed i with
      | true=>rfl
      | false=>exact absurd hdi (hn2 i hf hdi')
     ·exact hall i hi' hf
    rw [this]; simp [hi']
   rw [← hsame] at hu2
   exact hi.tm.get hu2
  ·obtain ⟨hfm,o',d',g1,g2,g3,g4,g6,g5⟩:=hc.flt f hf
   rw [k1] at g1; cases g1
   rw [k3] at g4; cases g4
   obtain ⟨r',q1,q2,G,qG,q3⟩:=(hhead f hfm).mv o k1 (quiet_of g3) g2
   have hin:∀ (id:Nat) (b:Blk),G[id]?=some (some b)→(H++rs.map (·.nb))[id]?=some (some b)∧(H++viewS rs (DB listed) m)[id]?=some (some b):=by
    intro id b hb
    rcases qG id b hb with ⟨h1,h2⟩ | ⟨i,h1,h2,h3,h4⟩
    ·rw [List.getElem?_append_left h1,List.getElem?_append_left h1]; exact ⟨h2,h2⟩
    ·subst h1
     have him:i < m:=by omega
     have hdi:DB listed i=true:=Classical.byContradiction fun hn=>by
      have hif:i∈fl:=Classical.byContradiction fun hn2=>hn (hall i him hn2)
      obtain ⟨_,o2,d2,y1,y2,y3,y4,_⟩:=hc.flt i hif
      obtain ⟨r2,z1,z2,_⟩:=(hhead i him).mv o2 y1 (quiet_of y3) y2
      rw [z1] at h4
      simp [z2] at h4
     rw [List.getElem?_append_right (by omega),List.getElem?_append_right (by omega)]
     rw [show H.length+i - H.length=i by omega]
     refine ⟨?_,viewS_get.2 ⟨him,hdi,h4⟩⟩
     rw [List.getElem?_map]
     cases hr:rs[i]? with
     | none=>rw [hr] at h4; cases h4
     | some r2=>rw [hr] at h4; simpa using h4
   have hG:HRel ν G w:=⟨fun id b hb=>hi0.blk id b (hin id b hb).2,fun x y bx bY lx ly hx hy hne ho e1 e2=>hi0.sep x y bx bY lx ly (hin x bx hx).2 (hin y bY hy).2 hne ho e1 e2⟩
   have hV:∃ G2,HeapV P ν G2 o.op (viewT ops.toList rs (fun i=>decide (i < f)) tmps f) r'.v∧∀ id b,G2[id]?=some (some b)→(H++rs.map (·.nb))[id]?=some (some b)∧∃ n,fzOf ops.toList fl H.length=some n∧id < n:=by
    cases hp:pureOp o.op with
    | true=>exact ⟨[],(q3.1 hp ν w hG).heap [],fun id b hb=>by simp at hb⟩
    | false =>
     obtain ⟨hh,hmk⟩:=g3.resolve_left (by rw [hp]; simp)
     refine ⟨G,q3.2 hh ν,fun id b hb=>?_⟩
     rcases qG id b hb with ⟨h1,h2⟩ | ⟨i,h1,h2,h3,h4⟩
     ·refine ⟨by rw [List.getElem?_append_left h1]; exact h2,H.length,?_,h1⟩
      unfold fzOf
      have:(fl.all fun f=>match ops.toList[f]? with | some o=>pureOp o.op | none=>true)=false:=by
       rw [List.all_eq_false]
       exact ⟨f,hf,by rw [k1]; simp [hp]⟩
      rw [this]
     ·obtain ⟨_,o2,d2,y1,y2,y3,y4,_⟩:=hc.flt i (hmk i h3)
      obtain ⟨r2,z1,z2,_⟩:=(hhead i (by omega)).mv o2 y1 (quiet_of y3) y2
      rw [z1] at h4
      simp [z2] at h4
   obtain ⟨G2,q3,qg⟩:=hV
   have hdf:dstOf ops.toList f=some d:=by simp [dstOf,k1,k3]
   refine ⟨r'.v,G2,viewT_in _ hdf q1 (by simp [hfm]) (hdst f d hfm hdf) m hfm hap,q3.same fun s hs=>?_,qg⟩
   by_cases hex:∃ i,i < m∧i≠f∧dstOf ops.toList i=some s
   ·obtain ⟨i,h1,h2,h3⟩:=hex
    obtain ⟨_,k5⟩:=g5 i s (by omega) h2 h3
    obtain ⟨_,k7⟩:=k5 hs
    have hif:=(hc.mask f o k1 i k7).1
    obtain ⟨o2,r2,w1,w2,_⟩:=(hhead i h1).ok
    rw [viewT_in _ h3 w2 (by simp [hif]) (hdst i s h1 h3) f hif (fun a b c h4 h5=>hap a b c (by omega) (by omega)),viewT_in _ h3 w2 (by simp [h1]) (hdst i s h1 h3) m h1 hap]
   ·have hno:∀ i,i < m→dstOf ops.toList i=some s→i=f:=fun i h1 h2=>Classical.byContradiction fun h3=>hex ⟨i,h1,h3,h2⟩
    by_cases hsd:s=d
    ·subst hsd
     exact absurd hs g6
    ·rw [viewT_out _ f (fun i hi' _ hdi=>by have:=hno i (by omega) hdi; omega),viewT_out _ m (fun i hi' hdi' hdi=>by
      have:=hno i hi' hdi
      subst this
      rw [hdf] at hdi; exact absurd (Option.some.inj hdi).symm hsd)]
 ·rw [hD]
  have e1:viewT ops.toList rs (fun _=>false) tmps m=tmps:=viewT_cut (j:=0) (by omega) (fun _ _ _=>rfl)
  rw [e1]
  have hdrew:Below w.heap.size w { w with drawn:=w.drawn+1 }:=⟨rfl,rfl,rfl,Nat.le_refl _,fun _ _=>rfl⟩
  refine ⟨hi.tm,hi.df.below hdrew,(hi.hp.below hdrew).fewer (fun id c hc'=>?_),fun id hid=>hi.fr id (by rw [List.length_append] at hid; omega),hi.kp.below hdrew,fun id c lc hc' hoc hlc=>?_,hi.mono⟩
  ·rw [List.getElem?_append] at hc'
   split at hc'
   ·exact hc'
   ·have:=(viewS_get.1 hc').2.1; cases this
  ·rw [List.getElem?_append] at hc'
   split at hc'
   ·exact hi.own id c lc hc' hoc hlc
   ·have:=(viewS_get.1 hc').2.1; cases this
 ·unfold undone
  have:=List.length_filter_le (fun i=>!DB (Array.replicate ops.size false) i) (List.range ops.size)
  simpa using this
end
end Go.Ae
/- Regions that draw their order, in which a slice grows whose block nobody else reads behind it. -/
namespace Go.Ae
open Go Go.RowKit
/-- An append: its type and what it is handed. -/
def isApp (op:Op):Option (TypeId × Operand × Operand):=match op with
 | .call c=>match c.callee with
  | .builtin .append=>match c.args.toList,c.argTypes.toList with
   | [x,y],[t,t']=>match Nat.beq t t' with
    | true=>some (t,x,y)
    | false=>none
   | _,_=>none
  | _=>none
 | _=>none
theorem isApp_spec {op:Op} {t:TypeId} {x y:Operand} (h:isApp op=some (t,x,y)):∃ c,op=.call c∧c.callee=.builtin .append∧c.args=#[x,y]∧c.argTypes=#[t,t]:=by
 unfold isApp at h
 split at h
 ·rename_i c
  split at h
  ·rename_i hc
   split at h
   ·rename_i x' y' t1 t2 hx ht
    split at h
    ·rename_i hb
     cases h
     have hb:=Nat.eq_of_beq_eq_true hb
     subst hb
     exact ⟨c,rfl,hc,Array.ext' hx,Array.ext' ht⟩
    ·cases h
   ·cases h
  ·cases h
 ·cases h
/-- An append whose slice is nil, or lies in a block that came in this region: its block gives way. -/
def eatK (E:Env) (tmps:List Value) (G:Heap) (n0 nid:Nat) (t:TypeId) (x y:Operand) (k:Value→Option Nat→Option Blk→Prop):Prop :=
 evalK tmps x fun xv=>evalK tmps y fun yv=>tyK E.tt t fun ti=>match ti.kind with
  | .slice e=>tyK E.tt e fun te=>srcK G te.size yv fun s=>match xv with
   | .slice none 0 0=>match s.m with
    | 0=>k (.slice none 0 0) none none
    | m+1=>((m+1)*te.bytes≤140737488355328)∧k (.slice (some ⟨nid,0,none⟩) (m+1) capU) none (some (newBlk te.size s))
   | .slice (some ⟨id,0,none⟩) n c=>blkK G id fun b=>match Nat.beq b.esz te.size && Nat.ble n0 id with
    | true=>(n=b.n∧(n+s.m)*te.bytes≤140737488355328)∧extendK b s fun b'=>k (.slice (some ⟨nid,0,none⟩) (n+s.m) capU) (some (id - n0)) (some b')
    | false=>False
   | _=>False
  | _=>False
structure EPost (ν ν':Nu) (nid:Nat) (old:Option Loc) (w w':World) (v v':Value) (nb:Option Blk):Prop where
 le:ν.le ν'
 only:∀ id,id≠nid→ν' id=ν id
 val:VRel ν' v v'
 chg:Below w.heap.size w w'∨∃ l,old=some l∧(∃ cur t,w.heap[l.blk]?=some (.cells cur t (0,0)))∧(∀ q,q≠l.blk→w'.heap[q]?=w.heap[q]?)∧w.heap.size≤w'.heap.size∧w'.os=w.os∧w'.tape=w.tape∧w'.output=w.output
 isN:nb=none→ν'=ν
 isS:∀ b,nb=some b→∃ l,ν' nid=some l∧BRel ν' l b w'∧(w.heap.size≤l.blk∨∃ lo,old=some lo∧l.blk=lo.blk)
theorem QPost.e {ν ν':Nu} {nid:Nat} {w w':World} {v v':Value} {nb:Option Blk} (h:QPost ν ν' nid w w' v v' nb) (old:Option Loc):EPost ν ν' nid old w w' v v' nb :=
 ⟨h.le,h.only,h.val,.inl h.below,h.isN,fun b hb=>let ⟨l,h1,h2,h3⟩:=h.isS b hb; ⟨l,h1,h2,.inl h3⟩⟩
section
variable {P:Program} {E:Env}
theorem eat_sound (hE:EnvOk P E) {tmps:List Value} {G:Heap} {n0 nid:Nat} {t:TypeId} {x y:Operand} {k:Value→Option Nat→Option Blk→Prop} (h:eatK E tmps G n0 nid t x y k) :
  ∃ v eat nb,k v eat nb∧(∀ i,eat=some i→∃ b,G[n0+i]?=some (some b)∧b.own=true) ∧
   ∀ (ν:Nu) (a:Act) (w:World) (ty:TypeId),OpRel ν tmps a x→OpRel ν tmps a y→HRel ν G w→ν nid=none →
    ∃ v' w' ν',(Builtin.append_ #[t,t] ty #[a.eval x,a.eval y]).run P w=.ok v' w'∧EPost ν ν' nid (eat.bind fun i=>ν (n0+i)) w w' v v' nb:=by
 obtain ⟨xv,h2,hxa⟩:=evalK_all h
 clear h
 obtain ⟨yv,h,hya⟩:=evalK_all h2
 clear h2
 obtain ⟨ti,ht,h2⟩:=tyK_spec h
 clear h
 obtain ⟨d,hu,hd⟩:=(hE.ty _ _ ht).under
 split at h2
 ·rename_i e hk
  rw [hk] at hd
  have hd:d=.slice e:=hd
  subst hd
  obtain ⟨te,he,h⟩:=tyK_spec h2
  clear h2
  have hok:=hE.ty _ _ he
  obtain ⟨i,hinf,his,hib,z,hz,hzc⟩:=hok.info
  obtain ⟨s,h2,hsf,hs⟩:=srcK_spec h
  clear h
  have hzl:z.cells.size=te.size:=by rw [hzc]; simpa using hok.len
  have hbit:=hok.bit
  have small:∀ q,q*te.bytes≤140737488355328→q≤140737488355328:=fun q hq=>by
   have:q*1≤q*te.bytes:=Nat.mul_le_mul_left _ (by omega)
   omega
  split at h2
  ·-- onto nil
   split at h2
   ·rename_i hm
    refine ⟨_,_,_,h2,(fun i hi=>by cases hi),fun ν a w ty hax hay hH hn=>?_⟩
    have hx:=(hxa ν a hax).to_snil
    obtain ⟨oy,cy,L,hye,hoy,hC,hLc⟩:=hs ν w _ hH (hya ν a hay)
    have hL:L.length=s.m*i.size:=by rw [his]; exact hC.len
    refine ⟨_,w,ν,?_,⟨ν.le_refl,fun _ _=>rfl,.snil,.inl (Below.refl _ _),fun _=>rfl,(fun b hb=>by cases hb)⟩⟩
    rw [hx,hye]
    have:=run_app_in (P:=P) (w:=w) (ty:=ty) hu hinf (A:=none) (oy:=oy) (n:=0) (c:=0) (m:=s.m) (cy:=cy) (L:=L) hL hLc hoy (by omega) (w2:=w) (fun a ha=>by cases ha) (fun _=>rfl)
    rw [hm] at this ⊢
    simpa using this
   ·rename_i m hm
    obtain ⟨hB,h⟩:=h2
    refine ⟨_,_,_,h,(fun i hi=>by cases hi),fun ν a w ty hax hay hH hn=>?_⟩
    have hx:=(hxa ν a hax).to_snil
    obtain ⟨oy,cy,L,hye,hoy,hC,hLc⟩:=hs ν w _ hH (hya ν a hay)
    have hL:L.length=s.m*i.size:=by rw [his]; exact hC.len
    have hsfl:s.isFl=true→∀ r,r < s.m→∀ v∈s.get r,scal v=true:=fun h r hr v hv=>hsf h r hr ν w hH v hv
    have hrun:=run_app_grow (P:=P) (w:=w) (ty:=ty) hu hinf hz (A:=none) (oy:=oy) (n:=0) (c:=0) (m:=s.m) (cy:=cy) (O:=[]) (L:=L) (by simp) (fun a ha=>by cases ha) (fun _=>⟨rfl,rfl⟩) hL hLc hoy (by omega) (by omega) (by rw [hib,hm]; simpa using hB) (by have:=small _ hB; omega)
    have hxt:Ext (newBlk te.size s) te.size (fun _=>[]) 0 s.get s.m s.isFl:=by
     cases s with
     | fl m g=>exact ⟨rfl,rfl,by simp [newBlk,Blk.n,Src.m],fun r hr=>by rw [appGet_hi (by omega)]; rfl,fun _=>rfl⟩
     | ex L=>exact ⟨rfl,rfl,by simp [newBlk,Blk.n,Src.m],fun r hr=>by rw [appGet_hi (by omega)]; rfl,fun h=>by simp [newBlk,Blk.isFlat] at h⟩
    have hcr:=hC.mono (Nu.le_add (l:=⟨w.heap.size,0,te.size,grownCap w (0+s.m) 0 e⟩) hn)
    have hB2:=brel_grown (CR.nil _ te.size (fun _=>[])) hcr hxt (fun h=>⟨fun r hr=>absurd hr (by omega),hsfl h⟩) (w:=w) hzl (old:=0) (e:=e)
    have hge:=grownCap_ge w (0+s.m) 0 e
    have hvr:VRel (ν.add nid ⟨w.heap.size,0,te.size,grownCap w (0+s.m) 0 e⟩) (.slice (some ⟨nid,0,none⟩) (m+1) capU) (.slice (some ⟨w.heap.size,0,none⟩) (0+s.m) (grownCap w (0+s.m) 0 e)):=by
     have:=VRel.slice (ν:=ν.add nid ⟨w.heap.size,0,te.size,grownCap w (0+s.m) 0 e⟩) nid 0 (0+s.m) capU (grownCap w (0+s.m) 0 e) _ Nu.add_same (.inr rfl) hge (by simp)
     rw [show m+1=0+s.m by omega]
     simpa [Loc.at] using this
    have hq:=qpost_new hn hB2 (below_grown w _ _ _ _) (Nat.le_refl _) hvr
    refine ⟨_,_,_,?_,hq.e _⟩
    rw [hx,hye]
    simpa using hrun
  ·rename_i id n c
   obtain ⟨b,hb,h⟩:=blkK_spec h2
   clear h2
   split at h
   ·rename_i hbe
    rw [Bool.and_eq_true] at hbe
    obtain ⟨hbe,hge0⟩:=hbe
    have hbe:b.esz=te.size:=Nat.eq_of_beq_eq_true hbe
    have hge0:n0≤id:=Nat.le_of_ble_eq_true hge0
    obtain ⟨⟨hnn,hBb⟩,h⟩:=h
    obtain ⟨b',h,ho,hxt⟩:=extendK_spec h
    have hid:n0+(id - n0)=id:=by omega
    refine ⟨_,_,_,h,(fun i hi=>by cases hi; rw [hid]; exact ⟨b,hb,(Blk.ownC_spec ho).1⟩),fun ν a w ty hax hay hH hn=>?_⟩
    have hx:=hxa ν a hax
    obtain ⟨oy,cy,L,hye,hoy,hC,hLc⟩:=hs ν w _ hH (hya ν a hay)
    have hL:L.length=s.m*i.size:=by rw [his]; exact hC.len
    have hsfl:s.isFl=true→∀ r,r < s.m→∀ v∈s.get r,scal v=true:=fun h r hr v hv=>hsf h r hr ν w hH v hv
    obtain ⟨l,hl,hB⟩:=hH.blk id b hb
    rw [← hbe] at hC hzl
    have hne:id≠nid:=fun e=>by rw [e,hn] at hl; cases hl
    have hold:(some (id - n0)).bind (fun i=>ν (n0+i))=some l:=by
     show ν (n0+(id - n0))=some l
     rw [hid]; exact hl
    rw [hold]
    have hxr:∃ A c',a.eval x=.slice (some A) n c'∧n≤c'∧((A=l.at 0 0∧c'≤l.cap)∨(n=0∧c'=0)):=by
     rcases hx.to_slice with ⟨l',c',hl',h1,h2,h3,e⟩ | ⟨h1,h2,bb,e⟩
     ·rw [hl] at hl'; cases hl'
      exact ⟨_,c',e,h2,.inl ⟨rfl,by omega⟩⟩
     ·exact ⟨bb,0,by rw [e,h1],by omega,.inr ⟨h1,rfl⟩⟩
    obtain ⟨A,c',hxe,hnc,hA⟩:=hxr
    have hO:∃ O,CR ν b.esz b.row n O∧∀ (j:Nat) u,O[j]?=some u→w.cell? (A.add j)=some u:=by
     rcases hA with ⟨rfl,_⟩ | ⟨h0,_⟩
     ·obtain ⟨O,h1,h2⟩:=CR.of_blk hB (row:=0) (m:=n) (by omega)
      exact ⟨O,h1.congr (fun r hr=>by simp),h2⟩
     ·subst h0
      exact ⟨[],CR.nil _ _ _,fun j u hu=>by simp at hu⟩
    obtain ⟨O,hO,hOc⟩:=hO
    have hps:b.scalB=true→∀ r,r < b.n→∀ v∈b.row r,scal v=true:=fun h r hr v hv=>by
     cases b with
     | flat o n e g=>exact hB.plain rfl r hr v hv
     | expl o e rows =>
      have h:rows.all allScal=true:=h
      have hr:r < rows.length:=hr
      have hv:v∈rows.getD r []:=hv
      rw [List.getD_eq_getElem?_getD,List.getElem?_eq_getElem hr] at hv
      exact allScal_spec (List.all_eq_true.1 h _ (List.getElem_mem hr)) v hv
     | lrec r=>cases h
    have hfl2:(b.scalB && s.isFl)=true→(∀ r,r < b.n→∀ v∈b.row r,scal v=true)∧∀ r,r < s.m→∀ v∈s.get r,scal v=true:=fun h=>by
     rw [Bool.and_eq_true] at h; exact ⟨hps h.1,hsfl h.2⟩
    by_cases hroom:n+s.m≤c'
    ·-- in its place
     obtain ⟨cur,tt,hcur,hsz,hcapn⟩:=hB.own (Blk.ownC_spec ho).1 (Blk.ownC_spec ho).2
     have hle:=Nu.le_add (l:=l) hn
     rcases hA with ⟨rfl,hcap⟩ | ⟨h0,hc0⟩
     ·obtain ⟨h1,h2⟩:=hB.extend (P:=P) ho (Nat.le_refl _) hC hxt hfl2 (by omega)
      refine ⟨_,w.setCells l.blk (l.base+b.n*l.esz) L,ν.add nid l,?_,⟨hle,fun j hj=>Nu.add_ne hj,.slice _ _ _ _ _ l Nu.add_same (.inr rfl) hroom (by omega),.inr ⟨l,rfl,⟨cur,tt,hcur⟩,fun q hq=>setCells_other _ _ _ _ _ hq,by rw [setCells_size]; exact Nat.le_refl _,(setCells_os _ _ _ _).1,(setCells_os _ _ _ _).2.1,(setCells_os _ _ _ _).2.2⟩,(fun h=>by cases h),fun b2 hb2=>by cases hb2; exact ⟨l,Nu.add_same,h2.mono hle,.inr ⟨l,rfl,rfl⟩⟩⟩⟩
      rw [hxe,hye]
      refine run_app_in (P:=P) hu hinf hL hLc hoy hroom (fun A' hA'=>?_) (fun h=>by cases h)
      cases hA'
      have:(l.at 0 0).add (n*i.size)=l.at b.n 0:=by
       rw [Loc.at_add]; unfold Loc.at; congr 1
       rw [hB.esz,his,hbe,hnn]; omega
      rw [this]; exact h1
     ·have hm0:s.m=0:=by omega
      have hL0:L=[]:=List.eq_nil_of_length_eq_zero (by rw [hL,hm0]; simp)
      refine ⟨.slice (some A) (n+s.m) c',w,ν.add nid l,?_,⟨hle,fun j hj=>Nu.add_ne hj,?_,.inl (Below.refl _ _),(fun h=>by cases h),fun b2 hb2=>by
       cases hb2
       have hnm:b'.n=b.n:=by rw [hxt.num,hm0]; rfl
       have hrow:∀ r,r < b.n→b'.row r=b.row r:=fun r hr=>by rw [hxt.row r (by omega),appGet_lo hr]
       refine ⟨l,Nu.add_same,BRel.mono hle ⟨by rw [hxt.esz]; exact hB.esz,fun r hr=>by rw [hnm] at hr; rw [hrow r hr,hxt.esz]; exact hB.len r hr,
        fun r hr j v hv=>by rw [hnm] at hr; rw [hrow r hr] at hv; exact hB.cell r hr j v hv,
        fun h r hr v hv=>by rw [hnm] at hr; rw [hrow r hr] at hv; exact (hfl2 (hxt.flat h)).1 r hr v hv,
        fun r hr v hv=>by rw [hnm] at hr; rw [hrow r hr] at hv; exact hB.one r hr v hv,
        fun _ _=>⟨cur,tt,hcur,hsz,by rw [hnm]; exact hcapn⟩,(fun r h=>by rw [(Blk.ownC_spec hxt.own).2] at h; cases h),hB.live⟩,.inr ⟨l,rfl,rfl⟩⟩⟩⟩
      ·rw [hxe,hye]
       exact run_app_in (P:=P) hu hinf hL hLc hoy hroom (fun A' hA'=>by rw [hL0]; rfl) (fun h=>by cases h)
      ·subst hc0
       rw [show n+s.m=0 by omega]
       exact .void _ _ _ _ (.inr rfl)
    ·have hrun:(Builtin.append_ #[t,t] ty #[a.eval x,a.eval y]).run P w=.ok (.slice (some ⟨w.heap.size,0,none⟩) (n+s.m) (grownCap w (n+s.m) c' e)) (w.drew.alloc (grownObj (O++L).toArray z (grownCap w (n+s.m) c' e - (n+s.m)) e)):=by
      rw [hxe,hye]
      exact run_app_grow (P:=P) (w:=w) (ty:=ty) hu hinf hz (by rw [hO.len,his,hbe]) (fun a ha=>by cases ha; exact hOc) (fun h=>by cases h) hL hLc hoy hnc (by omega) (by rw [hib]; exact hBb) (small _ hBb)
     have hle2:=Nu.le_add (l:=⟨w.heap.size,0,b.esz,grownCap w (n+s.m) c' e⟩) hn
     have hxt':Ext b' b.esz b.row n s.get s.m (b.scalB && s.isFl):=by rw [hnn]; exact hxt
     have hB2:=brel_grown (hO.mono hle2) (hC.mono hle2) hxt' (fun h=>⟨fun r hr v hv=>(hfl2 h).1 r (by omega) v hv,(hfl2 h).2⟩) (w:=w) hzl (old:=c') (e:=e)
     have hge:=grownCap_ge w (n+s.m) c' e
     have hvr:VRel (ν.add nid ⟨w.heap.size,0,b.esz,grownCap w (n+s.m) c' e⟩) (.slice (some ⟨nid,0,none⟩) (n+s.m) capU) (.slice (some ⟨w.heap.size,0,none⟩) (n+s.m) (grownCap w (n+s.m) c' e)):=by
      have:=VRel.slice (ν:=ν.add nid ⟨w.heap.size,0,b.esz,grownCap w (n+s.m) c' e⟩) nid 0 (n+s.m) capU (grownCap w (n+s.m) c' e) _ Nu.add_same (.inr rfl) hge (by simp)
      simpa [Loc.at] using this
     have hq:=qpost_new hn hB2 (below_grown w _ _ _ _) (Nat.le_refl _) hvr
     exact ⟨_,_,_,hrun,hq.e _⟩
   ·exact h.elim
  ·exact h2.elim
 ·exact h2.elim
end
end Go.Ae
