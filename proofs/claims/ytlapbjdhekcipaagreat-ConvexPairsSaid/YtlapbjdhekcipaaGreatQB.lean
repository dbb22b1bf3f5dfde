import Derived.RangeFuncLeaves
import Derived.RangeFuncRecord
import Derived.KernelRfl
import Derived.Test.YtlapbjdhekcipaaGreatQA
set_option linter.unusedVariables false
set_option linter.unusedSimpArgs false
/- 'append' upon the abstract heap: its soundness. -/
namespace Go.Ae
open Go Go.RowKit
def oo (ah:Nat):Src→ai
 | .fl m g=>.flat true m ah g
 | .ex L=>.aQ true ah L
/-- Whether a block's cells hold no addresses. -/
def ai.oA:ai→Bool
 | .flat _ _ _ _=>true
 | .aQ _ _ rows=>rows.all jF
 | .cm _=>false
def vR (b:ai) (s:Src) (k:ai→Prop):Prop :=
 match b,s with
 | .flat true n ah get,.fl m news=>k (.flat true (n+m) ah (iB get n news))
 | .aQ true ah rows,.ex L=>rT rows L fun l=>k (.aQ true ah l)
 | .aQ true ah rows,.fl m news=>match Nat.ble 2 ah && rows.all jF with
  | true=>k (.flat true (rows.length+m) ah (iB (fun j=>rows.getD j []) rows.length news))
  | false=>wC news 0 m fun L=>rT rows L fun l=>k (.aQ true ah l)
 | _,_=>False
def BM (b:ai) (row n:Nat) (s:Src) (k:ai→Prop):Prop :=
 match b,s with
 | .flat _ _ ah get,.fl m news=>k (.flat true (n+m) ah (iB (fun j=>get (fe row j)) n news))
 | .aQ _ ah rows,.ex L=>rF rows row n fun L0=>rT L0 L fun l=>k (.aQ true ah l)
 | .aQ _ ah rows,.fl m news=>match Nat.ble 2 ah && rows.all jF with
  | true=>k (.flat true (n+m) ah (iB (fun j=>rows.getD (fe row j) []) n news))
  | false=>rF rows row n fun L0=>wC news 0 m fun L=>rT L0 L fun l=>k (.aQ true ah l)
 | _,_=>False
/-- Rows g and then h. -/
structure Ext (b':ai) (ah:Nat) (g:Nat→List Value) (n:Nat) (h:Nat→List Value) (m:Nat) (fl:Bool):Prop where
 own:b'.nE=true
 ah:b'.ah=ah
 num:b'.n=n+m
 row:∀ r,r < n+m→b'.row r=iB g n h r
 flat:b'.iR=true→fl=true
theorem Qc {l m:List (List Value)} {r:Nat} (h:r < l.length):(l++m).getD r []=l.getD r []:=by
 simp [List.getD,List.getElem?_append_left h]
theorem Qd {l m:List (List Value)} {r:Nat} (h:l.length≤r):(l++m).getD r []=m.getD (r - l.length) []:=by
 simp [List.getD,List.getElem?_append_right h]
theorem AT {ah:Nat} {L0 L:List (List Value)} {g h:Nat→List Value} {n m:Nat} (h0:L0.length=n) (h1:L.length=m) (hg:∀ r,r < n→L0.getD r []=g r) (hh:∀ r,r < m→L.getD r []=h r) (fl:Bool) :
  Ext (.aQ true ah (L0++L)) ah g n h m fl:=by
 refine ⟨rfl,rfl,by simp [ai.n,h0,h1],fun r hr=>?_,fun h=>by simp [ai.iR] at h⟩
 show (L0++L).getD r []=_
 by_cases ak:r < n
 ·rw [Qc (by omega),jc ak,hg r ak]
 ·rw [Qd (by omega),gu (by omega),h0,hh _ (by omega)]
theorem Ac {b:ai} {s:Src} {k:ai→Prop} (h:vR b s k):∃ b',k b'∧b.nE=true∧Ext b' b.ah b.row b.n s.get s.m (b.oA && s.kf):=by
 cases b with
 | flat o n e g =>
  cases o with
  | false=>cases s <;> exact h.elim
  | true =>
   cases s with
   | fl m news=>exact ⟨_,h,rfl,rfl,rfl,rfl,fun r _=>rfl,fun _=>rfl⟩
   | ex L=>exact h.elim
 | aQ o e rows =>
  cases o with
  | false=>cases s <;> exact h.elim
  | true =>
   cases s with
   | fl m news =>
    have h:match Nat.ble 2 e && rows.all jF with
     | true=>k (.flat true (rows.length+m) e (iB (fun j=>rows.getD j []) rows.length news))
     | false=>wC news 0 m fun L=>rT rows L fun l=>k (.aQ true e l):=h
    split at h
    ·rename_i hs
     rw [Bool.and_eq_true] at hs
     exact ⟨_,h,rfl,rfl,rfl,rfl,fun r _=>rfl,fun _=>by show (rows.all jF && true)=true; rw [hs.2]; rfl⟩
    obtain ⟨L,h,h1,J⟩:=DL h
    have h:=xK h
    exact ⟨_,h,rfl,AT rfl h1 (fun _ _=>rfl) (fun r hr=>by rw [J r hr]; simp [Src.get]) _⟩
   | ex L =>
    have h:=xK h
    exact ⟨_,h,rfl,AT rfl rfl (fun _ _=>rfl) (fun r hr=>rfl) _⟩
 | cm r=>cases s <;> exact h.elim
theorem Kf {b:ai} {row n:Nat} {s:Src} {k:ai→Prop} (h:BM b row n s k):∃ b',k b'∧Ext b' b.ah (fun j=>b.row (row+j)) n s.get s.m (b.oA && s.kf):=by
 cases b with
 | flat o N e g =>
  cases s with
  | fl m news=>exact ⟨_,h,rfl,rfl,rfl,fun r hr=>by simp [ai.row,aq,Src.get,Src.m],fun _=>rfl⟩
  | ex L=>exact h.elim
 | aQ o e rows =>
  have a9:∀ (L0:List (List Value)),(L0.length=n∧row+n≤rows.length)→(∀ (j:Nat) v,L0[j]?=some v→rows[row+j]?=some v)→∀ r,r < n→L0.getD r []=(ai.aQ o e rows).row (row+r):=by
   intro L0 h0 h1 r hr
   have ak:r < L0.length:=by omega
   have:=h1 r _ (List.getElem?_eq_getElem ak)
   simp [ai.row,List.getD,this,List.getElem?_eq_getElem ak]
  cases s with
  | fl m news =>
   have h:match Nat.ble 2 e && rows.all jF with
    | true=>k (.flat true (n+m) e (iB (fun j=>rows.getD (fe row j) []) n news))
    | false=>rF rows row n fun L0=>wC news 0 m fun L=>rT L0 L fun l=>k (.aQ true e l):=h
   split at h
   ·rename_i hs
    rw [Bool.and_eq_true] at hs
    exact ⟨_,h,rfl,rfl,rfl,fun r hr=>by simp [ai.row,aq,Src.get,Src.m],fun _=>by show (rows.all jF && true)=true; rw [hs.2]; rfl⟩
   obtain ⟨L0,h,h0,h3⟩:=xF h
   obtain ⟨L,h,h1,J⟩:=DL h
   have h:=xK h
   exact ⟨_,h,AT h0.1 h1 (a9 L0 h0 h3) (fun r hr=>by rw [J r hr]; simp [Src.get]) _⟩
  | ex L =>
   obtain ⟨L0,h,h0,h3⟩:=xF h
   have h:=xK h
   exact ⟨_,h,AT h0.1 rfl (a9 L0 h0 h3) (fun r hr=>rfl) _⟩
 | cm r=>cases s <;> exact h.elim
/-- Rows g, of which m from q on are put anew. -/
def jG (g:Nat→List Value) (q:Nat) (h:Nat→List Value) (m:Nat):Nat→List Value:=fun j=>bif Nat.blt j q then g j else bif Nat.blt j (q+m) then h (j - q) else g j
theorem Gu {a b:Nat} (h:b≤a):Nat.blt a b=false:=by
 cases e:Nat.blt a b with
 | false=>rfl
 | true=>rw [Nat.blt_eq] at e; omega
theorem Rn {g h:Nat→List Value} {q m j:Nat} (hj:j < q):jG g q h m j=g j:=by
 have:Nat.blt j q=true:=by rw [Nat.blt_eq]; exact hj
 simp [jG,this]
theorem Ro {g h:Nat→List Value} {q m j:Nat} (h1:q≤j) (J:j < q+m):jG g q h m j=h (j - q):=by
 have:Nat.blt j (q+m)=true:=by rw [Nat.blt_eq]; exact J
 simp [jG,this,Gu h1]
theorem Rp {g h:Nat→List Value} {q m j:Nat} (hj:q+m≤j):jG g q h m j=g j:=by
 simp [jG,Gu hj,Gu (show q≤j by omega)]
def Fq (E:Env) (tmps:List Value) (H:ax) (t:TypeId) (xv yv:Value) (k:Value→List Value→ax→Prop):Prop :=
 cR E.tt t fun ti=>match ti.kind with
  | .slice e=>cR E.tt e fun te=>yQ H te.size yv fun s=>match xv with
   | .slice none 0 0=>match s.m with
    | 0=>k (.slice none 0 0) tmps H
    | m+1=>((m+1)*te.bytes≤140737488355328)∧js H fun aI=>ox H (some (oo te.size s)) fun H'=>k (.slice (some ⟨aI,0,none⟩) (m+1) aN) tmps H'
   | .slice (some ⟨id,row,none⟩) n c=>gF H id fun b=>match Nat.beq b.ah te.size with
    | true=>match decide (c=aN) with
     | false=>br (Nat.ble (n+s.m) c)
      (row+n=b.n∧vR b s fun b'=>jr H id (some b') fun H'=>k (.slice (some ⟨id,row,none⟩) (n+s.m) c) tmps H')
      ((row+n≤b.n∧(n+s.m)*te.bytes≤140737488355328)∧BM b row n s fun b'=>js H fun aI=>ox H (some b') fun H'=>k (.slice (some ⟨aI,0,none⟩) (n+s.m) aN) tmps H')
     | true=>match E.ij with
      | true=>match row with
       | 0=>(E.base≤id∧(n≤b.n∧b.nE=true)∧(n+s.m)*te.bytes≤140737488355328)∧BM b 0 n s fun b1=>yz id b1 fun b'=>∃ aa,∀ a:Nat→Value,tO a id aa 0 tmps fun yA=>wB id H fun H1=>jr H1 id (some b') fun H'=>k (.slice (some ⟨id,0,none⟩) (n+s.m) aN) yA H'
       | _=>False
      | false=>match Nat.ble E.base id with
       | true=>match row with
        | 0=>(E.base≤id∧n=b.n∧(n+s.m)*te.bytes≤140737488355328)∧vR b s fun b1=>yz id b1 fun b'=>∃ aa,∀ a:Nat→Value,tO a id aa 0 tmps fun yA=>wB id H fun H1=>jr H1 id (some b') fun H'=>k (.slice (some ⟨id,0,none⟩) (n+s.m) aN) yA H'
        | _=>False
       | false=>match row with
        | 0=>(n=b.n∧(n+s.m)*te.bytes≤140737488355328)∧vR b s fun b'=>jr H id none fun H1=>js H1 fun aI=>ox H1 (some b') fun H'=>k (.slice (some ⟨aI,0,none⟩) (n+s.m) aN) tmps H'
        | _=>False
    | false=>False
   | .slice (some ⟨id,row,some b0⟩) n c=>gF H id fun b=>match Nat.beq b.ah te.size with
    | true=>match b,s with
     | .flat true N ah get,.fl m news=>(n+m≤b0∧row+(n+m)≤N)∧jr H id (some (.flat true N ah (jG get (fe row n) news m))) fun H'=>k (.slice (some ⟨id,row,some b0⟩) (n+m) c) tmps H'
     | _,_=>False
    | false=>False
   | _=>False
  | _=>False
/-- The builtin 'clear'. -/
def Nb (E:Env) (tmps:List Value) (H:ax) (t:TypeId) (x:Operand) (k:ax→Prop):Prop :=
 bZ tmps x fun xv=>cR E.tt t fun ti=>match ti.kind with
  | .slice e=>cR E.tt e fun te=>match xv with
   | .slice (some ⟨id,row,_⟩) n _=>gF H id fun b=>match Nat.beq b.ah te.size with
    | true=>match b with
     | .flat true N ah get=>(row+n≤N∧mj te.zero=true)∧jr H id (some (.flat true N ah (jG get row (fun _=>te.zero) n))) k
     | _=>False
    | false=>False
   | _=>False
  | _=>False
/-- The builtin 'copy'. -/
def Fs (E:Env) (H:ax) (t:TypeId) (xv yv:Value) (k:Value→ax→Prop):Prop :=
 cR E.tt t fun ti=>match ti.kind with
  | .slice e=>cR E.tt e fun te=>yQ H te.size yv fun s=>match s,xv with
   | .fl m news,.slice (some ⟨id,row,_⟩) n _=>gF H id fun b=>match Nat.beq b.ah te.size with
    | true=>match b with
     | .flat true N ah get=>row+n≤N∧jr H id (some (.flat true N ah (jG get row news (Nat.min m n)))) fun H'=>k (.int .i64 (Nat.min m n)) H'
     | _=>False
    | false=>False
   | _,_=>False
  | _=>False
def Mt (E:Env) (tmps:List Value) (H:ax) (t:TypeId) (x y:Operand) (k:Value→List Value→ax→Prop):Prop :=
 bZ tmps x fun xv=>bZ tmps y fun yv=>Fq E tmps H t xv yv k
/-- A slice whose capacity is known. -/
def AU:Value→Bool
 | .slice (some _) _ c=>!decide (c=aN)
 | _=>true
section
variable {P:Program} {E:Env} {F:Fr}
theorem Dh (z:Array Value) (n:Nat):(Builtin.zeroCells z n).size=n*z.size:=by simp [Builtin.zeroCells]
/-- The cells behind a grown slice. -/
theorem QS {O L:List Value} {z:Value} {k q:Nat} (hq:q < (O++L).length):((O++L).toArray++Builtin.zeroCells z.cells k)[q]?=(O++L)[q]?:=by
 rw [Array.getElem?_append_left (by simpa using hq)]
 simp
/-- A block appended to where it stands. -/
theorem bQ.extend {ν:Nu} {l:Loc} {b b':ai} {w:World} (hB:bQ ν l b w) (ho:b.nE=true) {n m:Nat} (aZ:n≤b.n) {news:Nat→List Value} {L:List Value} {fl:Bool}
  (hC:CR ν b.ah news m L) (hx:Ext b' b.ah b.row n news m fl) (sj:fl=true→(∀ r,r < b.n→∀ v∈b.row r,cO v=true)∧∀ r,r < m→∀ v∈news r,cO v=true) (fV:n+m≤l.cap) :
  (storeCells (l.at n 0) L).run P w=.ok () (w.setCells l.aH (l.base+n*l.ah) L)∧bQ ν l b' (w.setCells l.aH (l.base+n*l.ah) L):=by
 obtain ⟨cur,t,jR,bn,_⟩:=hB.own (ai.c5 ho).1 (ai.c5 ho).2
 have he:=hB.ah
 have wU:l.base+n*l.ah+L.length≤cur.size:=by
  rw [hC.len,he]
  have:(n+m)*b.ah≤l.cap*b.ah:=Nat.mul_le_mul_right _ fV
  rw [Nat.add_mul] at this
  rw [he] at bn
  omega
 have rG:∀ j,j < L.length→(w.cell? ⟨l.aH,l.base+n*l.ah+j,none⟩).isSome=true:=by
  intro j hj
  simp only [World.cell?]
  rw [jR]
  simp
  omega
 refine ⟨?_,?_⟩
 ·have:=run_storeCells_cells (P:=P) l.aH (l.base+n*l.ah) L 0 w (by simpa using rG) (fun j hj=>by simp [World.frozen?,jR]) hC.one
  simpa [Loc.at] using this
 ·obtain ⟨oF,J,h3⟩:=z8 l.aH L (l.base+n*l.ah) w cur t jR
  refine ⟨by rw [hx.ah]; exact he,fun r hr=>?_,fun r hr j v hv=>?_,fun h r hr v hv=>?_,fun r hr v hv=>?_,fun _ _=>⟨oF,t,J,by rw [h3]; exact bn,by rw [hx.num]; exact fV⟩,(fun r h=>by rw [(ai.c5 hx.own).2] at h; cases h),by rw [oa]; exact hB.live⟩
  ·rw [hx.num] at hr
   rw [hx.row r hr,hx.ah]
   by_cases h:r < n
   ·rw [jc h]; exact hB.len r (by omega)
   ·rw [gu (by omega)]; exact hC.row _ (by omega)
  ·rw [hx.num] at hr
   rw [hx.row r hr] at hv
   by_cases h:r < n
   ·rw [jc h] at hv
    obtain ⟨v',h4,h5⟩:=hB.cell r (by omega) j v hv
    have hj:j < b.ah:=by rw [← hB.len r (by omega)]; exact (List.getElem?_eq_some_iff.1 hv).1
    refine ⟨v',?_,h5⟩
    rw [World.cell?_setCells_out l.aH _ _ _ _ (fun _ _=>?_)]
    ·exact h4
    ·left
     simp only [Loc.at,he]
     have:(r+1)*b.ah≤n*b.ah:=Nat.mul_le_mul_right _ h
     rw [Nat.add_mul] at this; omega
   ·rw [gu (by omega)] at hv
    obtain ⟨v',h4,h5⟩:=hC.cell (r - n) (by omega) j v hv
    have ak:=(List.getElem?_eq_some_iff.1 h4).1
    refine ⟨v',?_,h5⟩
    have:=World.cell?_setCells_in l.aH L (l.base+n*l.ah) w rG _ ak
    have e:l.at r j=⟨l.aH,l.base+n*l.ah+((r - n)*b.ah+j),none⟩:=by
     unfold Loc.at
     congr 1
     rw [he]
     have:r*b.ah=n*b.ah+(r - n)*b.ah:=by rw [← Nat.add_mul]; congr 1; omega
     omega
    rw [e,this,← h4,List.getElem?_eq_getElem ak]
  ·rw [hx.num] at hr
   rw [hx.row r hr] at hv
   obtain ⟨h6,h7⟩:=sj (hx.flat h)
   by_cases h:r < n
   ·rw [jc h] at hv; exact h6 r (by omega) v hv
   ·rw [gu (by omega)] at hv; exact h7 _ (by omega) v hv
  ·rw [hx.num] at hr
   rw [hx.row r hr] at hv
   by_cases h:r < n
   ·rw [jc h] at hv; exact hB.one r (by omega) v hv
   ·rw [gu (by omega)] at hv; exact hC.rS _ (by omega) v hv
theorem Kept.setCells {O:Nat→Prop} {W w:World} (h:Kept O W w) {b:Nat} (hb:O b∨W.heap.size≤b) (o:Nat) (L:List Value):Kept O W (w.setCells b o L):=by
 obtain ⟨o1,o2,o3⟩:=vg b L o w
 refine ⟨o1.trans h.os,o2.trans h.tape,o3.trans h.output,by rw [oa]; exact h.size,fun q h1 J=>?_⟩
 rw [qN]
 ·exact h.aH q h1 J
 ·intro e
  subst e
  rcases hb with h' | h'
  ·exact J h'
  ·omega
/-- A grown block. -/
theorem vl {ν:Nu} {ah n m:Nat} {g h:Nat→List Value} {O L:List Value} {b':ai} {fl:Bool} (hO:CR ν ah g n O) (hC:CR ν ah h m L) (hx:Ext b' ah g n h m fl)
  (sj:fl=true→(∀ r,r < n→∀ v∈g r,cO v=true)∧∀ r,r < m→∀ v∈h r,cO v=true) {w:World} {z:Value} (hz:z.cells.size=ah) {iJ:Nat} {e:TypeId} :
  bQ ν ⟨w.heap.size,0,ah,grownCap w (n+m) iJ e⟩ b' (w.drew.alloc (s7 (O++L).toArray z (grownCap w (n+m) iJ e - (n+m)) e)):=by
 have eG:=grownCap_ge w (n+m) iJ e
 have O2:=hO.append hC
 refine Vz O2 hx.row hx.num hx.ah (fun hf r hr v hv=>?_) (C:=(O++L).toArray++Builtin.zeroCells z.cells (grownCap w (n+m) iJ e - (n+m))) (t:=e) ?_ (fun q hq=>QS hq) eG ?_ (ai.c5 hx.own).2
 ·obtain ⟨h1,J⟩:=sj (hx.flat hf)
  by_cases h:r < n
  ·rw [jc h] at hv; exact h1 r h v hv
  ·rw [gu (by omega)] at hv; exact J _ (by omega) v hv
 ·show (w.heap.push _)[w.heap.size]?=_
  simp [s7]
 ·rw [Array.size_append,Dh,hz]
  simp only [List.size_toArray]
  rw [O2.len,← Nat.add_mul]
  apply Nat.le_of_eq
  congr 1
  omega
theorem vh (w:World) (C:Array Value) (z:Value) (k:Nat) (e:TypeId):Below w.heap.size w (w.drew.alloc (s7 C z k e)):=((Below.refl _ w).drew).alloc (Nat.le_refl _) _
/-- Rows of a block put anew. -/
theorem bQ.ij {ν:Nu} {l:Loc} {N ah:Nat} {get:Nat→List Value} {w:World} (hB:bQ ν l (.flat true N ah get) w) {q m:Nat} (hq:q+m≤N) {news:Nat→List Value} {L:List Value}
  (hC:CR ν ah news m L) (hs:∀ r,r < m→∀ v∈news r,cO v=true) :
  (storeCells (l.at q 0) L).run P w=.ok () (w.setCells l.aH (l.base+q*l.ah) L)∧bQ ν l (.flat true N ah (jG get q news m)) (w.setCells l.aH (l.base+q*l.ah) L):=by
 obtain ⟨cur,t,jR,bn,fV⟩:=hB.own rfl rfl
 have fV:N≤l.cap:=fV
 have he:l.ah=ah:=hB.ah
 have wU:l.base+q*l.ah+L.length≤cur.size:=by
  rw [hC.len,he]
  have:(q+m)*ah≤l.cap*ah:=Nat.mul_le_mul_right _ (by omega)
  rw [Nat.add_mul] at this
  rw [he] at bn
  omega
 have rG:∀ j,j < L.length→(w.cell? ⟨l.aH,l.base+q*l.ah+j,none⟩).isSome=true:=by
  intro j hj
  simp only [World.cell?]
  rw [jR]
  simp
  omega
 refine ⟨?_,?_⟩
 ·have:=run_storeCells_cells (P:=P) l.aH (l.base+q*l.ah) L 0 w (by simpa using rG) (fun j hj=>by simp [World.frozen?,jR]) hC.one
  simpa [Loc.at] using this
 ·obtain ⟨oF,J,h3⟩:=z8 l.aH L (l.base+q*l.ah) w cur t jR
  have rows:∀ r,r < N→(jG get q news m r=get r∧(r < q∨q+m≤r))∨(jG get q news m r=news (r - q)∧q≤r∧r < q+m):=fun r _=>by
   by_cases h:r < q
   ·exact .inl ⟨Rn h,.inl h⟩
   ·by_cases h':r < q+m
    ·exact .inr ⟨Ro (by omega) h',by omega,h'⟩
    ·exact .inl ⟨Rp (by omega),.inr (by omega)⟩
  refine ⟨he,fun r hr=>?_,fun r hr j v hv=>?_,fun _ r hr v hv=>?_,fun r hr v hv=>?_,fun _ _=>⟨oF,t,J,by rw [h3]; exact bn,fV⟩,(fun r h=>by cases h),by rw [oa]; exact hB.live⟩
  ·have hr:r < N:=hr
   show (jG get q news m r).length=ah
   rcases rows r hr with ⟨e,_⟩ | ⟨e,h1,J⟩
   ·rw [e]; exact hB.len r hr
   ·rw [e]; exact hC.row _ (by omega)
  ·have hr:r < N:=hr
   have hv:(jG get q news m r)[j]?=some v:=hv
   rcases rows r hr with ⟨e,h1⟩ | ⟨e,h1,J⟩
   ·rw [e] at hv
    obtain ⟨v',h4,h5⟩:=hB.cell r hr j v hv
    have hj:j < ah:=by have e':(get r).length=ah:=hB.len r hr; rw [← e']; exact (List.getElem?_eq_some_iff.1 hv).1
    refine ⟨v',?_,h5⟩
    rw [World.cell?_setCells_out l.aH _ _ _ _ (fun _ _=>?_)]
    ·exact h4
    ·rcases h1 with h | h
     ·left
      simp only [Loc.at,he]
      have:(r+1)*ah≤q*ah:=Nat.mul_le_mul_right _ h
      rw [Nat.add_mul] at this; omega
     ·right
      simp only [Loc.at,he,hC.len]
      have:(q+m)*ah≤r*ah:=Nat.mul_le_mul_right _ h
      rw [Nat.add_mul] at this; omega
   ·rw [e] at hv
    obtain ⟨v',h4,h5⟩:=hC.cell (r - q) (by omega) j v hv
    have ak:=(List.getElem?_eq_some_iff.1 h4).1
    refine ⟨v',?_,h5⟩
    have:=World.cell?_setCells_in l.aH L (l.base+q*l.ah) w rG _ ak
    have e:l.at r j=⟨l.aH,l.base+q*l.ah+((r - q)*ah+j),none⟩:=by
     unfold Loc.at
     congr 1
     rw [he]
     have:r*ah=q*ah+(r - q)*ah:=by rw [← Nat.add_mul]; congr 1; omega
     omega
    rw [e,this,← h4,List.getElem?_eq_getElem ak]
  ·have hr:r < N:=hr
   have hv:v∈jG get q news m r:=hv
   rcases rows r hr with ⟨e,_⟩ | ⟨e,h1,J⟩
   ·rw [e] at hv; exact hB.plain rfl r hr v hv
   ·rw [e] at hv; exact hs _ (by omega) v hv
  ·have hr:r < N:=hr
   have hv:v∈jG get q news m r:=hv
   rcases rows r hr with ⟨e,_⟩ | ⟨e,h1,J⟩
   ·rw [e] at hv; exact hB.one r hr v hv
   ·rw [e] at hv; exact hC.rS _ (by omega) v hv
theorem bC.ij {ν:Nu} {tmps:List Value} {H:ax} {a:Act} {w:World} (hi:bC F ν tmps H a w) {id N ah:Nat} {get:Nat→List Value} (hb:H[id]?=some (some (.flat true N ah get))) {l:Loc} (hl:ν id=some l)
  {q m:Nat} (hq:q+m≤N) {news:Nat→List Value} {L:List Value} (hC:CR ν ah news m L) (hs:∀ r,r < m→∀ v∈news r,cO v=true) :
  (storeCells (l.at q 0) L).run P w=.ok () (w.setCells l.aH (l.base+q*l.ah) L)∧bC F ν tmps (H.set id (some (.flat true N ah (jG get q news m)))) a (w.setCells l.aH (l.base+q*l.ah) L):=by
 obtain ⟨l0,eM,hB⟩:=hi.hp.aH id _ hb
 rw [hl] at eM; cases eM
 obtain ⟨h1,im⟩:=hB.ij (P:=P) hq hC hs
 have ak:id < H.length:=(List.getElem?_eq_some_iff.1 hb).1
 have nG:∀ q',q'≠l.aH→(w.setCells l.aH (l.base+q*l.ah) L).heap[q']?=w.heap[q']?:=fun q' HU=>qN _ _ _ _ _ HU
 have oP:w.heap.size≤(w.setCells l.aH (l.base+q*l.ah) L).heap.size:=by rw [oa]; exact Nat.le_refl _
 refine ⟨h1,hi.tm,(let ⟨_,_,tQ,_⟩:=hB.own rfl rfl; hi.df.fJ tQ nG),?_,fun j hj=>hi.fr j (by simpa using hj),hi.kp.setCells (hi.own id _ l hb rfl hl) _ _,fun j bj lj hj nP c9=>?_,hi.mono⟩
 ·refine hi.hp.fJ (id:=id) (fun _ _=>rfl) (fun j bj hj aK=>?_) (fun bj hj=>?_)
  ·rw [List.getElem?_set_ne (Ne.symm aK)] at hj
   refine ⟨bj,hj,rfl,fun lj c9 qe=>qe.same (nG _ ?_) oP⟩
   exact Ne.symm (hi.hp.sep id j _ bj l lj hb hj (Ne.symm aK) rfl hl c9)
  ·rw [List.getElem?_set_self ak] at hj
   cases hj
   exact ⟨l,hl,im,fun j lj bj aK hj c9=>Ne.symm (hi.hp.sep id j _ bj l lj hb hj (Ne.symm aK) rfl hl c9)⟩
 ·by_cases e':j=id
  ·subst e'; rw [hl] at c9; cases c9; exact hi.own j _ l hb rfl hl
  ·rw [List.getElem?_set_ne (Ne.symm e')] at hj; exact hi.own j bj lj hj nP c9
/-- Zero rows. -/
theorem CR.aaD {ν:Nu} {z:Value} {zs:List Value} (hz:z.cells=⟨zs⟩) (Gv:bh ν zs zs) (pS:∀ v∈zs,v.oneCell'=true) (h0:0 < zs.length) (n:Nat):CR ν zs.length (fun _=>zs) n (Builtin.zeroCells z.cells n).toList:=by
 have bn:z.cells.size=zs.length:=by rw [hz]; rfl
 have kI:∀ j,j < n*zs.length→(Builtin.zeroCells z.cells n)[j]?=zs[j % zs.length]?:=fun j hj=>by
  rw [Jk _ _ _ (by rw [bn]; exact hj) (by rw [bn]; exact h0),bn,hz]; simp
 refine ⟨by simp [Dh,bn],fun _ _=>rfl,fun r hr j v hv=>?_,fun u hu=>?_,fun _ _ v hv=>pS v hv⟩
 ·have hj:=(List.getElem?_eq_some_iff.1 hv).1
  have ak:r*zs.length+j < n*zs.length:=by
   have:(r+1)*zs.length≤n*zs.length:=Nat.mul_le_mul_right _ hr
   rw [Nat.add_mul] at this; omega
  refine ⟨v,?_,Gv.2 j v v hv hv⟩
  rw [Array.getElem?_toList,kI _ ak,Nat.mul_comm,Nat.mul_add_mod,Nat.mod_eq_of_lt hj]; exact hv
 ·obtain ⟨j,hj,rfl⟩:=List.getElem_of_mem hu
  have gn:j < n*zs.length:=by simpa [Dh,bn] using hj
  have h1:=kI j gn
  rw [← Array.getElem?_toList,List.getElem?_eq_getElem hj] at h1
  exact pS _ (List.mem_of_getElem? h1.symm)
theorem QT (hE:EnvOk P E) {ν:Nu} {tmps:List Value} {H:ax} {a:Act} {w:World} (hi:bC F ν tmps H a w) {t:TypeId} {x:Operand} {k:ax→Prop}
  (h:Nb E tmps H t x k) (ty:TypeId):∃ H' w',k H'∧bC F ν tmps H' a w'∧(Builtin.clear_ #[t] ty #[a.eval x]).run P w=.ok (.tuple #[]) w':=by
 obtain ⟨xv,J,hx⟩:=kz h (hi.me x)
 clear h
 obtain ⟨ti,ht,h⟩:=cT J
 clear J
 obtain ⟨d,hu,hd⟩:=(hE.ty _ _ ht).under
 split at h
 ·rename_i e hk
  rw [hk] at hd
  have hd:d=.slice e:=hd
  subst hd
  obtain ⟨te,he,J⟩:=cT h
  clear h
  have bg:=hE.ty _ _ he
  split at J
  ·rename_i id row sp n c
   obtain ⟨b,hb,h⟩:=gA J
   clear J
   split at h
   ·rename_i dy
    have dy:b.ah=te.size:=Nat.eq_of_beq_eq_true dy
    split at h
    ·rename_i N ah get _
     have dy:ah=te.size:=dy
     obtain ⟨⟨hN,c7⟩,h⟩:=h
     obtain ⟨ak,h⟩:=lW h
     obtain ⟨l,hl,hB⟩:=hi.hp.aH id _ hb
     obtain ⟨i,iG,gy,mZ,z,hz,il⟩:=bg.info
     have xg:=CR.aaD (ν:=ν) il (bg.self ν) bg.one (by rw [bg.len]; exact bg.bit.1) n
     rw [bg.len,← dy] at xg
     have hsc:∀ r,r < n→∀ v∈te.zero,cO v=true:=fun _ _ v hv=>dG c7 v hv
     have wD:n=0∨(0 < n∧∃ c',a.eval x=.slice (some (l.at row 0)) n c'):=by
      rcases hx.Br with ⟨l',c',cJ,_,_,e⟩ | ⟨h0,_⟩
      ·rw [hl] at cJ; cases cJ
       rcases Nat.eq_zero_or_pos n with h | h
       ·exact .inl h
       ·exact .inr ⟨h,c',e⟩
      ·exact .inl h0
     rcases wD with h0 | ⟨lz,c',cF⟩
     ·subst h0
      have:=(hi.ij (P:=P) hb hl (q:=row) (m:=0) hN (CR.nil _ _ (fun _=>te.zero)) (fun r hr=>absurd hr (by omega))).2
      refine ⟨_,w,h,this,?_⟩
      have:∃ o,a.eval x=.slice o 0 0∨∃ c',a.eval x=.slice o 0 c':=by
       rcases hx.Br with ⟨l',c',_,_,_,e⟩ | ⟨_,bb,e⟩
       ·exact ⟨_,.inr ⟨_,e⟩⟩
       ·exact ⟨_,.inl e⟩
      obtain ⟨o,e | ⟨c',e⟩⟩:=this <;> rw [e] <;> cases o <;> simp [Builtin.clear_,dE hu]
     ·obtain ⟨h1,J⟩:=hi.ij (P:=P) hb hl (q:=row) hN xg hsc
      refine ⟨_,_,h,J,?_⟩
      obtain ⟨m,rfl⟩:∃ m,n=m+1:=⟨n - 1,by omega⟩
      rw [cF]
      simp [Builtin.clear_,dE hu,ve iG hz,h1]
    ·exact h.elim
   ·exact h.elim
  ·exact J.elim
 ·exact h.elim
theorem CR.pre {ν:Nu} {ah m q:Nat} {g:Nat→List Value} {L:List Value} (h:CR ν ah g m L) (hq:q≤m):CR ν ah g q (L.take (q*ah)):=by
 have hle:q*ah≤m*ah:=Nat.mul_le_mul_right _ hq
 refine ⟨by rw [List.length_take,h.len]; omega,fun r hr=>h.row r (by omega),fun r hr j v hv=>?_,fun u hu=>h.one u (List.mem_of_mem_take hu),fun r hr=>h.rS r (by omega)⟩
 obtain ⟨v',h1,J⟩:=h.cell r (by omega) j v hv
 have hj:j < ah:=by rw [← h.row r (by omega)]; exact (List.getElem?_eq_some_iff.1 hv).1
 have:(r+1)*ah≤q*ah:=Nat.mul_le_mul_right _ hr
 rw [Nat.add_mul] at this
 exact ⟨v',by rw [List.getElem?_take_of_lt (by omega)]; exact h1,J⟩
theorem Kg (hE:EnvOk P E) {ν:Nu} {tmps:List Value} {H:ax} {a:Act} {w:World} (hi:bC F ν tmps H a w) {t:TypeId} {xv yv x' y':Value} {k:Value→ax→Prop} (hx:an ν xv x') (hy:an ν yv y')
  (h:Fs E H t xv yv k) (t2 ty:TypeId):∃ v H' w',k v H'∧an ν v v∧bC F ν tmps H' a w'∧(Builtin.copy_ #[t,t2] ty #[x',y']).run P w=.ok v w':=by
 obtain ⟨ti,ht,J⟩:=cT h
 clear h
 obtain ⟨d,hu,hd⟩:=(hE.ty _ _ ht).under
 split at J
 ·rename_i e hk
  rw [hk] at hd
  have hd:d=.slice e:=hd
  subst hd
  obtain ⟨te,he,h⟩:=cT J
  clear J
  have bg:=hE.ty _ _ he
  obtain ⟨i,iG,gy,mZ,z,hz,il⟩:=bg.info
  obtain ⟨s,J,xh,hs⟩:=D3 h
  clear h
  obtain ⟨oy,cy,L,ko,kq,hC,jU⟩:=hs ν w _ hi.hp hy
  have pT:s.kf=true→∀ r,r < s.m→∀ v∈s.get r,cO v=true:=fun h r hr v hv=>xh h r hr ν w hi.hp v hv
  split at J
  ·rename_i m news id row sp n c
   obtain ⟨b,hb,h⟩:=gA J
   clear J
   split at h
   ·rename_i dy
    have dy:b.ah=te.size:=Nat.eq_of_beq_eq_true dy
    split at h
    ·rename_i N ah get _
     have dy:ah=te.size:=dy
     obtain ⟨hN,h⟩:=h
     obtain ⟨ak,h⟩:=lW h
     obtain ⟨l,hl,hB⟩:=hi.hp.aH id _ hb
     have y9:CR ν te.size news m L:=hC
     have Of:Nat.min m n≤m:=Nat.min_le_left _ _
     have ac1:Nat.min m n≤n:=Nat.min_le_right _ _
     have HV:CR ν ah news (Nat.min m n) (L.take (Nat.min m n*te.size)):=by rw [dy]; exact y9.pre Of
     obtain ⟨h1,h3⟩:=hi.ij (P:=P) hb hl (q:=row) (m:=Nat.min m n) (by omega) HV (fun r hr=>pT rfl r (by show r < m; omega))
     have zg:y'=.slice oy m cy:=ko
     have hf:(Builtin.firstCells i.size (Nat.min m n) (.slice oy m cy)).run P w=.ok (L.take (Nat.min m n*te.size)).toArray w:=by
      cases oy with
      | none =>
       have km:m=0:=kq rfl
       subst km
       have:L=[]:=List.eq_nil_of_length_eq_zero (by rw [y9.len]; simp)
       subst this
       rw [run_firstCells_none]; simp
      | some b0 =>
       refine run_firstCells_some (P:=P) w i.size (Nat.min m n) b0 m cy _ (by rw [gy]; exact (y9.pre Of).len) fun j v hv=>jU b0 rfl j v ?_
       have:=(List.getElem?_eq_some_iff.1 hv).1
       rw [List.length_take] at this
       rw [List.getElem?_take_of_lt (by omega)] at hv
       exact hv
     rcases hx.Br with ⟨l',c',cJ,_,_,e⟩ | ⟨h0,bb,e⟩
     ·rw [hl] at cJ; cases cJ
      refine ⟨_,_,_,h,.int _ _,h3,?_⟩
      rw [e,zg]
      simp [Builtin.copy_,dE hu,Builtin.lenOf,sizeOf,typeInfo,iG,hf,h1]
      rfl
     ·subst h0
      have hq:Nat.min m 0=0:=Nat.min_zero m
      have h4:=(hi.ij (P:=P) hb hl (q:=row) (m:=Nat.min m 0) (news:=news) (L:=[]) (by omega) (by rw [hq]; exact CR.nil _ _ _) (fun r hr=>absurd hr (by omega))).2
      refine ⟨_,_,w,h,.int _ _,h4,?_⟩
      rw [e,zg]
      rw [hq,Nat.zero_mul,List.take_zero] at hf
      cases bb <;> simp [Builtin.copy_,dE hu,Builtin.lenOf,sizeOf,typeInfo,iG,hq,hf] <;> rfl
    ·exact h.elim
   ·exact h.elim
  ·exact J.elim
 ·exact J.elim
theorem JQ (hE:EnvOk P E) (bO:kN F E) {ν:Nu} {tmps:List Value} {H:ax} {a:Act} {w:World} (hi:bC F ν tmps H a w) {t:TypeId} {xv yv x' y':Value} {k:Value→List Value→ax→Prop}
  (hx:an ν xv x') (hy:an ν yv y') (h:Fq E tmps H t xv yv k) (ty:TypeId) :
  ∃ v v' aj t' H' w',k v t' H'∧an aj v v'∧bC F aj t' H' a w'∧(Builtin.append_ #[t,t] ty #[x',y']).run P w=.ok v' w'∧(AU xv=true→ν.le aj):=by
 obtain ⟨ti,ht,J⟩:=cT h
 clear h
 obtain ⟨d,hu,hd⟩:=(hE.ty _ _ ht).under
 split at J
 ·rename_i e hk
  rw [hk] at hd
  have hd:d=.slice e:=hd
  subst hd
  obtain ⟨te,he,h⟩:=cT J
  clear J
  have bg:=hE.ty _ _ he
  obtain ⟨i,iG,gy,mZ,z,hz,il⟩:=bg.info
  obtain ⟨s,J,xh,hs⟩:=D3 h
  clear h
  obtain ⟨oy,cy,L,ko,kq,hC,jU⟩:=hs ν w _ hi.hp hy
  have hL:L.length=s.m*i.size:=by rw [gy]; exact hC.len
  have jv:z.cells.size=te.size:=by rw [il]; simpa using bg.len
  have ab7:=bg.bit
  have small:∀ q,q*te.bytes≤140737488355328→q≤140737488355328:=fun q hq=>by
   have:q*1≤q*te.bytes:=Nat.mul_le_mul_left _ (by omega)
   omega
  have pT:s.kf=true→∀ r,r < s.m→∀ v∈s.get r,cO v=true:=fun h r hr v hv=>xh h r hr ν w hi.hp v hv
  split at J
  ·-- onto nil
   have hx:=hx.o9
   split at J
   ·rename_i hm
    have xi:L=[]:=List.eq_nil_of_length_eq_zero (by rw [hL,hm]; simp)
    refine ⟨_,_,ν,_,_,w,J,.iF,hi,?_,fun _=>ν.le_refl⟩
    rw [hx,ko]
    have:=qQ (P:=P) (w:=w) (ty:=ty) hu iG (A:=none) (oy:=oy) (n:=0) (c:=0) (m:=s.m) (cy:=cy) (L:=L) hL jU kq (by omega) (w2:=w) (fun a ha=>by cases ha) (fun _=>rfl)
    rw [hm] at this ⊢
    simpa using this
   ·rename_i m hm
    obtain ⟨hB,h⟩:=J
    have h:=lX h
    have bF:=Ab (P:=P) (w:=w) (ty:=ty) hu iG hz (A:=none) (oy:=oy) (n:=0) (c:=0) (m:=s.m) (cy:=cy) (O:=[]) (L:=L) (by simp) (fun a ha=>by cases ha) (fun _=>⟨rfl,rfl⟩) hL jU kq (by omega) (by omega) (by rw [mZ,hm]; simpa using hB) (by have:=small _ hB; omega)
    have oG:ν H.length=none:=hi.fr _ (Nat.le_refl _)
    have dS:Ext (oo te.size s) te.size (fun _=>[]) 0 s.get s.m s.kf:=by
     cases s with
     | fl m g=>exact ⟨rfl,rfl,by simp [oo,ai.n,Src.m],fun r hr=>by rw [gu (by omega)]; rfl,fun _=>rfl⟩
     | ex L=>exact ⟨rfl,rfl,by simp [oo,ai.n,Src.m],fun r hr=>by rw [gu (by omega)]; rfl,fun h=>by simp [oo,ai.iR] at h⟩
    have xg:=hC.mono (Nu.j6 (l:=⟨w.heap.size,0,te.size,grownCap w (0+s.m) 0 e⟩) oG)
    have im:=vl (CR.nil _ te.size (fun _=>[])) xg dS (fun h=>⟨fun r hr=>absurd hr (by omega),pT h⟩) (w:=w) jv (iJ:=0) (e:=e)
    have eG:=grownCap_ge w (0+s.m) 0 e
    have cH:an (ν.add H.length ⟨w.heap.size,0,te.size,grownCap w (0+s.m) 0 e⟩) (.slice (some ⟨H.length,0,none⟩) (m+1) aN) (.slice (some ⟨w.heap.size,0,none⟩) (0+s.m) (grownCap w (0+s.m) 0 e)):=by
     have:=an.slice (ν:=ν.add H.length ⟨w.heap.size,0,te.size,grownCap w (0+s.m) 0 e⟩) H.length 0 (0+s.m) aN (grownCap w (0+s.m) 0 e) _ Nu.add_same (.inr rfl) eG (by simp)
     rw [show m+1=0+s.m by omega]
     simpa [Loc.at] using this
    have hq:=mG oG im (vh w _ _ _ _) (Nat.le_refl _) cH
    obtain ⟨H',h1,J⟩:=hi.quiet hq (k:=fun H'=>k _ tmps H') h
    refine ⟨_,_,_,_,_,_,h1,cH,J,?_,fun _=>Nu.j6 oG⟩
    rw [hx,ko]
    simpa using bF
  ·rename_i id row n c
   obtain ⟨b,hb,h⟩:=gA J
   clear J
   obtain ⟨l,hl,hB⟩:=hi.hp.aH id b hb
   split at h
   ·rename_i dy
    have dy:b.ah=te.size:=Nat.eq_of_beq_eq_true dy
    rw [← dy] at hC jv
    -- what the slice may be
    have HW:∃ A c',x'=.slice (some A) n c'∧n≤c'∧(c'=c∨c=aN)∧((A=l.at row 0∧row+c'≤l.cap)∨(n=0∧c'=0)):=by
     rcases hx.s5 with ⟨l',c',cJ,h1,J,h3,e⟩ | ⟨h1,J,bb,e⟩
     ·rw [hl] at cJ; cases cJ
      exact ⟨_,c',e,J,h1,.inl ⟨rfl,h3⟩⟩
     ·exact ⟨bb,0,by rw [e,h1],by omega,J.imp (fun h=>h) (fun h=>h),.inr ⟨h1,rfl⟩⟩
    obtain ⟨A,c',cF,CI,kO,hA⟩:=HW
    -- its cells
    have hold:row+n≤b.n→∃ O,CR ν b.ah (fun j=>b.row (row+j)) n O∧∀ (j:Nat) u,O[j]?=some u→w.cell? (A.add j)=some u:=by
     intro hle
     rcases hA with ⟨rfl,_⟩ | ⟨h0,_⟩
     ·exact CR.F1 hB hle
     ·subst h0
      exact ⟨[],CR.nil _ _ _,fun j u hu=>by simp at hu⟩
    have sA:b.oA=true→∀ r,r < b.n→∀ v∈b.row r,cO v=true:=fun h r hr v hv=>by
     cases b with
     | flat o n e g=>exact hB.plain rfl r hr v hv
     | aQ o e rows =>
      have h:rows.all jF=true:=h
      have hr:r < rows.length:=hr
      have hv:v∈rows.getD r []:=hv
      rw [List.getD_eq_getElem?_getD,List.getElem?_eq_getElem hr] at hv
      exact xx (List.all_eq_true.1 h _ (List.getElem_mem hr)) v hv
     | cm r=>cases h
    have ml:(b.oA && s.kf)=true→(∀ r,r < b.n→∀ v∈b.row r,cO v=true)∧∀ r,r < s.m→∀ v∈s.get r,cO v=true:=fun h=>by
     rw [Bool.and_eq_true] at h; exact ⟨sA h.1,pT h.2⟩
    -- in its place
    have Ft:∀ b' (q:Nat),b.nE=true→Ext b' b.ah b.row q s.get s.m (b.oA && s.kf)→row+n=q→q≤b.n→n+s.m≤c'→∃ w2,(Builtin.append_ #[t,t] ty #[x',y']).run P w=.ok (.slice (some A) (n+s.m) c') w2 ∧
      bQ ν l b' w2∧Kept F.O F.W w2∧w.heap.size≤w2.heap.size∧∀ q,q≠l.aH→w2.heap[q]?=w.heap[q]?:=by
     intro b' q ho dS zh qf cU
     rcases hA with ⟨rfl,fV⟩ | ⟨h0,nQ⟩
     ·obtain ⟨h1,J⟩:=hB.extend (P:=P) ho qf hC dS ml (by omega)
      refine ⟨_,?_,J,hi.kp.setCells (hi.own id b l hb (ai.c5 ho).1 hl) _ _,by rw [oa]; exact Nat.le_refl _,fun q hq=>qN _ _ _ _ _ hq⟩
      rw [cF,ko]
      refine qQ (P:=P) hu iG hL jU kq cU (fun A' sB=>?_) (fun h=>by cases h)
      cases sB
      have:(l.at row 0).add (n*i.size)=l.at q 0:=by
       rw [Loc.jH]; unfold Loc.at; congr 1
       rw [hB.ah,← zh,Nat.add_mul,gy,dy]; omega
      rw [this]; exact h1
     ·have km:s.m=0:=by omega
      have xi:L=[]:=List.eq_nil_of_length_eq_zero (by rw [hL,km]; simp)
      refine ⟨w,?_,?_,hi.kp,Nat.le_refl _,fun _ _=>rfl⟩
      ·rw [cF,ko]
       refine qQ (P:=P) hu iG hL jU kq cU (fun A' sB=>by rw [xi]; rfl) (fun h=>by cases h)
      ·have gf:b'.n=q:=by rw [dS.num,km]; rfl
       have a9:∀ r,r < q→b'.row r=b.row r:=fun r hr=>by rw [dS.row r (by omega),jc hr]
       exact ⟨by rw [dS.ah]; exact hB.ah,fun r hr=>by rw [gf] at hr; rw [a9 r hr,dS.ah]; exact hB.len r (by omega),
        fun r hr j v hv=>by rw [gf] at hr; rw [a9 r hr] at hv; exact hB.cell r (by omega) j v hv,
        fun h r hr v hv=>by rw [gf] at hr; rw [a9 r hr] at hv; exact (ml (dS.flat h)).1 r (by omega) v hv,
        fun r hr v hv=>by rw [gf] at hr; rw [a9 r hr] at hv; exact hB.one r (by omega) v hv,
        fun _ _=>by obtain ⟨cur,tt,q1,q2,q3⟩:=hB.own (ai.c5 ho).1 (ai.c5 ho).2; exact ⟨cur,tt,q1,q2,by rw [gf]; omega⟩,(fun r h=>by rw [(ai.c5 dS.own).2] at h; cases h),hB.live⟩
    have Og:n+s.m≤c'→∀ aj,aj id=some l→an aj (.slice (some ⟨id,row,none⟩) (n+s.m) c) (.slice (some A) (n+s.m) c'):=by
     intro cU aj cJ
     rcases hA with ⟨rfl,fV⟩ | ⟨h0,nQ⟩
     ·exact .slice _ _ _ _ _ l cJ kO cU fV
     ·have km:s.m=0:=by omega
      subst nQ
      rw [h0,km]
      exact .void _ _ _ _ kO
    have grow:(n+s.m)*te.bytes≤140737488355328→c' < n+s.m→∀ O,O.length=n*i.size→(∀ (j:Nat) u,O[j]?=some u→w.cell? (A.add j)=some u) →
      (Builtin.append_ #[t,t] ty #[x',y']).run P w=.ok (.slice (some ⟨w.heap.size,0,none⟩) (n+s.m) (grownCap w (n+s.m) c' e)) (w.drew.alloc (s7 (O++L).toArray z (grownCap w (n+s.m) c' e - (n+s.m)) e)):=by
     intro hB cU O hO1 hO2
     rw [cF,ko]
     exact Ab (P:=P) (w:=w) (ty:=ty) hu iG hz hO1 (fun a ha=>by cases ha; exact hO2) (fun h=>by cases h) hL jU kq CI cU (by rw [mZ]; exact hB) (small _ hB)
    -- a block that stays
    have CJ:row+n=b.n→n+s.m≤c'→(vR b s fun b'=>jr H id (some b') fun H'=>k (.slice (some ⟨id,row,none⟩) (n+s.m) c) tmps H') →
      ∃ v v' aj t' H' w',k v t' H'∧an aj v v'∧bC F aj t' H' a w'∧(Builtin.append_ #[t,t] ty #[x',y']).run P w=.ok v' w'∧ν.le aj:=fun zh cU h=>by
     obtain ⟨b',h,ho,dS⟩:=Ac h
     obtain ⟨ak,h⟩:=lW h
     obtain ⟨w2,bF,im,jx,oP,nG⟩:=Ft b' _ ho dS zh (Nat.le_refl _) cU
     refine ⟨_,_,ν,_,_,w2,h,Og cU ν hl,⟨hi.tm,(let ⟨_,_,tQ,_⟩:=hB.own (ai.c5 ho).1 (ai.c5 ho).2; hi.df.fJ tQ nG),?_,fun j hj=>hi.fr j (by simpa using hj),jx,fun j bj lj hj nP c9=>?_,hi.mono⟩,bF,ν.le_refl⟩
     ·refine hi.hp.fJ (id:=id) (fun _ _=>rfl) (fun j bj hj aK=>?_) (fun bj hj=>?_)
      ·rw [List.getElem?_set_ne (Ne.symm aK)] at hj
       refine ⟨bj,hj,rfl,fun lj c9 qe=>qe.same (nG _ ?_) oP⟩
       exact Ne.symm (hi.hp.sep id j b bj l lj hb hj (Ne.symm aK) (ai.c5 ho).1 hl c9)
      ·rw [List.getElem?_set_self ak] at hj
       cases hj
       exact ⟨l,hl,im,fun j lj bj aK hj c9=>Ne.symm (hi.hp.sep id j b bj l lj hb hj (Ne.symm aK) (ai.c5 ho).1 hl c9)⟩
     ·by_cases e':j=id
      ·subst e'; rw [hl] at c9; cases c9; exact hi.own j b l hb (ai.c5 ho).1 hl
      ·rw [List.getElem?_set_ne (Ne.symm e')] at hj; exact hi.own j bj lj hj nP c9
    -- a new block
    have CK:row+n≤b.n→(n+s.m)*te.bytes≤140737488355328→c' < n+s.m→(BM b row n s fun b'=>js H fun aI=>ox H (some b') fun H'=>k (.slice (some ⟨aI,0,none⟩) (n+s.m) aN) tmps H') →
      ∃ v v' aj t' H' w',k v t' H'∧an aj v v'∧bC F aj t' H' a w'∧(Builtin.append_ #[t,t] ty #[x',y']).run P w=.ok v' w'∧ν.le aj:=fun hle lL cU h=>by
     obtain ⟨b',h,dS⟩:=Kf h
     have h:=lX h
     obtain ⟨O,hO,qh⟩:=hold hle
     have bF:=grow lL cU O (by rw [hO.len,gy,dy]) qh
     have oG:ν H.length=none:=hi.fr _ (Nat.le_refl _)
     have kJ:=Nu.j6 (l:=⟨w.heap.size,0,b.ah,grownCap w (n+s.m) c' e⟩) oG
     have im:=vl (hO.mono kJ) (hC.mono kJ) dS (fun h=>⟨fun r hr v hv=>(ml h).1 (row+r) (by omega) v hv,(ml h).2⟩) (w:=w) jv (iJ:=c') (e:=e)
     have eG:=grownCap_ge w (n+s.m) c' e
     have cH:an (ν.add H.length ⟨w.heap.size,0,b.ah,grownCap w (n+s.m) c' e⟩) (.slice (some ⟨H.length,0,none⟩) (n+s.m) aN) (.slice (some ⟨w.heap.size,0,none⟩) (n+s.m) (grownCap w (n+s.m) c' e)):=by
      have:=an.slice (ν:=ν.add H.length ⟨w.heap.size,0,b.ah,grownCap w (n+s.m) c' e⟩) H.length 0 (n+s.m) aN (grownCap w (n+s.m) c' e) _ Nu.add_same (.inr rfl) eG (by simp)
      simpa [Loc.at] using this
     have hq:=mG oG im (vh w _ _ _ _) (Nat.le_refl _) cH
     obtain ⟨H',h1,J⟩:=hi.quiet hq (k:=fun H'=>k _ tmps H') h
     exact ⟨_,_,_,_,_,_,h1,cH,J,bF,kJ⟩
    -- a block that is put in place of the old one
    have G9:∀ b1:ai,b.nE=true→Ext b1 b.ah b.row n s.get s.m (b.oA && s.kf)→c=aN→row=0→E.base≤id→n≤b.n→(n+s.m)*te.bytes≤140737488355328 →
      (yz id b1 fun b'=>∃ aa,∀ a:Nat→Value,tO a id aa 0 tmps fun yA=>wB id H fun H1=>jr H1 id (some b') fun H'=>k (.slice (some ⟨id,0,none⟩) (n+s.m) aN) yA H') →
      ∃ v v' aj t' H' w',k v t' H'∧an aj v v'∧bC F aj t' H' a w'∧(Builtin.append_ #[t,t] ty #[x',y']).run P w=.ok v' w':=fun b1 ho dS fM aaE BN gf lL sC=>by
     subst aaE
     obtain ⟨b',h,ho1,O3⟩:=Kd sC
     obtain ⟨aa,h⟩:=h
     obtain ⟨af,HX⟩:=Ms hi.tm
     obtain ⟨t',h,jy⟩:=DJ (h af) ν _ hi.tm (fun j y hy aj=>by rw [Nat.zero_add]; exact HX j y hy aj)
     obtain ⟨H1,h,kl,CL⟩:=DK h
     obtain ⟨ak,h⟩:=lW h
     by_cases cU:n+s.m≤c'
     ·obtain ⟨w2,bF,im,jx,oP,nG⟩:=Ft b1 _ ho dS (Nat.zero_add n) gf cU
      have im:=O3 ν ν l w2 (fun _ _=>rfl) im
      have hv:=Og cU ν hl
      rw [fM] at hv
      refine ⟨_,_,ν,_,_,w2,h,hv,⟨jy ν (fun _ _=>rfl),(let ⟨_,_,tQ,_⟩:=hB.own (ai.c5 ho).1 (ai.c5 ho).2; hi.df.fJ tQ nG),?_,fun j hj=>hi.fr j (by simpa [kl] using hj),jx,fun j bj lj hj nP c9=>?_,hi.mono⟩,bF⟩
      ·refine hi.hp.fJ (id:=id) (fun _ _=>rfl) (fun j bj hj aK=>?_) (fun bj hj=>?_)
       ·rw [List.getElem?_set_ne (Ne.symm aK)] at hj
        obtain ⟨b0,kt,uI,sC⟩:=CL j bj hj
        refine ⟨b0,kt,uI,fun lj c9 qe=>sC ν ν lj w2 (fun _ _=>rfl) (qe.same (nG _ ?_) oP)⟩
        exact Ne.symm (hi.hp.sep id j b b0 l lj hb kt (Ne.symm aK) (ai.c5 ho).1 hl c9)
       ·rw [List.getElem?_set_self ak] at hj
        cases hj
        exact ⟨l,hl,im,fun j lj bj aK hj c9=>Ne.symm (hi.hp.sep id j b bj l lj hb hj (Ne.symm aK) (ai.c5 ho).1 hl c9)⟩
      ·by_cases e':j=id
       ·subst e'; rw [hl] at c9; cases c9; exact hi.own j b l hb (ai.c5 ho).1 hl
       ·rw [List.getElem?_set_ne (Ne.symm e')] at hj
        obtain ⟨b0,kt,uI,_⟩:=CL j bj hj
        exact hi.own j b0 lj kt (by rw [← uI]; exact nP) c9
     ·have cU:c' < n+s.m:=by omega
      obtain ⟨O,hO,qh⟩:=hold (by omega)
      have bF:=grow lL cU O (by rw [hO.len,gy,dy]) qh
      have eG:=grownCap_ge w (n+s.m) c' e
      have gO:ν.off (ν.add id ⟨w.heap.size,0,b.ah,grownCap w (n+s.m) c' e⟩) id:=fun j hj=>Nu.iQ hj
      have Ha:=vh w (O++L).toArray z (grownCap w (n+s.m) c' e - (n+s.m)) e
      have HY:CR ν b.ah b.row n O:=hO.congr (fun r hr=>by simp)
      have im:bQ ν ⟨w.heap.size,0,b.ah,grownCap w (n+s.m) c' e⟩ b1 _:=vl HY hC dS (fun h=>⟨fun r hr v hv=>(ml h).1 r (by omega) v hv,(ml h).2⟩) (w:=w) jv (iJ:=c') (e:=e)
      have hF:F.ν.le (ν.add id ⟨w.heap.size,0,b.ah,grownCap w (n+s.m) c' e⟩):=by
       intro j lj hj
       have aK:j≠id:=by
        intro e'
        subst e'
        rw [F.fresh j (by have:=bO.n0; omega)] at hj
        cases hj
       rw [Nu.iQ aK]; exact hi.mono j lj hj
      have cH:an (ν.add id ⟨w.heap.size,0,b.ah,grownCap w (n+s.m) c' e⟩) (.slice (some ⟨id,0,none⟩) (n+s.m) aN) (.slice (some ⟨w.heap.size,0,none⟩) (n+s.m) (grownCap w (n+s.m) c' e)):=by
       have:=an.slice (ν:=ν.add id ⟨w.heap.size,0,b.ah,grownCap w (n+s.m) c' e⟩) id 0 (n+s.m) aN (grownCap w (n+s.m) c' e) _ Nu.add_same (.inr rfl) eG (by simp)
       simpa [Loc.at] using this
      have pU:id < H.length:=by rw [← kl]; exact ak
      refine ⟨_,_,ν.add id ⟨w.heap.size,0,b.ah,grownCap w (n+s.m) c' e⟩,_,_,_,h,cH,⟨jy _ gO,hi.df.below Ha,?_,fun j hj=>?_,hi.kp.below Ha,fun j bj lj hj nP c9=>?_,hF⟩,bF⟩
      ·refine hi.hp.fJ (id:=id) gO (fun j bj hj aK=>?_) (fun bj hj=>?_)
       ·rw [List.getElem?_set_ne (Ne.symm aK)] at hj
        obtain ⟨b0,kt,uI,sC⟩:=CL j bj hj
        exact ⟨b0,kt,uI,fun lj c9 qe=>sC ν _ lj _ gO (qe.below Ha)⟩
       ·rw [List.getElem?_set_self ak] at hj
        cases hj
        refine ⟨_,Nu.add_same,O3 ν _ _ _ gO im,fun j lj bj aK hj c9=>?_⟩
        obtain ⟨lj',e1,e2⟩:=hi.hp.aH j bj hj
        rw [c9] at e1; cases e1
        have:=e2.live
        simp only
        omega
      ·have hj:H.length≤j:=by simpa [kl] using hj
       rw [Nu.iQ (by omega)]; exact hi.fr j hj
      ·by_cases e':j=id
       ·subst e'
        rw [Nu.add_same] at c9
        cases c9
        exact .inr hi.kp.size
       ·rw [List.getElem?_set_ne (Ne.symm e')] at hj
        obtain ⟨b0,kt,uI,_⟩:=CL j bj hj
        rw [Nu.iQ e'] at c9
        exact hi.own j b0 lj kt (by rw [← uI]; exact nP) c9
    split at h
    ·rename_i fM
     have fM:c≠aN:=of_decide_eq_false fM
     have hc:c'=c:=kO.resolve_right fM
     cases rR:Nat.ble (n+s.m) c with
     | true =>
      have cU:=Nat.le_of_ble_eq_true rR
      obtain ⟨zh,h⟩:=A8 h rR
      obtain ⟨v,v',aj,t',H',w',h1,J,h3,h4,h5⟩:=CJ zh (by omega) h
      exact ⟨v,v',aj,t',H',w',h1,J,h3,h4,fun _=>h5⟩
     | false =>
      have cU:c < n+s.m:=by
       rcases Nat.lt_or_ge c (n+s.m) with h' | h'
       ·exact h'
       ·rw [Nat.ble_eq_true_of_le h'] at rR; cases rR
      obtain ⟨⟨hle,lL⟩,h⟩:=AR h rR
      obtain ⟨v,v',aj,t',H',w',h1,J,h3,h4,h5⟩:=CK hle lL (by omega) h
      exact ⟨v,v',aj,t',H',w',h1,J,h3,h4,fun _=>h5⟩
    ·rename_i fM
     have fM:c=aN:=of_decide_eq_true fM
     have nx:AU (.slice (some ⟨id,row,none⟩) n c)=true→False:=fun hx=>by rw [fM] at hx; simp [AU] at hx
     split at h
     ·have zi:row=0:=by
       cases row with
       | zero=>rfl
       | succ r=>exact h.elim
      clear CJ CK
      subst zi
      obtain ⟨⟨BN,⟨gf,ho⟩,lL⟩,h⟩:=h
      obtain ⟨b1,h,dS⟩:=Kf h
      obtain ⟨v,v',aj,t',H',w',h1,J,h3,h4⟩:=G9 b1 ho (by simpa using dS) fM rfl BN gf lL h
      exact ⟨v,v',aj,t',H',w',h1,J,h3,h4,fun hx=>(nx hx).elim⟩
     ·split at h
      ·have zi:row=0:=by
        cases row with
        | zero=>rfl
        | succ r=>exact h.elim
       clear CJ CK
       subst zi
       obtain ⟨⟨BN,gf,lL⟩,h⟩:=h
       obtain ⟨b1,h,ho,dS⟩:=Ac h
       obtain ⟨v,v',aj,t',H',w',h1,J,h3,h4⟩:=G9 b1 ho (by rw [gf]; exact dS) fM rfl BN (Nat.le_of_eq gf) lL h
       exact ⟨v,v',aj,t',H',w',h1,J,h3,h4,fun hx=>(nx hx).elim⟩
      ·have zi:row=0:=by
        cases row with
        | zero=>rfl
        | succ r=>exact h.elim
       clear CJ CK G9
       subst zi
       obtain ⟨⟨gf,lL⟩,h⟩:=h
       obtain ⟨b',h,ho,dS⟩:=Ac h
       obtain ⟨ak,h⟩:=lW h
       have h:=lX h
       have gz:bC F ν tmps (H.set id none) a w:=by
        have hle:ax.le (H.set id none) H:=fun j bj hj=>by
         by_cases e':j=id
         ·subst e'; rw [List.getElem?_set_self ak] at hj; cases hj
         ·rw [List.getElem?_set_ne (Ne.symm e')] at hj; exact hj
        exact ⟨hi.tm,hi.df,hi.hp.rD hle,fun j hj=>hi.fr j (by simpa using hj),hi.kp,fun j bj lj hj nP c9=>hi.own j bj lj (hle j bj hj) nP c9,hi.mono⟩
       have oG:ν (H.set id none).length=none:=gz.fr _ (Nat.le_refl _)
       have iJ:∀ j bj,(H.set id none)[j]?=some (some bj)→j≠id∧H[j]?=some (some bj):=fun j bj hj=>by
        by_cases e':j=id
        ·subst e'; rw [List.getElem?_set_self ak] at hj; cases hj
        ·rw [List.getElem?_set_ne (Ne.symm e')] at hj; exact ⟨e',hj⟩
       by_cases cU:n+s.m≤c'
       ·obtain ⟨w2,bF,im,jx,oP,nG⟩:=Ft b' _ ho dS (by rw [gf]; simp) (Nat.le_refl _) cU
        have h:=xD h
        have kJ:=Nu.j6 (l:=l) oG
        have x9:∀ j bj,(H.set id none++[some b'])[j]?=some (some bj)→(j < (H.set id none).length∧j≠id∧H[j]?=some (some bj))∨(j=(H.set id none).length∧bj=b'):=fun j bj hj=>by
         rw [List.getElem?_append] at hj
         split at hj
         ·rename_i Hb
          exact .inl ⟨Hb,iJ j bj hj⟩
         ·rename_i eG
          have:j - (H.set id none).length=0:=by
           rcases Nat.lt_or_ge (j - (H.set id none).length) 1 with h' | h'
           ·omega
           ·rw [List.getElem?_eq_none (by simpa using h')] at hj; cases hj
          rw [this] at hj
          cases hj
          exact .inr ⟨by omega,rfl⟩
        have hv:an (ν.add (H.set id none).length l) (.slice (some ⟨(H.set id none).length,0,none⟩) (n+s.m) aN) (.slice (some A) (n+s.m) c'):=by
         rcases hA with ⟨rfl,fV⟩ | ⟨h0,nQ⟩
         ·exact .slice _ _ _ _ _ l Nu.add_same (.inr rfl) cU fV
         ·have km:s.m=0:=by omega
          subst nQ
          rw [h0,km]
          exact .void _ _ _ _ (.inr rfl)
        refine ⟨_,_,ν.add (H.set id none).length l,_,_,w2,h,hv,⟨hi.tm.mono kJ,(let ⟨_,_,tQ,_⟩:=hB.own (ai.c5 ho).1 (ai.c5 ho).2; hi.df.fJ tQ nG),⟨fun j bj hj=>?_,fun i j bi bj li lj h1 J aK HT e1 e2=>?_⟩,fun j hj=>?_,jx,fun j bj lj hj nP c9=>?_,Nu.le_trans hi.mono kJ⟩,bF,fun hx=>(nx hx).elim⟩
        ·rcases x9 j bj hj with ⟨q1,q2,q3⟩ | ⟨q1,q2⟩
         ·obtain ⟨lj,e1,e2⟩:=hi.hp.aH j bj q3
          refine ⟨lj,kJ _ _ e1,(e2.same (nG _ ?_) oP).mono kJ⟩
          exact Ne.symm (hi.hp.sep id j b bj l lj hb q3 (Ne.symm q2) (ai.c5 ho).1 hl e1)
         ·subst q1; subst q2
          exact ⟨l,Nu.add_same,im.mono kJ⟩
        ·rcases x9 i bi h1 with ⟨q1,q2,q3⟩ | ⟨q1,q2⟩
         ·rw [Nu.iQ (by omega)] at e1
          rcases x9 j bj J with ⟨p1,p2,p3⟩ | ⟨p1,p2⟩
          ·rw [Nu.iQ (by omega)] at e2
           exact hi.hp.sep i j bi bj li lj q3 p3 aK HT e1 e2
          ·subst p1
           rw [Nu.add_same] at e2; cases e2
           exact Ne.symm (hi.hp.sep id i b bi l li hb q3 (Ne.symm q2) (ai.c5 ho).1 hl e1)
         ·subst q1
          rw [Nu.add_same] at e1; cases e1
          rcases x9 j bj J with ⟨p1,p2,p3⟩ | ⟨p1,p2⟩
          ·rw [Nu.iQ (by omega)] at e2
           exact hi.hp.sep id j b bj l lj hb p3 (Ne.symm p2) (ai.c5 ho).1 hl e2
          ·exact absurd p1.symm aK
        ·have hj:H.length+1≤j:=by simpa using hj
         rw [Nu.iQ (by simp; omega)]; exact hi.fr j (by omega)
        ·rcases x9 j bj hj with ⟨q1,q2,q3⟩ | ⟨q1,q2⟩
         ·rw [Nu.iQ (by omega)] at c9
          exact hi.own j bj lj q3 nP c9
         ·subst q1
          rw [Nu.add_same] at c9; cases c9
          exact hi.own id b l hb (ai.c5 ho).1 hl
       ·obtain ⟨O,hO,qh⟩:=hold (by omega)
        have bF:=grow lL (by omega) O (by rw [hO.len,gy,dy]) qh
        have kJ:=Nu.j6 (l:=⟨w.heap.size,0,b.ah,grownCap w (n+s.m) c' e⟩) oG
        have HY:CR ν b.ah b.row n O:=hO.congr (fun r hr=>by simp)
        have Hc:Ext b' b.ah b.row n s.get s.m (b.oA && s.kf):=by rw [gf]; exact dS
        have im:=vl (HY.mono kJ) (hC.mono kJ) Hc (fun h=>⟨fun r hr v hv=>(ml h).1 r (by omega) v hv,(ml h).2⟩) (w:=w) jv (iJ:=c') (e:=e)
        have eG:=grownCap_ge w (n+s.m) c' e
        have cH:an (ν.add (H.set id none).length ⟨w.heap.size,0,b.ah,grownCap w (n+s.m) c' e⟩) (.slice (some ⟨(H.set id none).length,0,none⟩) (n+s.m) aN) (.slice (some ⟨w.heap.size,0,none⟩) (n+s.m) (grownCap w (n+s.m) c' e)):=by
         have:=an.slice (ν:=ν.add (H.set id none).length ⟨w.heap.size,0,b.ah,grownCap w (n+s.m) c' e⟩) (H.set id none).length 0 (n+s.m) aN (grownCap w (n+s.m) c' e) _ Nu.add_same (.inr rfl) eG (by simp)
         simpa [Loc.at] using this
        have hq:=mG oG im (vh w _ _ _ _) (Nat.le_refl _) cH
        obtain ⟨H',h1,J⟩:=gz.quiet hq (k:=fun H'=>k _ tmps H') h
        exact ⟨_,_,_,_,_,_,h1,cH,J,bF,fun hx=>(nx hx).elim⟩
   ·exact h.elim
  ·rename_i id row b0 n c
   obtain ⟨b,hb,h⟩:=gA J
   clear J
   split at h
   ·rename_i dy
    have dy:b.ah=te.size:=Nat.eq_of_beq_eq_true dy
    split at h
    ·rename_i N ah get m news _
     have dy:ah=te.size:=dy
     obtain ⟨⟨iZ,hN⟩,h⟩:=h
     obtain ⟨ak,h⟩:=lW h
     obtain ⟨l,hl,hB⟩:=hi.hp.aH id _ hb
     rw [aq] at h
     have HV:CR ν ah news m L:=by rw [dy]; exact hC
     have uJ:∀ r,r < m→∀ v∈news r,cO v=true:=pT rfl
     obtain ⟨h1,J⟩:=hi.ij (P:=P) hb hl (q:=row+n) (m:=m) (by omega) HV uJ
     have zg:y'=.slice oy m cy:=ko
     have HZ:L.length=m*i.size:=hL
     have Oh:oy=none→m=0:=kq
     rcases hx.Vv with ⟨l',c',cJ,h3,h4,h5,fM,e⟩ | ⟨h3,h4,fM,bb,e⟩
     ·rw [hl] at cJ; cases cJ
      subst fM
      refine ⟨_,_,ν,_,_,_,h,.lK _ _ _ _ c' l hl h3 (by omega) h5,J,?_,fun _=>ν.le_refl⟩
      rw [e,zg]
      refine qQ (P:=P) hu iG HZ jU Oh (by omega) (fun A' sB=>?_) (fun h=>by cases h)
      cases sB
      have e2:(l.at row 0).add (n*i.size)=l.at (row+n) 0:=by
       rw [Loc.jH]; unfold Loc.at; congr 1
       rw [show l.ah=ah from hB.ah,gy,Nat.add_mul,dy]; omega
      rw [e2]; exact h1
     ·have km:m=0:=by omega
      subst fM
      subst h3
      subst km
      subst h4
      have xi:L=[]:=List.eq_nil_of_length_eq_zero (by rw [HZ]; simp)
      subst xi
      refine ⟨_,_,ν,_,_,w,h,.kG _ _ bb,J,?_,fun _=>ν.le_refl⟩
      rw [e,zg]
      exact qQ (P:=P) hu iG HZ jU Oh (by omega) (fun A' sB=>rfl) (fun h=>by cases h)
    ·exact h.elim
   ·exact h.elim
  ·exact J.elim
 ·exact J.elim
theorem Qq (hE:EnvOk P E) (bO:kN F E) {ν:Nu} {tmps:List Value} {H:ax} {a:Act} {w:World} (hi:bC F ν tmps H a w) {t:TypeId} {x y:Operand} {k:Value→List Value→ax→Prop}
  (h:Mt E tmps H t x y k) (ty:TypeId):∃ v v' aj t' H' w',k v t' H'∧an aj v v'∧bC F aj t' H' a w'∧(Builtin.append_ #[t,t] ty #[a.eval x,a.eval y]).run P w=.ok v' w':=by
 obtain ⟨xv,J,hx⟩:=kz h (hi.me x)
 clear h
 obtain ⟨yv,h,hy⟩:=kz J (hi.me y)
 obtain ⟨v,v',aj,t',H',w',h1,J,h3,h4,_⟩:=JQ hE bO hi hx hy h ty
 exact ⟨v,v',aj,t',H',w',h1,J,h3,h4⟩
end
end Go.Ae
/- Blocks that are not wanted any more are dropped, the others numbered anew. -/
namespace Go.Ae
open Go Go.RowKit
def wV:List Nat→Nat→Nat→Option Nat
 | [],_,_=>none
 | a::l,id,k=>match Nat.beq a id with
  | true=>some k
  | false=>wV l id (k+1)
theorem KV:∀ {l:List Nat} {id k j:Nat},wV l id k=some j→k≤j∧l[j - k]?=some id
 | [],id,k,j,h=>by cases h
 | a::l,id,k,j,h=>by
  unfold wV at h
  split at h
  ·rename_i e
   cases h
   exact ⟨Nat.le_refl _,by simp [Nat.eq_of_beq_eq_true e]⟩
  ·obtain ⟨h1,J⟩:=KV h
   refine ⟨by omega,?_⟩
   rw [show j - k=(j - (k+1))+1 by omega,List.getElem?_cons_succ]; exact J
def gP (σ:List Nat):Nat→Value→Option Value
 | 0,_=>none
 | k+1,v=>match v with
  | .bool b=>some (.bool b)
  | .int q n=>some (.int q n)
  | .string s=>some (.string s)
  | .pointer none=>some (.pointer none)
  | .pointer (some ⟨id,row,sp⟩)=>match wV σ id 0 with | some j=>some (.pointer (some ⟨j,row,sp⟩)) | none=>some (.chan none)
  | .slice none n c=>some (.slice none n c)
  | .slice (some ⟨id,row,sp⟩) n c=>match wV σ id 0 with | some j=>some (.slice (some ⟨j,row,sp⟩) n c) | none=>some (.chan none)
  | .nilFunc=>some .nilFunc
  | .chan none=>some (.chan none)
  | .agg ⟨l⟩=>match l.foldr (fun v acc=>match gP σ k v,acc with | some x,some xs=>some (x::xs) | _,_=>none) (some []) with | some l'=>some (.agg ⟨l'⟩) | none=>none
  | .tuple ⟨l⟩=>match l.foldr (fun v acc=>match gP σ k v,acc with | some x,some xs=>some (x::xs) | _,_=>none) (some []) with | some l'=>some (.tuple ⟨l'⟩) | none=>none
  | .func fn ⟨l⟩ ⟨m⟩=>match l.foldr (fun v acc=>match gP σ k v,acc with | some x,some xs=>some (x::xs) | _,_=>none) (some []),m.foldr (fun v acc=>match gP σ k v,acc with | some x,some xs=>some (x::xs) | _,_=>none) (some []) with
   | some l',some m'=>some (.func fn ⟨l'⟩ ⟨m'⟩) | _,_=>none
  | _=>none
def mV (σ:List Nat) (k:Nat) (l:List Value):Option (List Value):=l.foldr (fun v acc=>match gP σ k v,acc with | some x,some xs=>some (x::xs) | _,_=>none) (some [])
theorem D4 {σ:List Nat} {m:Nat} {x:Value} {xs l:List Value} (h:mV σ m (x::xs)=some l):∃ y ys,l=y::ys∧gP σ m x=some y∧mV σ m xs=some ys:=by
 unfold mV at h
 rw [List.foldr_cons] at h
 split at h
 ·rename_i y ys h1 J
  exact ⟨y,ys,(Option.some.inj h).symm,h1,J⟩
 ·cases h
theorem xP {σ:List Nat} {m:Nat} {ν aj:Nu} (h:∀ v v2 r,gP σ m v=some v2→an ν v r→an aj v2 r):∀ {xs l rs:List Value},mV σ m xs=some l→bh ν xs rs→bh aj l rs
 | [],l,rs,h1,J=>by
  have:l=[]:=by simp [mV] at h1; exact h1
  rw [this,J.iP]; exact .nil _
 | x::xs,l,rs,h1,J=>by
  obtain ⟨y,ys,rfl,e1,e2⟩:=D4 h1
  obtain ⟨r,cj,rfl,k1,k2⟩:=J.jg
  exact .cons (h _ _ _ e1 k1) (xP h e2 k2)
theorem F2 {σ:List Nat} {id j:Nat} {ν:Nu} (h:wV σ id 0=some j):(ν.comp σ) j=ν id:=by
 have:=(KV h).2
 rw [Nat.sub_zero] at this
 simp [Nu.comp,this]
theorem LG {σ:List Nat} {ν:Nu}:∀ (m:Nat) (v v2 r:Value),gP σ m v=some v2→an ν v r→an (ν.comp σ) v2 r:=by
 intro m
 induction m with
 | zero=>intro v v2 r h; simp [gP] at h
 | succ m ih =>
  intro v v2 r h hr
  cases hr with
  | bool b=>cases h; exact .bool b
  | int q n=>cases h; exact .int q n
  | str s=>cases h; exact .str s
  | mg=>cases h; exact .mg
  | ptr id row sp l hl =>
   unfold gP at h
   dsimp only at h
   split at h
   ·rename_i j hj
    cases h
    exact .ptr j row sp l (by rw [F2 hj]; exact hl)
   ·cases h; exact .dead _ rfl
  | iF=>cases h; exact .iF
  | slice id row n c c' l hl hc hn hr =>
   unfold gP at h
   dsimp only at h
   split at h
   ·rename_i j hj
    cases h
    exact .slice j row n c c' l (by rw [F2 hj]; exact hl) hc hn hr
   ·cases h; exact .dead _ rfl
  | void id row c a hc =>
   unfold gP at h
   dsimp only at h
   split at h
   ·cases h; exact .void _ row c a hc
   ·cases h; exact .dead _ rfl
  | lK id row m' n c' l hl hm hn hr =>
   unfold gP at h
   dsimp only at h
   split at h
   ·rename_i j hj
    cases h
    exact .lK j row m' n c' l (by rw [F2 hj]; exact hl) hm hn hr
   ·cases h; exact .dead _ rfl
  | kG id row a =>
   unfold gP at h
   dsimp only at h
   split at h
   ·cases h; exact .kG _ row a
   ·cases h; exact .dead _ rfl
  | mh=>cases h; exact .mh
  | func fn xs ys mY dn h1 J h3 h4 =>
   unfold gP at h
   dsimp only at h
   split at h
   ·rename_i l1 l2 e1 e2
    cases h
    have t1:=xP ih e1 ⟨h1,J⟩
    have t2:=xP ih e2 ⟨h3,h4⟩
    exact .func _ _ _ _ _ t1.1 t1.2 t2.1 t2.2
   ·cases h
  | agg xs ys h1 J =>
   unfold gP at h
   dsimp only at h
   split at h
   ·rename_i l1 e1
    cases h
    have t1:=xP ih e1 ⟨h1,J⟩
    exact .agg _ _ t1.1 t1.2
   ·cases h
  | tuple xs ys h1 J =>
   unfold gP at h
   dsimp only at h
   split at h
   ·rename_i l1 e1
    cases h
    have t1:=xP ih e1 ⟨h1,J⟩
    exact .tuple _ _ t1.1 t1.2
   ·cases h
  | dead w hw=>cases h; exact .dead _ (by assumption)
theorem T0 {σ:List Nat} {m:Nat} {v v2:Value} (h:gP σ m v=some v2) (h1:v.oneCell'=true):v2.oneCell'=true:=by
 cases m with
 | zero=>simp [gP] at h
 | succ m =>
  unfold gP at h
  split at h
  all_goals first
   | (exfalso; simp [Value.oneCell'] at h1; done)
   | (cases h; rfl)
   | (split at h <;> first | (cases h; rfl) | cases h)
   | cases h
theorem EN {σ:List Nat} {m:Nat} {p:Value→Prop} (hp:∀ v v2,gP σ m v=some v2→p v→p v2):∀ {xs l:List Value},mV σ m xs=some l→(∀ v∈xs,p v)→(l.length=xs.length∧∀ v∈l,p v)
 | [],l,h,_=>by
  have:l=[]:=by simp [mV] at h; exact h
  subst this
  exact ⟨rfl,fun v hv=>by simp at hv⟩
 | x::xs,l,h,hx=>by
  obtain ⟨y,ys,rfl,e1,e2⟩:=D4 h
  obtain ⟨h1,J⟩:=EN hp e2 (fun v hv=>hx v (by simp [hv]))
  refine ⟨by simp [h1],fun v hv=>?_⟩
  rcases List.mem_cons.1 hv with e | e
  ·rw [e]; exact hp x y e1 (hx x (by simp))
  ·exact J v e
/-- The slots that are kept; the others may hold anything. -/
def yR (a:Nat→Value) (σ aa:List Nat):Nat→List Value→(List Value→Prop)→Prop
 | _,[],k=>k []
 | i,v::l,k=>match HS i aa with
  | true=>yP (gP σ 3 v) fun v'=>yR a σ aa (i+1) l fun l'=>k (v'::l')
  | false=>yR a σ aa (i+1) l fun l'=>k (a i::l')
theorem D5 {a:Nat→Value} {σ aa:List Nat}:∀ {t:List Value} {i:Nat} {k:List Value→Prop},yR a σ aa i t k→∀ (ν:Nu) r,bh ν t r→(∀ (j:Nat) (y:Value),r[j]?=some y→∀ aj:Nu,an aj (a (i+j)) y)→∃ t',k t'∧bh (ν.comp σ) t' r
 | [],i,k,h,ν,r,hr,ha=>⟨[],h,by rw [hr.iP]; exact .nil _⟩
 | v::l,i,k,h,ν,r,hr,ha=>by
  obtain ⟨y,ys,rfl,h1,J⟩:=hr.jg
  obtain ⟨hx,ha⟩:=LF ha
  unfold yR at h
  split at h
  ·obtain ⟨v',e,h⟩:=D2 h
   obtain ⟨l',h3,h4⟩:=D5 h ν ys J ha
   exact ⟨_,h3,.cons (LG 3 _ _ _ e h1) h4⟩
  ·obtain ⟨l',h3,h4⟩:=D5 h ν ys J ha
   exact ⟨_,h3,.cons (hx _) h4⟩
def Fu (σ:List Nat):List (List Value)→(List (List Value)→Prop)→Prop
 | [],k=>k []
 | r::l,k=>yP (mV σ 3 r) fun r'=>Fu σ l fun l'=>k (r'::l')
theorem Js {σ:List Nat}:∀ {l:List (List Value)} {k:List (List Value)→Prop},Fu σ l k→∃ l',k l'∧l'.length=l.length∧∀ (i:Nat) r',l'[i]?=some r'→∃ r,l[i]?=some r∧mV σ 3 r=some r'
 | [],k,h=>⟨[],h,rfl,fun i r hr=>by simp at hr⟩
 | r::l,k,h=>by
  obtain ⟨r',e,h⟩:=D2 h
  obtain ⟨l',h,h1,J⟩:=Js h
  refine ⟨_,h,by simp [h1],fun i q hq=>?_⟩
  cases i with
  | zero=>simp at hq; subst hq; exact ⟨r,rfl,e⟩
  | succ i=>simpa using J i q (by simpa using hq)
def Oi (σ:List Nat) (b:ai) (k:ai→Prop):Prop :=
 match b with
 | .flat o n e g=>k (.flat o n e g)
 | .aQ o e rows=>Fu σ rows fun iT=>k (.aQ o e iT)
 | .cm r=>k (.cm r)
theorem SN {σ:List Nat} {b:ai} {k:ai→Prop} (h:Oi σ b k):∃ b',k b'∧b'.own=b.own∧∀ (ν:Nu) (l:Loc) (w:World),bQ ν l b w→bQ (ν.comp σ) l b' w:=by
 cases b with
 | flat o n e g =>
  exact ⟨_,h,rfl,fun ν l w hB=>hB.EM (hB.plain rfl)⟩
 | cm r=>exact ⟨_,h,rfl,fun ν l w hB=>hB.EM (fun r hr=>absurd hr (Nat.not_lt_zero r))⟩
 | aQ o e rows =>
  obtain ⟨iT,h,h1,J⟩:=Js h
  refine ⟨_,h,rfl,fun ν l w hB=>?_⟩
  have a9:∀ r,r < iT.length→∃ q,(ai.aQ o e rows).row r=q∧mV σ 3 q=some ((ai.aQ o e iT).row r)∧r < rows.length:=by
   intro r hr
   obtain ⟨q,h3,h4⟩:=J r _ (List.getElem?_eq_getElem hr)
   refine ⟨q,by simp [ai.row,List.getD,h3],?_,by omega⟩
   simpa [ai.row,List.getD,List.getElem?_eq_getElem hr] using h4
  -- cell by cell, against the real cells of the row
  have real:∀ (xs:List Value) (P:Nat→Value→Prop),(∀ (j:Nat) v,xs[j]?=some v→∃ v',P j v'∧an ν v v')→∀ l,mV σ 3 xs=some l→∀ (j:Nat) v,l[j]?=some v→∃ v',P j v'∧an (ν.comp σ) v v':=by
   intro xs
   induction xs with
   | nil =>
    intro P _ l hl j v hv
    have:l=[]:=by simp [mV] at hl; exact hl
    rw [this] at hv; simp at hv
   | cons x xs ih =>
    intro P hP l hl j v hv
    obtain ⟨y,ys,rfl,e1,e2⟩:=D4 hl
    cases j with
    | zero =>
     simp at hv; subst hv
     obtain ⟨v',h3,h4⟩:=hP 0 x rfl
     exact ⟨v',h3,LG 3 _ _ _ e1 h4⟩
    | succ j =>
     exact ih (fun j=>P (j+1)) (fun j v hv=>hP (j+1) v (by simpa using hv)) ys e2 j v (by simpa using hv)
  refine ⟨hB.ah,fun r hr=>?_,fun r hr j v hv=>?_,fun h=>by simp [ai.iR] at h,fun r hr v hv=>?_,fun ho _=>?_,(fun r h=>nomatch h),hB.live⟩
  ·obtain ⟨q,h3,h4,h5⟩:=a9 r hr
   have:=(EN (p:=fun _=>True) (fun _ _ _ _=>trivial) h4 (fun _ _=>trivial)).1
   rw [this,← h3]; exact hB.len r h5
  ·obtain ⟨q,h3,h4,h5⟩:=a9 r hr
   exact real q (fun j v'=>w.cell? (l.at r j)=some v') (fun j v hv=>hB.cell r h5 j v (by rw [h3]; exact hv)) _ h4 j v hv
  ·obtain ⟨q,h3,h4,h5⟩:=a9 r hr
   exact (EN (p:=fun v=>v.oneCell'=true) (fun _ _ h h'=>T0 h h') h4 (fun v hv=>hB.one r h5 v (by rw [h3]; exact hv))).2 v hv
  ·obtain ⟨cur,t,q1,q2,q3⟩:=hB.own ho rfl
   exact ⟨cur,t,q1,q2,by simp only [ai.n] at q3 ⊢; omega⟩
/-- The blocks that stay. -/
def tR (H:ax):Nat→(Option ai→Prop)→Prop:=fun id k=>match H,id with
 | [],_=>k none
 | b::_,0=>k b
 | _::H,n+1=>tR H n k
theorem Kh:∀ {H:ax} {id:Nat} {k:Option ai→Prop},tR H id k→∃ b,k b∧∀ c,b=some c→H[id]?=some (some c)
 | [],_,k,h=>by
  have h:k none:=by unfold tR at h; exact h
  exact ⟨none,h,fun c hc=>by cases hc⟩
 | b::_,0,k,h=>by
  have h:k b:=by unfold tR at h; exact h
  exact ⟨b,h,fun c hc=>by rw [hc]; rfl⟩
 | _::H,n+1,k,h=>by
  have h:tR H n k:=by unfold tR at h; exact h
  obtain ⟨b,h1,J⟩:=Kh h
  exact ⟨b,h1,fun c hc=>by simpa using J c hc⟩
def Ch (σ:List Nat) (H:ax):List Nat→(ax→Prop)→Prop
 | [],k=>k []
 | s::l,k=>tR H s fun b=>match b with
  | none=>Ch σ H l fun H'=>k (none::H')
  | some b=>Oi σ b fun b'=>Ch σ H l fun H'=>k (some b'::H')
theorem D6 {σ:List Nat} {H:ax}:∀ {l:List Nat} {k:ax→Prop},Ch σ H l k→∃ H',k H'∧H'.length=l.length∧∀ (j:Nat) b',H'[j]?=some (some b')→∃ s b,l[j]?=some s∧H[s]?=some (some b)∧b'.own=b.own ∧
  ∀ (ν:Nu) (lc:Loc) (w:World),bQ ν lc b w→bQ (ν.comp σ) lc b' w
 | [],k,h=>⟨[],h,rfl,fun j b hj=>by simp at hj⟩
 | s::l,k,h=>by
  obtain ⟨b,h,hb⟩:=Kh h
  cases b with
  | none =>
   obtain ⟨H',h1,J,h3⟩:=D6 (l:=l) h
   refine ⟨_,h1,by simp [J],fun j b' hj=>?_⟩
   cases j with
   | zero=>simp at hj
   | succ j=>simpa using h3 j b' (by simpa using hj)
  | some b =>
   obtain ⟨b1,h,ho,hr⟩:=SN h
   obtain ⟨H',h1,J,h3⟩:=D6 (l:=l) h
   refine ⟨_,h1,by simp [J],fun j b' hj=>?_⟩
   cases j with
   | zero=>simp at hj; subst hj; exact ⟨s,b,rfl,hb b rfl,ho,hr⟩
   | succ j=>simpa using h3 j b' (by simpa using hj)
def BO (a:Nat):List Nat→Bool
 | []=>true
 | b::l=>match Nat.beq a b with
  | true=>false
  | false=>BO a l
theorem Ki {a:Nat}:∀ {l:List Nat},BO a l=true→a ∉ l
 | [],_=>by simp
 | b::l,h=>by
  unfold BO at h
  split at h
  ·cases h
  ·rename_i e
   rw [List.mem_cons,not_or]
   exact ⟨Nat.ne_of_beq_eq_false e,Ki h⟩
def Ci:List Nat→Bool
 | []=>true
 | a::l=>match BO a l with
  | true=>Ci l
  | false=>false
theorem KW:∀ {l:List Nat},Ci l=true→l.Nodup
 | [],_=>by simp
 | a::l,h=>by
  unfold Ci at h
  split at h
  ·rename_i e; exact List.nodup_cons.2 ⟨Ki e,KW h⟩
  ·cases h
def preB (base:Nat):Nat→List Nat→Bool
 | k,[]=>Nat.ble base k
 | k,a::l=>match Nat.ble base k with
  | true=>true
  | false=>match Nat.beq a k with
   | true=>preB base (k+1) l
   | false=>false
theorem KX {base:Nat}:∀ {l:List Nat} {k:Nat},preB base k l=true→∀ j,k+j < base→l[j]?=some (k+j)
 | [],k,h,j,hj=>by
  have:=Nat.le_of_ble_eq_true h
  omega
 | a::l,k,h,j,hj=>by
  unfold preB at h
  split at h
  ·rename_i e; have:=Nat.le_of_ble_eq_true e; omega
  ·split at h
   ·rename_i e
    have e:=Nat.eq_of_beq_eq_true e
    cases j with
    | zero=>simp [e]
    | succ j =>
     have:=KX h j (by omega)
     rw [List.getElem?_cons_succ,this]; congr 1; omega
   ·cases h
def F3 (base:Nat) (σ:List Nat):Bool:=match preB base 0 σ with
 | true=>Ci σ
 | false=>false
theorem QU {base:Nat} {σ:List Nat} (h:F3 base σ=true):(∀ j,j < base→σ[j]?=some j)∧σ.Nodup:=by
 unfold F3 at h
 split at h
 ·rename_i e
  exact ⟨fun j hj=>by have:=KX e j (by omega); simpa using this,KW h⟩
 ·cases h
def Hd (E:Env) (σ aa:List Nat) (t:List Value) (H:ax) (k:SK):Prop :=
 match F3 E.base σ with
 | true=>∀ a:Nat→Value,yR a σ aa 0 t fun t'=>Ch σ H σ fun H'=>k t' H'
 | false=>False
theorem SO {E:Env} {F:Fr} (bO:kN F E) {σ aa:List Nat} {ν:Nu} {t:List Value} {H:ax} {a:Act} {w:World} {k:SK} (hi:bC F ν t H a w) (h:Hd E σ aa t H k) :
  ∃ t' H',k t' H'∧bC F (ν.comp σ) t' H' a w:=by
 unfold Hd at h
 split at h
 ·rename_i hb
  obtain ⟨zj,dJ⟩:=QU hb
  obtain ⟨af,HX⟩:=Ms hi.tm
  obtain ⟨t',h,ht⟩:=D5 (h af) ν _ hi.tm (fun j y hy aj=>by rw [Nat.zero_add]; exact HX j y hy aj)
  obtain ⟨H',h,kl,hH⟩:=D6 h
  have mO:∀ (j s:Nat),σ[j]?=some s→(ν.comp σ) j=ν s:=fun j s hj=>by simp [Nu.comp,hj]
  refine ⟨t',H',h,⟨ht,hi.df,⟨fun j b' hj=>?_,fun i j bi bj li lj aP gn aK ho e1 e2=>?_⟩,fun j hj=>?_,hi.kp,fun j b' l hj ho hl=>?_,fun id l bu=>?_⟩⟩
  ·obtain ⟨s,b,h1,J,h3,h4⟩:=hH j b' hj
   obtain ⟨l,h5,h6⟩:=hi.hp.aH s b J
   exact ⟨l,by rw [mO j s h1]; exact h5,h4 ν l w h6⟩
  ·obtain ⟨s,b,h1,J,h3,h4⟩:=hH i bi aP
   obtain ⟨s',b',fh,jV,sD,qi⟩:=hH j bj gn
   rw [mO i s h1] at e1
   rw [mO j s' fh] at e2
   refine hi.hp.sep s s' b b' li lj J jV (fun e=>aK ?_) (by rw [← h3]; exact ho) e1 e2
   subst e
   exact (List.getElem?_inj (List.getElem?_eq_some_iff.1 h1).1 dJ).1 (h1.trans fh.symm)
  ·rw [kl] at hj
   simp [Nu.comp,List.getElem?_eq_none hj]
  ·obtain ⟨s,b,h1,J,h3,h4⟩:=hH j b' hj
   rw [mO j s h1] at hl
   exact hi.own s b l J (by rw [← h3]; exact ho) hl
  ·have ak:id < F.n0:=by
    rcases Nat.lt_or_ge id F.n0 with h | h
    ·exact h
    ·rw [F.fresh id h] at bu; cases bu
   rw [mO id id (zj id (by have:=bO.n0; omega))]
   exact hi.mono id l bu
 ·exact h.elim
/-- The state as it is, or without what is not wanted. -/
def He (E:Env) (t:List Value) (H:ax) (k:SK):Prop:=k t H∨∃ σ aa,Hd E σ aa t H k
theorem KY {E:Env} {F:Fr} (bO:kN F E) {ν:Nu} {t:List Value} {H:ax} {a:Act} {w:World} {k:SK} (hi:bC F ν t H a w) (h:He E t H k) :
  ∃ aj t' H',k t' H'∧bC F aj t' H' a w:=by
 rcases h with h | ⟨σ,aa,h⟩
 ·exact ⟨ν,t,H,h,hi⟩
 ·obtain ⟨t',H',h1,J⟩:=SO bO hi h
  exact ⟨_,t',H',h1,J⟩
/-- Some slots hold what is said; of the others nothing is said. -/
inductive bE:List (Option Value)→List Value→Prop
 | nil:bE [] []
 | aa {v:Value} {ps:List (Option Value)} {vs:List Value} (h:bE ps vs):bE (some v::ps) (v::vs)
 | skip {v:Value} {ps:List (Option Value)} {vs:List Value} (h:bE ps vs):bE (none::ps) (v::vs)
def pK (a:Nat→Value):Nat→List (Option Value)→List Value
 | _,[]=>[]
 | i,some v::ps=>v::pK a (i+1) ps
 | i,none::ps=>a i::pK a (i+1) ps
/-- A run of dead slots. -/
def aD (n:Nat) (ps:List (Option Value)):List (Option Value):=match n with
 | 0=>ps
 | n+1=>none::aD n ps
def zs (a:Nat→Value) (i n:Nat) (l:List Value):List Value:=match n with
 | 0=>l
 | n+1=>a i::zs a (i+1) n l
theorem bE.sk:∀ (n:Nat) {ps:List (Option Value)} {vs:List Value},bE ps (vs.drop n)→Nat.ble n vs.length=true→bE (aD n ps) vs
 | 0,_,_,h,_=>h
 | n+1,_,[],_,h=>by simp at h
 | n+1,_,v::vs,h,hn=>.skip (bE.sk n (vs:=vs) h (by simpa using hn))
theorem bK {ps:List (Option Value)} {vs:List Value} (h:bE ps vs):∃ a:Nat→Value,vs=pK a 0 ps:=by
 have key:∀ (ps:List (Option Value)) (vs:List Value),bE ps vs→∀ i,∃ a:Nat→Value,vs=pK a i ps:=by
  intro ps vs h
  induction h with
  | nil=>exact fun i=>⟨fun _=>undef,rfl⟩
  | aa h ih=>
   intro i
   obtain ⟨a,ha⟩:=ih (i+1)
   exact ⟨a,by rw [ha]; rfl⟩
  | @skip v ps vs h ih =>
   intro i
   obtain ⟨a,ha⟩:=ih (i+1)
   refine ⟨fun j=>if j=i then v else a j,?_⟩
   have e:∀ (ps:List (Option Value)) (k:Nat),i < k→pK (fun j=>if j=i then v else a j) k ps=pK a k ps:=by
    intro ps
    induction ps with
    | nil=>intros; rfl
    | cons p ps ih =>
     intro k hk
     cases p with
     | none=>simp only [pK,ih (k+1) (by omega),if_neg (show k≠i by omega)]
     | some p=>simp only [pK,ih (k+1) (by omega)]
   simp only [pK,e ps (i+1) (by omega),ha,if_true]
 exact key ps vs h 0
end Go.Ae
/- The abstract evaluation of code: regions in the text's order; and that it stands for the model's run. -/
namespace Go.Ae
open Go Go.RowKit
def NI (E:Env) (o:Oper) (tmps:List Value) (H:ax) (k:SK) (q:Prop):Prop :=
 match o.op with
 | .store t x y=>Bw E tmps H t x y fun t' H'=>dw t' o.dst undef fun uH=>k uH H'
 | .call c=>match c.callee with
  | .builtin .append=>match c.args.toList,c.argTypes.toList with
   | [x,y],[t,t']=>match Nat.beq t t' with
    | true=>Mt E tmps H t x y fun v t1 H1=>dw t1 o.dst v fun t2=>k t2 H1
    | false=>q
   | _,_=>False
  | .builtin .clear=>match c.args.toList,c.argTypes.toList with
   | [x],[t]=>Nb E tmps H t x fun H1=>dw tmps o.dst (.tuple #[]) fun t2=>k t2 H1
   | _,_=>False
  | .builtin .copy=>match c.args.toList,c.argTypes.toList with
   | [x,y],[t,_]=>bZ tmps x fun xv=>bZ tmps y fun yv=>Fs E H t xv yv fun v H1=>dw tmps o.dst v fun t2=>k t2 H1
   | _,_=>False
  | .value f=>bZ tmps f fun fv=>match fv with
   | .func (.func g) a b=>match E.Ψ g with
    | some G=>pA tmps c.args.toList fun vs=>pR a.toList vs fun l=>pR l b.toList fun args=>G args H fun v H'=>dw tmps o.dst v fun t'=>k t' H'
    | none=>q
   | .func (.yield l) a b=>match a.toList,b.toList,E.ys with
    | [],[],(l',G)::_=>l'=l∧pA tmps c.args.toList fun vs=>G vs H fun v H'=>dw tmps o.dst v fun t'=>k t' H'
    | _,_,_=>False
   | _=>False
  | _=>q
 | _=>q
def yB (E:Env) (o:Oper) (tmps:List Value) (H:ax) (k:SK):Prop :=
 NI E o tmps H k (js H fun aI=>kM E o.op tmps H aI fun v nb=>dw tmps o.dst v fun t'=>uh H nb fun H'=>k t' H')
def wE (E:Env) (ops:List Oper) (o:Oper) (tmps:List Value) (H:ax) (k:SK):Prop :=
 match o.guard with
 | none=>yB E o tmps H k
 | some (j,want)=>match (ops[j]?).bind (·.dst) with
  | some d=>pQ tmps d fun v=>match v with
   | .bool b=>match want with
    | true=>br b (yB E o tmps H k) (dw tmps o.dst undef fun t'=>k t' H)
    | false=>br b (dw tmps o.dst undef fun t'=>k t' H) (yB E o tmps H k)
   | .tuple _=>dw tmps o.dst undef fun t'=>k t' H
   | _=>False
  | none=>False
def mW (E:Env) (ops:List Oper):List Oper→List Value→ax→SK→Prop
 | [],t,H,k=>k t H
 | [o],t,H,k=>wE E ops o t H k
 | o::p::l,t,H,k=>wE E ops o t H fun t' H'=>mW E ops (p::l) t' H' k
theorem KZ {E:Env} {ops l:List Oper} {o:Oper} {t:List Value} {H:ax} {k:SK} (h:mW E ops (o::l) t H k):wE E ops o t H fun t' H'=>mW E ops l t' H' k:=by
 cases l with
 | nil=>exact h
 | cons p l=>exact h
section
variable {P:Program} {E:Env} {r:Option Nat} {n:Nat} {F:Fr}
/-- Where the blocks lie that may be written. -/
def tE (ν:Nu) (H:ax) (x:Nat):Prop:=∃ id c l,H[id]?=some (some c)∧c.own=true∧ν id=some l∧x=l.aH
/-- Behind a call. -/
theorem bC.called {ν aj:Nu} {tmps:List Value} {H H':ax} {a:Act} {w w':World} (hi:bC F ν tmps H a w) (hle:ν.le aj) (zk:bT aj H' w') (yS:∀ id,H'.length≤id→aj id=none)
  (sE:Kept (tE ν H) w w') (kg:∀ id b l,H'[id]?=some (some b)→b.own=true→aj id=some l→tE ν H l.aH∨w.heap.size≤l.aH):bC F aj tmps H' a w':=by
 have hO:∀ x,tE ν H x→F.O x∨F.W.heap.size≤x:=by
  rintro x ⟨id,c,l,h1,J,h3,rfl⟩
  exact hi.own id c l h1 J h3
 refine ⟨hi.tm.mono hle,AF hi.df fun D hD=>?_,zk,yS,hi.kp.then sE hO,fun id b l h5 h6 h7=>(kg id b l h5 h6 h7).elim (hO _) (fun h=>.inr (Nat.le_trans hi.kp.size h)),Nu.le_trans hi.mono hle⟩
 refine (sE.aH D (Array.getElem?_eq_some_iff.1 hD).1 ?_).trans hD
 rintro ⟨id,c,l,h1,J,h3,rfl⟩
 obtain ⟨l',h4,hB⟩:=hi.hp.aH id c h1
 rw [h3] at h4; cases h4
 cases hr:c.rc with
 | none =>
  obtain ⟨cur,t,h5,_⟩:=hB.own J hr
  rw [h5] at hD; cases hD
 | some r =>
  have:=hB.lr r hr
  rw [this] at hD; cases hD
theorem Kj (hE:jQ P E) (bO:kN F E) {o:Oper} {ν:Nu} {tmps:List Value} {H:ax} {a:Act} {w:World} (hi:bC F ν tmps H a w) {k:SK}
  (h:yB E o tmps H k) {next:Act→World→Prop} {Q:Exit→Act→World→Prop}
  (hk:∀ ν t' H' a' w',bC F ν t' H' a' w'→k t' H'→next a' w'):o.wpIn (WF r) n P a w next Q:=by
 have quiet:(js H fun aI=>kM E o.op tmps H aI fun v nb=>dw tmps o.dst v fun t'=>uh H nb fun H'=>k t' H')→o.wpIn (WF r) n P a w next Q:=by
  intro h
  have h:=lX h
  obtain ⟨v,nb,qj,hq⟩:=AE (P:=P) hE.toEnvOk h
  refine hq o ν a w r n rfl (fun x _=>hi.me x) hi.hp (hi.fr _ (Nat.le_refl _)) next Q (fun v' w' aj hp=>?_)
  have rG:∀ (k':ax→Prop),uh H nb k'→∃ H',k' H'∧bC F aj tmps H' a w':=fun k' HR=>hi.quiet hp HR
  -- first the new block, then the slot
  cases hd:o.dst with
  | none =>
   rw [hd] at qj
   obtain ⟨H',h1,J⟩:=rG _ qj
   exact hk _ _ _ _ _ J h1
  | some d =>
   rw [hd] at qj
   obtain ⟨h1,J⟩:=oe qj
   obtain ⟨H',h3,h4⟩:=rG _ J
   refine hk aj (tmps.set d v) H' _ w' ⟨?_,h4.df,h4.hp,h4.fr,h4.kp,h4.own,h4.mono⟩ h3
   rw [qZ]
   exact h4.tm.set hp.val d
 unfold yB NI at h
 split at h
 ·rename_i t x y ho
  exact QR hE.toEnvOk ho hi h hk
 ·rename_i c ho
  split at h
  ·rename_i hc
   split at h
   ·rename_i x y t t' hx ht
    split at h
    ·rename_i hb
     have hb:t=t':=Nat.eq_of_beq_eq_true hb
     subst hb
     obtain ⟨v,v',aj,t1,H1,w1,h,hv,aP,bF⟩:=Qq hE.toEnvOk bO hi h o.type
     obtain ⟨t2,h,g0⟩:=aP.dst hv h
     have hx:c.args=#[x,y]:=Array.ext' hx
     have ht:c.argTypes=#[t,t]:=Array.ext' ht
     exact jD (by simp [ho]) (by simp [execOp,ho,resolve,hc,hx,ht,invoke,builtin,bF]) next Q (hk _ _ _ _ _ g0 h)
    ·exact quiet h
   ·exact h.elim
  ·rename_i hc
   split at h
   ·rename_i x t hx ht
    obtain ⟨H1,w1,h,aP,bF⟩:=QT hE.toEnvOk hi h o.type
    obtain ⟨t2,h,g0⟩:=aP.dst (.tuple [] [] rfl (fun i x y hx _=>by simp at hx)) h
    have hx:c.args=#[x]:=Array.ext' hx
    have ht:c.argTypes=#[t]:=Array.ext' ht
    exact jD (by simp [ho]) (by simp [execOp,ho,resolve,hc,hx,ht,invoke,builtin,bF]) next Q (hk _ _ _ _ _ g0 h)
   ·exact h.elim
  ·rename_i hc
   split at h
   ·rename_i x y t t2 hx ht
    obtain ⟨xv,J,uD⟩:=kz h (hi.me x)
    clear h
    obtain ⟨yv,h,uE⟩:=kz J (hi.me y)
    obtain ⟨v,H1,w1,h,hv,aP,bF⟩:=Kg hE.toEnvOk hi uD uE h t2 o.type
    obtain ⟨t2,h,g0⟩:=aP.dst hv h
    have hx:c.args=#[x,y]:=Array.ext' hx
    have ht:c.argTypes=#[t,_]:=Array.ext' ht
    exact jD (by simp [ho]) (by simp [execOp,ho,resolve,hc,hx,ht,invoke,builtin,bF]) next Q (hk _ _ _ _ _ g0 h)
   ·exact h.elim
  ·rename_i f hc
   have h0:=h
   obtain ⟨fv,J,hf⟩:=kz h (hi.me f)
   clear h
   split at J
   ·rename_i g xa ya
    split at J
    ·rename_i G hG
     obtain ⟨vs,h,fA⟩:=Dt J (fun z _=>hi.me z)
     clear J
     have J:=vv (vv h)
     clear h
     have bg:=hE.ft g G hG
     obtain ⟨ys,dn,jT,h3,h4⟩:=hf.re
     have ny:=(h3.append fA).append h4
     refine ⟨fun _ _=>trivial,?_⟩
     have bF:(execOp a.eval o).run P w=.ok (.enter g ⟨(ys++c.args.toList.map a.eval)++dn⟩) w:=by
      simp only [execOp,ho,resolve,hc,jT,Deferred.ofValue,Sem.run_bind,Sem.run_pure,Result.andThen_ok,invoke,bg.enters]
      congr 2
      apply Array.ext'
      simp
     rw [Oper.semAt_eq _ _ _ (by simp [ho]),bF]
     refine ⟨fun h=>by simp [WF,Fence.wide] at h,?_⟩
     have yw:=bg.calls _ H _ J ν _ w (n - 1) (tE ν H) ny hi.hp hi.fr (fun id b l h5 h6 h7=>⟨id,b,l,h5,h6,h7,rfl⟩)
     have x8:CallsIn (WF r) (n - 1) P g ⟨(ys++c.args.toList.map a.eval)++dn⟩ w _:=yw
     refine x8.mono ?_
     rintro e w' ⟨v,v',aj,H',rfl,h,hv,hle,zk,yS,sE,kg⟩
     have aP:bC F aj tmps H' a w':=hi.called hle zk yS sE kg
     obtain ⟨t',h,g0⟩:=aP.dst hv h
     exact hk _ _ _ _ _ g0 h
    ·exact quiet J
   ·rename_i l xa ya
    split at J
    ·rename_i l' G rest uK zl CM
     obtain ⟨rfl,J⟩:=J
     obtain ⟨vs,J,fA⟩:=Dt J (fun z _=>hi.me z)
     obtain ⟨ys,dn,jT,h3,h4⟩:=hf.re
     rw [uK] at h3; rw [zl] at h4
     have e1:=h3.iP
     have e2:=h4.iP
     subst e1; subst e2
     obtain ⟨fn,tm,O4,body,hy,Ym⟩:=hE.ys l' G rest CM _ H _ J ν _ w (n - 1) (tE ν H) (Nu.le_trans bO.nu hi.mono) fA hi.hp hi.fr (fun id b l h5 h6 h7=>⟨id,b,l,h5,h6,h7,rfl⟩)
     refine ⟨fun _ _=>trivial,?_⟩
     have bF:(execOp a.eval o).run P w=.ok (.round l' fn tm O4 body) w:=by
      simp only [execOp,ho,resolve,hc,jT,Deferred.ofValue,Sem.run_bind,Sem.run_pure,Result.andThen_ok,invoke]
      have e:(⟨List.map a.eval c.args.toList⟩:Array Value)=Array.map a.eval c.args:=Array.ext' (by simp)
      rw [e] at hy
      simpa using hy
     rw [Oper.semAt_eq _ _ _ (by simp [ho]),bF]
     refine ⟨fun h=>by simp [WF,Fence.wide] at h,?_⟩
     have VA:RoundIn (WF r) (n - 1) P l' fn tm O4 body w _:=Ym
     refine VA.mono ?_
     rintro e w' ⟨v,v',aj,H',rfl,h,hv,hle,zk,yS,sE,kg⟩
     have aP:bC F aj tmps H' a w':=hi.called hle zk yS sE kg
     obtain ⟨t',h,g0⟩:=aP.dst hv h
     exact hk _ _ _ _ _ g0 h
    ·exact J.elim
   ·exact J.elim
  ·exact quiet h
 ·exact quiet h
theorem xG {ops:Array Oper} {tmps:Array Value} {j:Nat} {d:Tmp} (hd:(ops[j]?).bind (·.dst)=some d):yielded ops tmps j=match tmps[d]? with | some (.bool b)=>some b | _=>none:=by
 unfold yielded
 rw [hd]
 rfl
theorem DM (hE:jQ P E) (bO:kN F E) {ops:Array Oper} {o:Oper} {ν:Nu} {tmps:List Value} {H:ax} {a:Act} {w:World} (hi:bC F ν tmps H a w) {k:SK}
  (h:wE E ops.toList o tmps H k) {next:Act→World→Prop} {Q:Exit→Act→World→Prop}
  (hk:∀ ν t' H' a' w',bC F ν t' H' a' w'→k t' H'→next a' w') :
  if Region.wanted o (yielded ops a.tmps) then o.wpIn (WF r) n P a w next Q else (∀ f,o.about P w a.eval=some f→(WF r).fn f)∧next (a.put o.dst undef) w:=by
 unfold wE at h
 have skip:(dw tmps o.dst undef fun t'=>k t' H)→(∀ f,o.about P w a.eval=some f→(WF r).fn f)∧next (a.put o.dst undef) w:=fun h=>by
  obtain ⟨t',h1,J⟩:=hi.dst (.undef ν) h
  exact ⟨fun _ _=>trivial,hk _ _ _ _ _ J h1⟩
 split at h
 ·rename_i hg
  have:Region.wanted o (yielded ops a.tmps)=true:=by simp [Region.wanted,hg]
  rw [if_pos this]
  exact Kj hE bO hi h hk
 ·rename_i j want hg
  split at h
  ·rename_i d hd
   have cY:(ops[j]?).bind (·.dst)=some d:=by simpa using hd
   obtain ⟨v,hv,h⟩:=od h
   obtain ⟨v',uG,hr⟩:=hi.tm.get hv
   have ab8:a.tmps[d]?=some v':=by simpa using uG
   have hy:=xG (tmps:=a.tmps) cY
   rw [ab8] at hy
   split at h
   ·rename_i b
    have:=hr.j5
    subst this
    have hw:Region.wanted o (yielded ops a.tmps)=(b == want):=by
     simp only [Region.wanted,hg,hy]
     cases b <;> cases want <;> rfl
    rw [hw]
    cases want <;> cases b <;> first | exact Kj hE bO hi h hk | exact skip h
   ·rename_i vs
    obtain ⟨ys,rfl,_⟩:=an.np (xs:=vs.toList) hr
    have hw:Region.wanted o (yielded ops a.tmps)=false:=by
     simp only [Region.wanted,hg,hy]
     rfl
    rw [hw]
    simp only [Bool.false_eq_true,if_false]
    exact skip h
   ·exact h.elim
  ·exact h.elim
theorem K0 (hE:jQ P E) (bO:kN F E) {ops:Array Oper} {Q:Exit→Act→World→Prop}:∀ {l:List Oper} {idx:List Nat} {ν:Nu} {tmps:List Value} {H:ax} {a:Act} {w:World} {k:SK},
  idx.map (ops[·]?)=l.map some→bC F ν tmps H a w→mW E ops.toList l tmps H k→(∀ ν t' H' a' w',bC F ν t' H' a' w'→k t' H'→Q .normal a' w')→wpOpsIn (WF r) n P ops Q idx a w
 | [],idx,ν,tmps,H,a,w,k,he,hi,h,hk=>by
  have:idx=[]:=by cases idx with
   | nil=>rfl
   | cons=>simp at he
  subst this
  exact hk _ _ _ _ _ hi h
 | o::l,idx,ν,tmps,H,a,w,k,he,hi,h,hk=>by
  cases idx with
  | nil=>simp at he
  | cons i idx =>
   simp only [List.map_cons,List.cons.injEq] at he
   simp only [wpOpsIn,he.1]
   exact DM hE bO hi (KZ h) (fun ν t' H' a' w' aP h'=>K0 hE bO he.2 aP h' hk)
theorem Qr (hE:jQ P E) (bO:kN F E) {ops:Array Oper} {Q:Exit→Act→World→Prop} {id:Nat} {ν:Nu} {tmps:List Value} {H:ax} {a:Act} {w:World} {k:SK}
  (hi:bC F ν tmps H a w) (h:mW E ops.toList ops.toList tmps H k) (hk:∀ ν t' H' a' w',bC F ν t' H' a' w'→k t' H'→Q .normal a' w'):(Code.region id ops false).wpIn (WF r) n P Q a w:=by
 refine wpIn_region (K0 hE bO ?_ hi h hk)
 apply List.ext_getElem?
 intro i
 simp only [List.getElem?_map,List.getElem?_range,Array.getElem?_toList]
 by_cases ak:i < ops.size
 ·simp [ak]
 ·simp [ak]
end
end Go.Ae
/- The abstract evaluation of a function's body, and contracts out of it. -/
namespace Go.Ae
open Go Go.RowKit
abbrev XK:=Nat→List Value→ax→Prop
/-- Rounds of a loop, a bounded number of them. -/
def Bb (body:List Value→ax→SK→Prop):Nat→List Value→ax→Prop
 | 0,_,_=>False
 | m+1,t,H=>body t H (Bb body m)
def Gw:List Value→List Nat→List Value→(List Value→Prop)→Prop
 | t,[],[],k=>k t
 | t,p::ps,x::xs,k=>wQ t p x fun t'=>Gw t' ps xs k
 | _,_,_,_=>False
theorem Kk:∀ {t:List Value} {ps:List Nat} {xs:List Value} {k:List Value→Prop},Gw t ps xs k→ps.length=xs.length∧∃ t1,k t1∧∀ (ν:Nu) (a:Array Value) (as:List Value),bh ν t a.toList→bh ν xs as→bh ν t1 ((ps.zip as).foldl (fun t (p,v)=>t.setIfInBounds p v) a).toList
 | t,[],[],k,h=>⟨rfl,t,h,fun ν a as ha hx=>ha⟩
 | t,p::ps,x::xs,k,h=>by
  obtain ⟨ak,h⟩:=oe h
  obtain ⟨h1,t1,J,h3⟩:=Kk h
  refine ⟨by simp [h1],t1,J,fun ν a as ha hx=>?_⟩
  obtain ⟨y,ys,rfl,k1,k2⟩:=hx.jg
  refine h3 ν (a.setIfInBounds p y) ys ?_ k2
  rw [Array.toList_setIfInBounds]
  exact ha.set k1 p
 | _,[],_::_,_,h=>h.elim
 | _,_::_,[],_,h=>h.elim
def BP (H:ax) (id:Nat) (k:Loop→Prop):Prop :=
 gF H id fun b=>match b with
  | .cm r=>k r
  | _=>False
/-- The end of a round: the record, and what yield answers. -/
def BQ (R:LoopState→Option Code→Loop) (γ:Nat) (jump:Option Code) (K:Value→ax→Prop) (H:ax):Prop :=
 BP H γ fun r=>r=R .busy none∧jr H γ (some (.cm (R (match jump with | none=>.ready | some _=>.done) jump))) fun H'=>K (.bool (match jump with | none=>true | some _=>false)) H'
/-- Behind the iterator. -/
def Yn (R:LoopState→Option Code→Loop) (γ:Nat) (t:List Value) (kn:SK) (kx:XK) (kr:SK) (H:ax):Prop :=
 BP H γ fun r=>jr H γ none fun H'=>match r.state,r.pending with
  | .busy,_=>False
  | _,none=>kn t H'
  | _,some (.exit i)=>kx i t H'
  | _,some .ret=>kr t H'
  | _,_=>False
def vc:Env→(Env→List Oper→List Value→ax→SK→Prop)→Code→List Value→ax→SK→XK→SK→Prop
 | _,_,.skip,t,H,kn,_,_=>kn t H
 | E,_,.region _ ops false,t,H,kn,_,_=>mW E ops.toList ops.toList t H kn
 | E,D,.region _ ops true,t,H,kn,_,_=>D E ops.toList t H kn
 | E,D,.seq a b,t,H,kn,kx,kr=>vc E D a t H (fun t H=>vc E D b t H kn kx kr) kx kr
 | E,D,.cond c x y,t,H,kn,kx,kr=>bZ t c fun v=>match v with
  | .bool b=>br b (vc E D x t H kn kx kr) (vc E D y t H kn kx kr)
  | _=>False
 | E,D,.block id c,t,H,kn,kx,kr=>vc E D c t H kn (fun i t H=>match Nat.beq i id with | true=>kn t H | false=>kx i t H) kr
 | _,_,.exit id,t,H,_,kx,_=>kx id t H
 | _,_,.ret,t,H,_,_,kr=>kr t H
 | E,D,.loop c,t,H,_,kx,kr =>
  (∃ I:Nat→List Value→ax→Prop,(He E t H fun t H=>∃ n,I n t H)∧∀ n t H,I n t H→vc E D c t H (fun t H=>He E t H fun t H=>∃ m,m < n∧I m t H) kx kr) ∨
  (∃ m,Bb (fun t H k=>vc E D c t H k kx kr) m t H)
 | E,D,.rangeFunc g ps assign body,t,H,kn,kx,kr=>match E.rd with
  | true=>False
  | false=>bZ t g fun gv=>match gv with
   | .func (.func f) a b=>match a.toList,E.It f with
    | [],some I=>∀ (l:Nat) (nu:Nu) (fn:FuncId) (tm:Array Value) (df:Nat),js H fun γ=>ox H (some (.cm ⟨.ready,none,fn,tm,ps,assign,body,df⟩)) fun H1 =>
     I l (fun args H K=>BP H γ fun r=>r=⟨.ready,none,fn,tm,ps,assign,body,df⟩∧Gw t ps.toList args fun t1=>js H fun n0 =>
       vc { E with base:=n0,rd:=true } D assign t1 H (fun t2 H2=>BP H2 γ fun r2=>r2=⟨.ready,none,fn,tm,ps,assign,body,df⟩∧jr H2 γ (some (.cm ⟨.busy,none,fn,tm,ps,assign,body,df⟩)) fun H3 =>
         vc { E with base:=n0,rd:=true } D body t2 H3 (fun _ H4=>BQ (fun s p=>⟨s,p,fn,tm,ps,assign,body,df⟩) γ none K H4) (fun i _ H4=>BQ (fun s p=>⟨s,p,fn,tm,ps,assign,body,df⟩) γ (some (.exit i)) K H4)
          (fun _ H4=>BQ (fun s p=>⟨s,p,fn,tm,ps,assign,body,df⟩) γ (some .ret) K H4))
        (fun _ _ _=>False) (fun _ _=>False))
      nu (.func (.yield l) #[] #[]::b.toList) H1 fun _ H2=>Yn (fun s p=>⟨s,p,fn,tm,ps,assign,body,df⟩) γ t kn kx kr H2
    | _,_=>False
   | _=>False
 | _,_,_,_,_,_,_,_=>False
def vG (E:Env) (H:ax) (tmps:List Value):List ResultVar→(List Value→Prop)→Prop
 | [],k=>k []
 | .tmp t::l,k=>pQ tmps t fun v=>vG E H tmps l fun vs=>k (v::vs)
 | .cell a t::l,k=>pQ tmps a fun av=>match av with
  | .pointer (some ⟨id,row,sp⟩)=>cR E.tt t fun ti=>gF H id fun b=>G0 b row fun cs=>tL cs (sp.getD 0) ti.size fun us=>vG E H tmps l fun vs=>k (valOf ti.agg us::vs)
  | _=>False
def Cj (vs:List Value) (k:Value→Prop):Prop :=
 match vs with
 | [v]=>k v
 | vs=>k (.tuple ⟨vs⟩)
/-- A value without addresses, two levels deep. -/
def we:Value→Bool
 | .bool _ | .int _ _ | .string _ | .pointer none | .nilFunc=>true
 | .agg cs=>jF cs.toList
 | .func _ a b=>a.toList.isEmpty && b.toList.isEmpty
 | _=>false
def sZ:List Value→Bool
 | []=>true
 | v::l=>we v && sZ l
def Bx:Value→Bool
 | .tuple vs=>sZ vs.toList
 | .func _ a b=>sZ a.toList && sZ b.toList
 | v=>we v
theorem bh.K1 {ν:Nu}:∀ {l:List Value},jF l=true→bh ν l l
 | [],_=>.nil ν
 | v::l,h=>by
  simp only [jF,Bool.and_eq_true] at h
  exact .cons (an.j3 h.1) (bh.K1 h.2)
theorem JR {v:Value} (h:we v=true):(∀ ν,an ν v v)∧∀ ν w,an ν v w→w=v:=by
 cases v with
 | bool b=>exact ⟨fun ν=>.bool b,fun ν w hw=>hw.j5⟩
 | int k n=>exact ⟨fun ν=>.int k n,fun ν w hw=>hw.fO⟩
 | string s=>exact ⟨fun ν=>.str s,fun ν w hw=>hw.rr⟩
 | pointer a =>
  cases a with
  | none=>exact ⟨fun ν=>.mg,fun ν w hw=>by cases hw; rfl⟩
  | some a=>simp [we] at h
 | nilFunc=>exact ⟨fun ν=>.mh,fun ν w hw=>by cases hw; rfl⟩
 | agg cs =>
  have h':jF cs.toList=true:=h
  refine ⟨fun ν=>?_,fun ν w hw=>?_⟩
  ·have:=bh.K1 (ν:=ν) h'
   exact .agg _ _ this.1 this.2
  ·obtain ⟨ys,rfl,hy⟩:=an.tB (xs:=cs.toList) hw
   rw [bh.j4 (xx h') hy]
 | func fn a b =>
  simp only [we,Bool.and_eq_true,List.isEmpty_iff] at h
  refine ⟨fun ν=>?_,fun ν w hw=>?_⟩
  ·have e1:a=⟨[]⟩:=Array.ext' h.1
   have e2:b=⟨[]⟩:=Array.ext' h.2
   subst e1; subst e2
   exact .func fn [] [] [] [] rfl (fun i x y hx _=>by simp at hx) rfl (fun i x y hx _=>by simp at hx)
  ·obtain ⟨ys,dn,rfl,h1,J⟩:=hw.re
   rw [h.1] at h1; rw [h.2] at J
   rw [h1.iP,J.iP]
   rw [Array.ext' (xs:=a) (ys:=⟨[]⟩) h.1,Array.ext' (xs:=b) (ys:=⟨[]⟩) h.2]
 | _=>simp [we] at h
theorem z6:∀ {l:List Value},sZ l=true→(∀ ν,bh ν l l)∧∀ ν m,bh ν l m→m=l
 | [],_=>⟨fun ν=>.nil ν,fun ν m hm=>hm.iP⟩
 | v::l,h=>by
  simp only [sZ,Bool.and_eq_true] at h
  obtain ⟨h1,J⟩:=JR h.1
  obtain ⟨h3,h4⟩:=z6 h.2
  refine ⟨fun ν=>.cons (h1 ν) (h3 ν),fun ν m hm=>?_⟩
  obtain ⟨y,ys,rfl,k1,k2⟩:=hm.jg
  rw [J ν y k1,h4 ν ys k2]
theorem Dw {v:Value} (h:Bx v=true):(∀ ν,an ν v v)∧∀ ν w,an ν v w→w=v:=by
 cases v with
 | tuple vs =>
  have h':sZ vs.toList=true:=h
  obtain ⟨h1,J⟩:=z6 h'
  refine ⟨fun ν=>.tuple _ _ (h1 ν).1 (h1 ν).2,fun ν w hw=>?_⟩
  obtain ⟨ys,rfl,hy⟩:=an.np (xs:=vs.toList) hw
  rw [J ν ys hy]
 | func fn a b =>
  simp only [Bx,Bool.and_eq_true] at h
  obtain ⟨h1,J⟩:=z6 h.1
  obtain ⟨h3,h4⟩:=z6 h.2
  refine ⟨fun ν=>.func fn _ _ _ _ (h1 ν).1 (h1 ν).2 (h3 ν).1 (h3 ν).2,fun ν w hw=>?_⟩
  obtain ⟨ys,dn,rfl,k1,k2⟩:=hw.re
  rw [J ν ys k1,h4 ν dn k2]
 | _=>exact JR h
def AG:List Value→Bool
 | []=>true
 | v::l=>Bx v && AG l
theorem Di:∀ {l:List Value},AG l=true→(∀ ν,bh ν l l)∧∀ ν m,bh ν l m→m=l
 | [],_=>⟨fun ν=>.nil ν,fun ν m hm=>hm.iP⟩
 | v::l,h=>by
  simp only [AG,Bool.and_eq_true] at h
  obtain ⟨h1,J⟩:=Dw h.1
  obtain ⟨h3,h4⟩:=Di h.2
  refine ⟨fun ν=>.cons (h1 ν) (h3 ν),fun ν m hm=>?_⟩
  obtain ⟨y,ys,rfl,k1,k2⟩:=hm.jg
  rw [J ν y k1,h4 ν ys k2]
/-- How a region that draws its order may be evaluated. -/
def m5 (P:Program) (D:Env→List Oper→List Value→ax→SK→Prop):Prop :=
 ∀ (E:Env),jQ P E→∀ (r:Option Nat) (n:Nat) (F:Fr),kN F E→∀ (ops:Array Oper) (Q:Exit→Act→World→Prop) (id:Nat) (ν:Nu) (tmps:List Value) (H:ax) (a:Act) (w:World) (k:SK),
  bC F ν tmps H a w→D E ops.toList tmps H k→(∀ ν t' H' a' w',bC F ν t' H' a' w'→k t' H'→Q .normal a' w')→(Code.region id ops true).wpIn (WF r) n P Q a w
section
variable {P:Program} {E:Env} {r:Option Nat} {n:Nat} {F:Fr} {D:Env→List Oper→List Value→ax→SK→Prop}
/-- The record turns. -/
theorem bC.Mu {F:Fr} {ν:Nu} {t:List Value} {H:ax} {a:Act} {w:World} (hi:bC F ν t H a w) {γ:Nat} {r:Loop} {l:Loc} (r':Loop) (hb:H[γ]?=some (some (.cm r))) (hl:ν γ=some l) :
  bC F ν t (H.set γ (some (.cm r'))) a (w.putObj l.aH (.loop r')):=by
 have ak:γ < H.length:=(List.getElem?_eq_some_iff.1 hb).1
 obtain ⟨l',cJ,hB⟩:=hi.hp.aH γ _ hb
 rw [hl] at cJ; cases cJ
 have Ck:=hB.lr r rfl
 have hw:l.aH < w.heap.size:=(Array.getElem?_eq_some_iff.1 Ck).1
 have di:∀ (id:Nat) (b:ai),(H.set γ (some (.cm r')))[id]?=some (some b)→(id=γ∧b=.cm r')∨(id≠γ∧H[id]?=some (some b)):=fun id b h=>by
  by_cases e:id=γ
  ·subst e; rw [List.getElem?_set_self ak] at h; cases h; exact .inl ⟨rfl,rfl⟩
  ·rw [List.getElem?_set_ne (Ne.symm e)] at h; exact .inr ⟨e,h⟩
 refine ⟨hi.tm,AF hi.df fun D hD=>(World.putObj_heap_other (fun e=>by rw [e,Ck] at hD; cases hD)).trans hD,⟨fun id b h=>?_,fun i j bi bj li lj h1 J aK ho e1 e2=>?_⟩,fun id bu=>hi.fr id (by simpa using bu),
  hi.kp.then (O':=fun x=>x=l.aH) ⟨rfl,rfl,rfl,by simp,fun b h1 J=>World.putObj_heap_other J⟩ (fun b bD=>by subst bD; exact hi.own γ _ _ hb rfl hl),fun id b l' h ho cJ=>?_,hi.mono⟩
 ·rcases di id b h with ⟨rfl,rfl⟩ | ⟨aK,h⟩
  ·exact ⟨l,hl,hB.ah,fun r hr=>absurd hr (Nat.not_lt_zero r),fun r hr=>absurd hr (Nat.not_lt_zero r),(fun h=>nomatch h),fun r hr=>absurd hr (Nat.not_lt_zero r),(fun _ h=>nomatch h),fun r hr=>by cases hr; exact World.putObj_heap_same hw,by simpa using hw⟩
  ·obtain ⟨l',cJ,hB'⟩:=hi.hp.aH id b h
   exact ⟨l',cJ,hB'.same (World.putObj_heap_other (Ne.symm (hi.hp.sep γ id _ b l l' hb h (Ne.symm aK) rfl hl cJ))) (by simp)⟩
 ·rcases di i bi h1 with ⟨rfl,rfl⟩ | ⟨hni,g1⟩ <;> rcases di j bj J with ⟨rfl,rfl⟩ | ⟨hnj,g2⟩
  ·exact absurd rfl aK
  ·exact hi.hp.sep _ j _ bj li lj hb g2 aK rfl e1 e2
  ·exact hi.hp.sep i _ bi _ li lj g1 hb aK ho e1 e2
  ·exact hi.hp.sep i j bi bj li lj g1 g2 aK ho e1 e2
 ·rcases di id b h with ⟨rfl,rfl⟩ | ⟨aK,h⟩
  ·exact hi.own _ _ _ hb rfl cJ
  ·exact hi.own id b l' h ho cJ
theorem T1 (hD:m5 P D):∀ (c:Code) {E:Env} {r:Option Nat} {n:Nat} {F:Fr},jQ P E→kN F E→(E.rd=false→r=none)→∀ {ν:Nu} {t:List Value} {H:ax} {a:Act} {w:World} {kn:SK} {kx:XK} {kr:SK} {Q:Exit→Act→World→Prop},
  bC F ν t H a w→vc E D c t H kn kx kr→(∀ ν t H a w,bC F ν t H a w→kn t H→Q .normal a w)→(∀ i ν t H a w,bC F ν t H a w→kx i t H→Q (.exit i) a w) →
  (∀ ν t H a w,bC F ν t H a w→kr t H→Q .ret a w)→c.wpIn (WF r) n P Q a w:=by
 intro c
 induction c with
 | skip=>exact fun hE bO fE=>fun hi h hn _ _=>wpIn_skip (hn _ _ _ _ _ hi h)
 | region id ops d =>
  intro E r n F hE bO fE ν t H a w kn kx kr Q hi h hn _ _
  cases d with
  | false=>exact Qr hE bO hi h hn
  | true=>exact hD E hE r n F bO ops Q id ν t H a w kn hi h hn
 | seq x y H0 H6 =>
  intro E r n F hE bO fE ν t H a w kn kx kr Q hi h hn hx hr
  exact wpIn_seq (H0 hE bO fE hi h (fun ν t H a w aP h'=>H6 hE bO fE aP h' hn hx hr) hx hr)
 | cond c x y H0 H6 =>
  intro E r n F hE bO fE ν t H a w kn kx kr Q hi h hn hx hr
  obtain ⟨v,h,hv⟩:=kz h (hi.me c)
  split at h
  ·rename_i b
   have hb:=hv.j5
   exact wpIn_cond_split hb (fun e=>H0 hE bO fE hi (A8 h e) hn hx hr) (fun e=>H6 hE bO fE hi (AR h e) hn hx hr)
  ·exact h.elim
 | block id c ih =>
  intro E r n F hE bO fE ν t H a w kn kx kr Q hi h hn hx hr
  refine wpIn_block (ih hE bO fE hi h hn (fun i ν t H a w aP h'=>?_) hr)
  simp only [Exit.inBlock]
  split at h'
  ·rename_i e
   rw [if_pos (Nat.eq_of_beq_eq_true e)]; exact hn _ _ _ _ _ aP h'
  ·rename_i e
   rw [if_neg (Nat.ne_of_beq_eq_false e)]; exact hx _ _ _ _ _ _ aP h'
 | loop c ih =>
  intro E r n F hE bO fE ν t H a w kn kx kr Q hi h hn hx hr
  rcases h with ⟨I,h00,tS⟩ | ⟨m,hm⟩
  ·-- by an invariant
   obtain ⟨ν,t,H,⟨m0,h0⟩,hi⟩:=KY bO hi h00
   have key:∀ (m:Nat) ν t H a w,bC F ν t H a w→I m t H→∀ (b:Frame) (k:List Item) (cs:List Frame),b.roundOf=(WF r).round→(WF r).fn b.fn→(WF r).room (cs.length+1+n) →
     ∃ e a' w',Q e a' w'∧ArrivesIn (Machine.fenced P (WF r)) P (lone (b.atR a (.code c::.inLoop c::k)) cs w) b k cs e a' w':=by
    intro m
    induction m using Nat.strongRecOn with
    | _ m H8 =>
     intro ν t H a w hi hI b k cs m6 hb cU
     have:=ih hE bO fE (Q:=fun e a w=>match e with | .normal=>∃ m' ν t H,m' < m∧bC F ν t H a w∧I m' t H | e=>Q e a w) hi (tS m t H hI)
      (fun ν t H a w aP h'=>let ⟨qk,t2,H2,⟨m',ak,zm⟩,g0⟩:=KY bO aP h'; ⟨m',qk,t2,H2,ak,g0,zm⟩) hx hr b (.inLoop c::k) cs m6 hb cU
     obtain ⟨e,mn,mo,hq,jS⟩:=this
     cases e with
     | normal =>
      obtain ⟨m',aj,t',H',ak,aP,zm⟩:=hq
      obtain ⟨Hf,Hg,Hh,Gx,Fv⟩:=H8 m' ak aj t' H' mn mo aP zm b k cs m6 hb cU
      exact ⟨Hf,Hg,Hh,Gx,.of_steps (StepsIn.trans jS (.one (fenced_calm hb cU rfl) stepR_inLoop)) Fv⟩
     | exit id=>exact ⟨_,mn,mo,hq,.pass (x:=.inLoop c) rfl (fun _ _=>.inl (by simp)) jS⟩
     | goto l=>exact ⟨_,mn,mo,hq,.pass (x:=.inLoop c) rfl (fun _ _=>.inl (by simp)) jS⟩
     | ret=>exact ⟨_,mn,mo,hq,.pass (x:=.inLoop c) rfl (fun _ _=>.inl (by simp)) jS⟩
     | panic ch=>exact ⟨_,mn,mo,hq,.pass (x:=.inLoop c) rfl (fun _ _=>.inl (by simp)) jS⟩
     | outgrown=>exact ⟨_,mn,mo,hq,.pass (x:=.inLoop c) rfl (fun _ _=>.inl (by simp)) jS⟩
   intro b k cs m6 hb cU
   obtain ⟨e,a',w',hq,jS⟩:=key m0 ν t H a w hi h0 b k cs m6 hb cU
   exact ⟨e,a',w',hq,.of_steps (.one (fenced_calm hb cU rfl) stepR_loop) jS⟩
  ·-- round by round
   have key:∀ (m:Nat) ν t H a w,bC F ν t H a w→Bb (fun t H k=>vc E D c t H k kx kr) m t H→∀ (b:Frame) (k:List Item) (cs:List Frame),b.roundOf=(WF r).round→(WF r).fn b.fn→(WF r).room (cs.length+1+n) →
     ∃ e a' w',Q e a' w'∧ArrivesIn (Machine.fenced P (WF r)) P (lone (b.atR a (.code c::.inLoop c::k)) cs w) b k cs e a' w':=by
    intro m
    induction m with
    | zero=>exact fun ν t H a w _ h=>h.elim
    | succ m H8 =>
     intro ν t H a w hi hI b k cs m6 hb cU
     have:=ih hE bO fE (Q:=fun e a w=>match e with | .normal=>∃ ν t H,bC F ν t H a w∧Bb (fun t H k=>vc E D c t H k kx kr) m t H | e=>Q e a w) hi hI
      (fun ν t H a w aP h'=>⟨ν,t,H,aP,h'⟩) hx hr b (.inLoop c::k) cs m6 hb cU
     obtain ⟨e,mn,mo,hq,jS⟩:=this
     cases e with
     | normal =>
      obtain ⟨aj,t',H',aP,zm⟩:=hq
      obtain ⟨Hf,Hg,Hh,Gx,Fv⟩:=H8 aj t' H' mn mo aP zm b k cs m6 hb cU
      exact ⟨Hf,Hg,Hh,Gx,.of_steps (StepsIn.trans jS (.one (fenced_calm hb cU rfl) stepR_inLoop)) Fv⟩
     | exit id=>exact ⟨_,mn,mo,hq,.pass (x:=.inLoop c) rfl (fun _ _=>.inl (by simp)) jS⟩
     | goto l=>exact ⟨_,mn,mo,hq,.pass (x:=.inLoop c) rfl (fun _ _=>.inl (by simp)) jS⟩
     | ret=>exact ⟨_,mn,mo,hq,.pass (x:=.inLoop c) rfl (fun _ _=>.inl (by simp)) jS⟩
     | panic ch=>exact ⟨_,mn,mo,hq,.pass (x:=.inLoop c) rfl (fun _ _=>.inl (by simp)) jS⟩
     | outgrown=>exact ⟨_,mn,mo,hq,.pass (x:=.inLoop c) rfl (fun _ _=>.inl (by simp)) jS⟩
   intro b k cs m6 hb cU
   obtain ⟨e,a',w',hq,jS⟩:=key m ν t H a w hi hm b k cs m6 hb cU
   exact ⟨e,a',w',hq,.of_steps (.one (fenced_calm hb cU rfl) stepR_loop) jS⟩
 | exit id=>exact fun hE bO fE=>fun hi h _ hx _=>wpIn_exit (hx _ _ _ _ _ _ hi h)
 | ret=>exact fun hE bO fE=>fun hi h _ _ hr=>wpIn_ret (hr _ _ _ _ _ hi h)
 | rangeFunc g ps assign body iha ihb =>
  intro E r n F hE bO fE ν t H a w kn kx kr Q hi h hn hx hr
  unfold vc at h
  split at h
  ·exact h.elim
  rename_i ab9
  obtain rfl:=fE ab9
  obtain ⟨gv,h,hg⟩:=kz h (hi.me g)
  split at h
  ·rename_i f xa ya
   split at h
   ·rename_i I uK hI
    obtain ⟨zs,H9,eG,hz,nR⟩:=hg.re
    rw [uK] at hz
    have oK:=hz.iP
    subst oK
    have O5:=hE.HP f I hI
    refine wpIn_rangeFunc ?_
    intro fn hfn
    obtain ⟨W1,zn⟩:∃ W1,W1=(w.alloc (.deferred (some []))).alloc (.loop { state:=.ready,pending:=none,fn,tmps:=a.tmps,params:=ps,assign,body,defers:=w.heap.size }):=⟨_,rfl⟩
    refine ⟨w.heap.size+1,[{ target:=.collected w.heap.size,args:=#[] }],W1,{ target:=.fn (.func f) ⟨H9⟩,args:=#[.func (.yield (w.heap.size+1)) #[] #[]] },W1,f,
     #[.func (.yield (w.heap.size+1)) #[] #[]]++⟨H9⟩,W1,by rw [zn]; exact run_enterLoop_outer _ _ _ _ _,?_,fun _ _=>trivial,?_,fun h=>by simp [WF,Fence.wide] at h,?_⟩
    ·simp only [resolve,eG]
     simp [go_sem]
    ·simp [invoke,go_sem,O5.enters]
    -- the record's block
    have mN:ν H.length=none:=hi.fr _ (Nat.le_refl _)
    obtain ⟨dR,ui⟩:∃ dR,dR=ν.add H.length ⟨w.heap.size+1,0,0,0⟩:=⟨_,rfl⟩
    have rU:ν.le dR:=by rw [ui]; exact Nu.j6 mN
    have h:=xD (lX (h (w.heap.size+1) dR fn a.tmps w.heap.size))
    have Hi:Below w.heap.size w W1:=by
     rw [zn]; exact ((Below.refl _ w).alloc (Nat.le_refl _) _).alloc (by simp) _
    have bn:W1.heap.size=w.heap.size+2:=by rw [zn]; simp
    have Ck:W1.heap[w.heap.size+1]?=some (.loop { state:=.ready,pending:=none,fn,tmps:=a.tmps,params:=ps,assign,body,defers:=w.heap.size }):=by
     rw [zn]; have:=World.alloc_heap_new (w.alloc (.deferred (some []))) (.loop { state:=.ready,pending:=none,fn,tmps:=a.tmps,params:=ps,assign,body,defers:=w.heap.size }); rwa [World.size_alloc] at this
    have aaF:W1.heap[w.heap.size]?=some (.deferred (some [])):=by
     rw [zn]; exact (Below.heap_alloc _ _ _ (by simp)).trans (World.alloc_heap_new w _)
    have kl:bT dR (H++[some (.cm { state:=.ready,pending:=none,fn,tmps:=a.tmps,params:=ps,assign,body,defers:=w.heap.size })]) W1:=by
     rw [ui]
     refine hi.hp.push (b:=.cm { state:=.ready,pending:=none,fn,tmps:=a.tmps,params:=ps,assign,body,defers:=w.heap.size }) Hi mN _ (fun j c hj=>?_) (by simp) ⟨rfl,fun r hr=>absurd hr (Nat.not_lt_zero r),fun r hr=>absurd hr (Nat.not_lt_zero r),(fun h=>nomatch h),fun r hr=>absurd hr (Nat.not_lt_zero r),(fun _ h=>nomatch h),fun r hr=>by cases hr; exact Ck,by rw [bn]; simp⟩
     rw [List.getElem?_append] at hj
     split at hj
     ·rename_i ak
      exact .inr ⟨by omega,hj⟩
     ·rename_i eG
      have:j - H.length=0:=by
       rcases Nat.eq_zero_or_pos (j - H.length) with e | e
       ·exact e
       ·rw [List.getElem?_eq_none (by simp; omega)] at hj; cases hj
      rw [this] at hj
      simp at hj
      exact .inl ⟨by omega,hj.symm⟩
    have aca:∀ id,(H++[some (ai.cm { state:=.ready,pending:=none,fn,tmps:=a.tmps,params:=ps,assign,body,defers:=w.heap.size })]).length≤id→dR id=none:=fun id bu=>by
     rw [List.length_append] at bu
     rw [ui,Nu.iQ (by simp at bu; omega)]
     exact hi.fr id (by simp at bu; omega)
    have ny:bh dR (.func (.yield (w.heap.size+1)) #[] #[]::ya.toList) (#[Value.func (.yield (w.heap.size+1)) #[] #[]]++(⟨H9⟩:Array Value)).toList:=by
     simp only [Array.toList_append]
     exact .cons (.func _ [] [] [] [] rfl (fun i x y hx _=>by simp at hx) rfl (fun i x y hx _=>by simp at hx)) (nR.mono rU)
    have CN:dR H.length=some ⟨w.heap.size+1,0,0,0⟩:=by rw [ui]; exact Nu.add_same
    refine (O5.calls _ _ dR ?_ _ _ _ h dR _ W1 (n - 1) (tE dR (H++[some (.cm { state:=.ready,pending:=none,fn,tmps:=a.tmps,params:=ps,assign,body,defers:=w.heap.size })])) (fun _ _ h=>h) ny kl aca (fun id b l h1 J h3=>⟨id,b,l,h1,J,h3,rfl⟩)).mono ?_
    ·intro xs Hy K hG uL as wy m O Hj m7 O6 Cl aaG
     obtain ⟨by0,acb,hG⟩:=gA hG
     split at hG
     ·rename_i ry
      obtain ⟨rfl,hG⟩:=hG
      obtain ⟨ly,Ia,hBy⟩:=O6.aH _ _ acb
      have Oj:=Hj _ _ CN
      rw [Ia] at Oj; cases Oj
      have aaH:=hBy.lr _ rfl
      obtain ⟨hlen,t1,hG,ht1⟩:=Kk hG
      have hG:=lX hG
      have Cm:(⟨as⟩:Array Value).size=ps.size:=by
       have:=m7.1
       simp at this ⊢
       simpa [this] using hlen.symm
      refine ⟨fn,_,assign,body,run_yield aaH Cm,roundIn_of_wpIn trivial ?_⟩
      have O7:jQ P { E with base:=Hy.length,rd:=true }:=⟨⟨hE.ty,hE.eq,hE.fn,hE.ft⟩,hE.HP,hE.ys⟩
      have O8:kN ⟨wy,O,uL,Hy.length,Cl⟩ { E with base:=Hy.length,rd:=true }:=⟨Nat.le_refl _,Nu.le_trans bO.nu (Nu.le_trans hi.mono (Nu.le_trans rU Hj))⟩
      have g0:bC ⟨wy,O,uL,Hy.length,Cl⟩ uL t1 Hy { tmps:=(ps.zip ⟨as⟩).foldl (fun tmps (t,a)=>tmps.setIfInBounds t a) a.tmps,defers:=[] } wy:=by
       refine ⟨?_,Marks.nil _ _,O6,Cl,Kept.refl wy,fun id b l h1 J h3=>.inl (aaG id b l h1 J h3),uL.le_refl⟩
       have:=ht1 uL a.tmps as (hi.tm.mono (Nu.le_trans rU Hj)) m7
       rw [← Array.foldl_toList]
       simpa using this
      refine iha (r:=some (w.heap.size+1)) O7 O8 (fun h=>by cases h) g0 hG ?_ (fun _ _ _ _ _ _ _ h=>h.elim) (fun _ _ _ _ _ _ h=>h.elim)
      intro ν5 t5 H5 a5 w5 Ib h5
      obtain ⟨b5,O9,h5⟩:=gA h5
      split at h5
      ·rename_i r5
       obtain ⟨rfl,h5⟩:=h5
       obtain ⟨ac4,h5⟩:=lW h5
       obtain ⟨l5,Pa,hB5⟩:=Ib.hp.aH _ _ O9
       have Ok:=Ib.mono _ _ Ia
       rw [Pa] at Ok; cases Ok
       have aaI:=hB5.lr _ rfl
       refine ⟨_,run_beginRound aaI rfl,?_⟩
       have hi6:=Ib.Mu { state:=.busy,pending:=none,fn,tmps:=a.tmps,params:=ps,assign,body,defers:=w.heap.size } O9 Pa
       have fin:∀ (jump:Option Code) Ic t7 H7 a7 w7,bC ⟨wy,O,uL,Hy.length,Cl⟩ Ic t7 H7 a7 w7→BQ (fun s p=>⟨s,p,fn,a.tmps,ps,assign,body,w.heap.size⟩) H.length jump K H7 →
         ∃ v w',(Instr.endRound (w.heap.size+1) jump).run P w7=.ok v w'∧F0 K uL O wy (.returned v) w':=by
        intro jump Ic t7 H7 a7 w7 Ie h7
        obtain ⟨b7,Pb,h7⟩:=gA h7
        split at h7
        ·rename_i r7
         obtain ⟨rfl,h7⟩:=h7
         obtain ⟨ac5,h7⟩:=lW h7
         obtain ⟨l7,Pc,hB7⟩:=Ie.hp.aH _ _ Pb
         have Ol:=Ie.mono _ _ Ia
         rw [Pc] at Ol; cases Ol
         have aaJ:=hB7.lr _ rfl
         have he:=run_endRound (P:=P) jump aaJ
         refine ⟨_,_,he,?_⟩
         have zo:=Ie.Mu { state:=if jump.isNone then .ready else .done,pending:=jump,fn,tmps:=a.tmps,params:=ps,assign,body,defers:=w.heap.size } Pb Pc
         refine ⟨.bool jump.isNone,_,Ic,_,rfl,?_,.bool _,zo.mono,zo.hp,zo.fr,zo.kp,zo.own⟩
         cases jump <;> exact h7
        ·exact h7.elim
       refine ihb (r:=some (w.heap.size+1)) O7 O8 (fun h=>by cases h) hi6 h5 (fun ν t H a w hi h=>fin none _ _ _ _ _ hi h) (fun i ν t H a w hi h=>fin (some (.exit i)) _ _ _ _ _ hi h) (fun ν t H a w hi h=>fin (some .ret) _ _ _ _ _ hi h)
      ·exact h5.elim
     ·exact hG.elim
    ·rintro e w3 ⟨v,v',ν3,H3,rfl,h3,Ig,Hk,CO,acd,Om,aaK⟩
     obtain ⟨b3,sF,h3⟩:=gA h3
     split at h3
     ·rename_i r3
      obtain ⟨ace,h3⟩:=lW h3
      obtain ⟨l3,Pd,hB3⟩:=CO.aH _ _ sF
      have On:=Hk _ _ CN
      rw [Pd] at On; cases On
      have Gy:w3.heap[w.heap.size+1]?=some (.loop r3):=hB3.lr r3 rfl
      have ak:w.heap.size+1 < w3.heap.size:=(Array.getElem?_eq_some_iff.1 Gy).1
      have CP:bC F ν3 t (H3.set H.length none) { a with defers:=[{ target:=.collected w.heap.size,args:=#[] }]++a.defers } (w3.putObj (w.heap.size+1) (.loop { r3 with state:=.exhausted })):=by
       have Gz:∀ x,tE dR (H++[some (.cm { state:=.ready,pending:=none,fn,tmps:=a.tmps,params:=ps,assign,body,defers:=w.heap.size })]) x→(F.O x∨F.W.heap.size≤x)∧W1.heap[x]?≠some (.deferred (some [])):=by
        rintro x ⟨id,c,l,h1,J,h3,rfl⟩
        obtain ⟨l',h4,hB⟩:=kl.aH id c h1
        rw [h3] at h4; cases h4
        refine ⟨?_,fun hd=>?_⟩
        ·by_cases bu:id < H.length
         ·rw [List.getElem?_append_left bu] at h1
          rw [ui,Nu.iQ (by omega)] at h3
          exact hi.own id c l h1 J h3
         ·have:id=H.length:=by
           have:=(List.getElem?_eq_some_iff.1 h1).1
           simp at this; omega
          subst this
          rw [CN] at h3; cases h3
          exact .inr (by have:=hi.kp.size; show _≤w.heap.size+1; omega)
        ·cases hr:c.rc with
         | none=>obtain ⟨cur,tt,h5,_⟩:=hB.own J hr; rw [h5] at hd; cases hd
         | some r=>rw [hB.lr r hr] at hd; cases hd
       have NJ:∀ D:Nat,W1.heap[D]?=some (Obj.deferred (some []))→(w3.putObj (w.heap.size+1) (.loop { r3 with state:=.exhausted })).heap[D]?=some (Obj.deferred (some [])):=fun D hD=>by
        have Ih:=(Om.aH D (Array.getElem?_eq_some_iff.1 hD).1 (fun h=>(Gz D h).2 hD)).trans hD
        exact (World.putObj_heap_other (fun e=>by rw [e,Gy] at Ih; cases Ih)).trans Ih
       have di:∀ (id:Nat) (b:ai),(H3.set H.length none)[id]?=some (some b)→id≠H.length∧H3[id]?=some (some b):=fun id b hb=>by
        by_cases e:id=H.length
        ·subst e; rw [List.getElem?_set_self ace] at hb; cases hb
        ·rw [List.getElem?_set_ne (Ne.symm e)] at hb; exact ⟨e,hb⟩
       refine ⟨hi.tm.mono (Nu.le_trans rU Hk),?_,⟨fun id b hb=>?_,fun i j bi bj li lj h1 J=>?_⟩,fun id bu=>acd id (by simpa using bu),?_,fun id b l hb ho hl=>?_,Nu.le_trans hi.mono (Nu.le_trans rU Hk)⟩
       ·refine ⟨List.nodup_cons.2 ⟨fun hm=>?_,hi.df.1⟩,fun d hd=>?_⟩
        ·obtain ⟨D,e,_,hD⟩:=hi.df.2 _ hm
         have:=(Array.getElem?_eq_some_iff.1 hD).1
         cases e
         omega
        ·rcases List.mem_cons.1 hd with rfl | hd
         ·exact ⟨_,rfl,hi.kp.size,NJ _ aaF⟩
         ·obtain ⟨D,e,h0,hD⟩:=hi.df.2 d hd
          exact ⟨D,e,h0,NJ D ((Hi.block D (Array.getElem?_eq_some_iff.1 hD).1).trans hD)⟩
       ·obtain ⟨aK,hb⟩:=di id b hb
        obtain ⟨l,hl,hB⟩:=CO.aH id b hb
        have G8:=CO.sep _ id _ b _ l sF hb (Ne.symm aK) rfl Pd hl
        exact ⟨l,hl,hB.same (World.putObj_heap_other (Ne.symm G8)) (by simp)⟩
       ·exact CO.sep i j bi bj li lj (di i bi h1).2 (di j bj J).2
       ·refine (hi.kp.below Hi).then (Om.then (O':=fun x=>x=w.heap.size+1) ⟨rfl,rfl,rfl,by simp,fun b h1 J=>World.putObj_heap_other J⟩ (fun b hb=>.inl (by subst hb; exact ⟨H.length,.cm { state:=.ready,pending:=none,fn,tmps:=a.tmps,params:=ps,assign,body,defers:=w.heap.size },_,by simp,rfl,CN,rfl⟩))) (fun b hb=>(Gz b hb).1)
       ·rcases aaK id b l (di id b hb).2 ho hl with h | h
        ·exact (Gz _ h).1
        ·exact .inr (by have:=hi.kp.size; omega)
      by_cases NK:r3.state=.busy
      ·rw [NK] at h3; exact h3.elim
      ·have he:=run_endLoop (P:=P) Gy NK
       generalize w3.putObj (w.heap.size+1) (.loop { r3 with state:=.exhausted })=w4 at CP he
       refine ⟨r3.pending,w4,he,?_⟩
       clear he
       have pick:∀ {X:Prop},(match r3.state,r3.pending with
        | .busy,_=>False
        | _,none=>kn t (H3.set H.length none)
        | _,some (.exit i)=>kx i t (H3.set H.length none)
        | _,some .ret=>kr t (H3.set H.length none)
        | _,_=>False)→(∀ s,(match (generalizing:=false) s,r3.pending with
        | LoopState.busy,_=>False
        | _,none=>kn t (H3.set H.length none)
        | _,some (.exit i)=>kx i t (H3.set H.length none)
        | _,some .ret=>kr t (H3.set H.length none)
        | _,_=>False)→X)→X:=fun h k=>k _ h
       refine pick h3 fun s h3=>?_
       cases hp:r3.pending with
       | none =>
        rw [hp] at h3
        cases s <;> first | exact h3.elim | exact hn _ _ _ _ _ CP h3
       | some c =>
        rw [hp] at h3
        cases c <;> cases s <;> first | exact h3.elim | exact wpIn_exit (hx _ _ _ _ _ _ CP h3) | exact wpIn_ret (hr _ _ _ _ _ CP h3)
     ·exact h3.elim
   ·exact h.elim
  ·exact h.elim
 | _=>exact fun _ _ _=>fun _ h _ _ _=>h.elim
def yC (tmps:Array Value):ResultVar→Sem Value
 | .tmp t=>pure (tmps.getD t undef)
 | .cell x t=>do loadVar t (← asAddr (tmps.getD x undef))
theorem Rq (fn:Func) (tmps:Array Value):results fn tmps=(do let vs ← fn.results.mapM (yC tmps); pure (if h:vs.size=1 then vs[0] else .tuple vs)):=rfl
theorem Rr (a:Addr):asAddr (.pointer (some a))=pure a:=rfl
theorem Dj (hE:jQ P E) {ν:Nu} {tmps:List Value} {H:ax} {a:Act} {w:World} (hi:bC F ν tmps H a w):∀ {l:List ResultVar} {k:List Value→Prop},vG E H tmps l k →
  ∃ vs gd,k vs∧bh ν vs gd∧(l.mapM (yC a.tmps)).run P w=.ok gd w
 | [],k,h=>⟨[],[],h,.nil ν,rfl⟩
 | .tmp t::l,k,h=>by
  obtain ⟨v,hv,h⟩:=od h
  obtain ⟨v',uG,hr⟩:=hi.tm.get hv
  obtain ⟨vs,gd,h1,J,h3⟩:=Dj hE hi h
  have e:a.tmps.getD t undef=v':=by
   have:a.tmps[t]?=some v':=by simpa using uG
   simp [this]
  exact ⟨v::vs,v'::gd,h1,.cons hr J,by simp only [List.mapM_cons,yC,Sem.run_bind,Sem.run_pure,Result.andThen_ok,h3,e]⟩
 | .cell x t::l,k,h=>by
  obtain ⟨v,hv,h⟩:=od h
  obtain ⟨v',uG,hr⟩:=hi.tm.get hv
  split at h
  ·rename_i id row sp
   obtain ⟨ti,ht,h⟩:=cT h
   obtain ⟨b,hb,h⟩:=gA h
   obtain ⟨a9,h⟩:=KP h
   obtain ⟨us,h,hl,si⟩:=xC h
   obtain ⟨lc,dK,hB⟩:=hi.hp.aH id b hb
   obtain ⟨lc',Oo,he⟩:=hr.om
   rw [dK] at Oo; cases Oo
   obtain ⟨us',h1,J,h3⟩:=J9 hB a9 hl si
   obtain ⟨vs,gd,k1,k2,k3⟩:=Dj hE hi h
   have e:a.tmps.getD x undef=v':=by
    have:a.tmps[x]?=some v':=by simpa using uG
    simp [this]
   refine ⟨_,_::gd,k1,.cons (DY h1) k2,?_⟩
   simp only [List.mapM_cons,yC,Sem.run_bind,Result.andThen_ok,e,he,Rr,Sem.run_pure,Jo (hE.ty _ _ ht) J h3,k3]
  ·exact h.elim
/-- Blocks of deferred calls have been shut; all else is as it was. -/
structure nH (n0:Nat) (w w':World):Prop where
 os:w'.os=w.os
 tape:w'.tape=w.tape
 output:w'.output=w.output
 size:w'.heap.size=w.heap.size
 low:∀ q:Nat,q < n0→w'.heap[q]?=w.heap[q]?
 same:∀ (q:Nat) (o:Obj),(∀ c,o≠.deferred c)→w.heap[q]?=some o→w'.heap[q]?=some o
theorem nH.refl (n0:Nat) (w:World):nH n0 w w:=⟨rfl,rfl,rfl,rfl,fun _ _=>rfl,fun _ _ _ h=>h⟩
theorem nH.trans {n0:Nat} {w w' Pe:World} (h:nH n0 w w') (k:nH n0 w' Pe):nH n0 w Pe :=
 ⟨k.os.trans h.os,k.tape.trans h.tape,k.output.trans h.output,k.size.trans h.size,fun q hq=>(k.low q hq).trans (h.low q hq),fun q o ho hq=>k.same q o ho (h.same q o ho hq)⟩
theorem T2 {n0 D:Nat} {w:World} (hD:w.heap[D]?=some (Obj.deferred (some []))) (h0:n0≤D):nH n0 w (w.putObj D (.deferred none)) :=
 ⟨rfl,rfl,rfl,by simp,fun q hq=>World.putObj_heap_other (by omega),fun q o ho hq=>(World.putObj_heap_other (fun e=>by subst e; rw [hD] at hq; cases hq; exact ho _ rfl)).trans hq⟩
theorem Jt {fn:Func} {tmps:Array Value} {R:Ending→World→Prop} {n0:Nat}:∀ (ds:List Deferred) (w:World),Marks n0 ds w→(∀ w',nH n0 w w'→∃ v,(results fn tmps).run P w'=.ok v w'∧R (.returned v) w')→LeavesInM Fence.wide n P fn tmps R ds .returning w
 | [],w,_,h=>h w (nH.refl n0 w)
 | d::ds,w,hm,h=>by
  obtain ⟨D,rfl,h0,hD⟩:=hm.2 d (List.mem_cons_self ..)
  have my:=List.nodup_cons.1 hm.1
  refine ⟨by simp,.inl ⟨D,w.putObj D (.deferred none),rfl,run_takeDeferred hD,?_⟩⟩
  refine Jt ds _ ⟨my.2,fun e he=>?_⟩ fun w' hw'=>h w' ((T2 hD h0).trans hw')
  obtain ⟨D',rfl,h1,zt⟩:=hm.2 e (List.mem_cons_of_mem _ he)
  exact ⟨D',rfl,h1,(World.putObj_heap_other (fun e2=>my.1 (by rw [← e2]; exact he))).trans zt⟩
theorem bQ.shut {ν:Nu} {l:Loc} {b:ai} {n0:Nat} {w w':World} (h:bQ ν l b w) (hs:nH n0 w w'):bQ ν l b w':=by
 refine ⟨h.ah,h.len,fun r hr j v hv=>?_,h.plain,h.one,fun ho hc=>?_,fun r hr=>hs.same _ _ (fun c=>by simp) (h.lr r hr),by rw [hs.size]; exact h.live⟩
 ·obtain ⟨v',h1,J⟩:=h.cell r hr j v hv
  refine ⟨v',?_,J⟩
  have h3:=h1
  unfold World.cell? at h3
  cases ho:w.heap[(l.at r j).block]? with
  | none=>simp [ho] at h3
  | some o =>
   have:∀ c,o≠Obj.deferred c:=fun c e=>by subst e; simp [ho] at h3
   rw [World.cell?_of_block (a:=l.at r j) ((hs.same _ _ this ho).trans ho.symm)]
   exact h1
 ·obtain ⟨cur,t,h1,J⟩:=h.own ho hc
  exact ⟨cur,t,hs.same _ _ (fun c=>by simp) h1,J⟩
theorem bT.shut {ν:Nu} {H:ax} {n0:Nat} {w w':World} (h:bT ν H w) (hs:nH n0 w w'):bT ν H w' :=
 ⟨fun id b hi=>let ⟨l,h1,J⟩:=h.aH id b hi; ⟨l,h1,J.shut hs⟩,h.sep⟩
/-- The evaluation of a whole function. -/
def cI (E:Env) (D:Env→List Oper→List Value→ax→SK→Prop) (fn:Func) (args:List Value) (H:ax) (K:Value→ax→Prop):Prop :=
 match fn.body with
 | some c=>js H fun n0=>pR args (List.replicate (fn.ntmps - args.length) undef) fun t0 =>
  vc { E with base:=n0 } D c t0 H (fun t H=>vG { E with base:=n0 } H t fn.results.toList fun vs=>Cj vs fun v=>K v H) (fun _ _ _=>False) (fun t H=>vG { E with base:=n0 } H t fn.results.toList fun vs=>Cj vs fun v=>K v H)
 | none=>False
theorem jQ.at {E:Env} (hE:jQ P E) (n0:Nat):jQ P { E with base:=n0 }:=⟨⟨hE.ty,hE.eq,hE.fn,hE.ft⟩,hE.HP,hE.ys⟩
theorem xQ (hE:jQ P E) (hD:m5 P D) {f:FuncId} {fn:Func} (hf:P.funcs[f]?=some fn) {args as:List Value} {H:ax} {ν:Nu} {w:World} {O:Nat→Prop} {K:Value→ax→Prop} {n:Nat}
  (h:cI E D fn args H K) (ha:bh ν args as) (hH:bT ν H w) (gp:∀ id,H.length≤id→ν id=none)
  (kg:∀ id b l,H[id]?=some (some b)→b.own=true→ν id=some l→O l.aH) (hnu:E.nu.le ν) {R:Ending→World→Prop}
  (hR:∀ aj v v' t H' a w',bC ⟨w,O,ν,H.length,gp⟩ aj t H' a w'→K v H'→an aj v v'→R (.returned v') w'):CallsIn Fence.wide n P f ⟨as⟩ w R:=by
 unfold cI at h
 split at h
 ·rename_i c hc
  have h:=vv (lX h)
  refine callsIn_of_wp_marks hf hc trivial ?_
  have hi:bC ⟨w,O,ν,H.length,gp⟩ ν (args++List.replicate (fn.ntmps - args.length) undef) H { tmps:=(⟨as⟩:Array Value)++Array.replicate (fn.ntmps - (⟨as⟩:Array Value).size) undef,defers:=[] } w:=by
   refine ⟨?_,Marks.nil _ _,hH,gp,Kept.refl w,fun id b l h1 J h3=>.inl (kg id b l h1 J h3),ν.le_refl⟩
   have e:((⟨as⟩:Array Value)++Array.replicate (fn.ntmps - (⟨as⟩:Array Value).size) undef).toList=as++List.replicate (fn.ntmps - args.length) undef:=by
    simp [ha.1]
   rw [e]
   refine ha.append ⟨rfl,fun i x y hx hy=>?_⟩
   rw [hx] at hy; cases hy
   have:=List.mem_of_getElem? hx
   simp at this
   rw [this.2]; exact .undef ν
  have Pf:=hE.at H.length
  have fin:∀ aj t H' a w',bC ⟨w,O,ν,H.length,gp⟩ aj t H' a w'→(vG { E with base:=H.length } H' t fn.results.toList fun vs=>Cj vs fun v=>K v H')→LeavesInM Fence.wide n P fn a.tmps R a.defers .returning w':=by
   intro aj t H' a w' gz h'
   refine Jt a.defers w' gz.df fun w2 hs=>?_
   have aP:bC ⟨w,O,ν,H.length,gp⟩ aj t H' { tmps:=a.tmps,defers:=[] } w2 :=
    ⟨gz.tm,Marks.nil _ _,gz.hp.shut hs,gz.fr,⟨hs.os.trans gz.kp.os,hs.tape.trans gz.kp.tape,hs.output.trans gz.kp.output,by rw [hs.size]; exact gz.kp.size,fun b h1 J=>(hs.low b h1).trans (gz.kp.aH b h1 J)⟩,gz.own,gz.mono⟩
   obtain ⟨vs,gd,h1,J,h3⟩:=Dj Pf aP h'
   have acf:(fn.results.mapM (yC a.tmps)).run P w2=.ok ⟨gd⟩ w2:=by
    rw [Array.mapM_eq_mapM_toList]
    simp only [Sem.run_map,h3,Result.andThen_ok]
   rw [Rq]
   simp only [Sem.run_bind,acf,Result.andThen_ok,Sem.run_pure]
   refine ⟨_,rfl,?_⟩
   unfold Cj at h1
   split at h1
   ·rename_i v
    obtain ⟨y,ys,rfl,k1,k2⟩:=J.jg
    rw [k2.iP]
    exact hR _ _ _ _ _ _ _ aP h1 k1
   ·rename_i aK
    have hlen:¬ ((⟨gd⟩:Array Value).size=1):=by
     intro e
     have:vs.length=1:=by rw [J.1]; exact e
     obtain ⟨v,rfl⟩:=List.length_eq_one_iff.1 this
     exact aK v rfl
    rw [dif_neg hlen]
    exact hR _ _ _ _ _ _ _ aP h1 (.tuple _ _ J.1 J.2)
  exact T1 hD c (r:=none) (F:=⟨w,O,ν,H.length,gp⟩) Pf ⟨Nat.le_refl _,hnu⟩ (fun _=>rfl) hi h (fun ν t H a w' aP h'=>fin ν t H a w' aP h') (fun _ _ _ _ _ _ _ h'=>h'.elim) (fun ν t H a w' aP h'=>fin ν t H a w' aP h')
 ·exact h.elim
theorem Bc {E:Env} {ν:Nu} (h:E.nu=fun _=>none):E.nu.le ν:=by rw [h]; exact fun _ _ h=>nomatch h
/-- A contract without blocks out of the evaluation. -/
theorem bt {S:bG} (hE:EnvOk P E) (hD:m5 P D) {f:FuncId} {fn:Func} (hf:P.funcs[f]?=some fn) (nN:∀ args w,(callFunc f args).run P w=.ok (.enter f args) w)
  (ha:∀ i,AG (S.args i)=true) (hv:∀ i,Bx (S.val i)=true) (h:∀ i,S.pre i→cI E D fn (S.args i) [] fun v _=>v=S.val i)
  (hI:ie P E:=by exact ie.none rfl) (hy:E.ys=[]:=by rfl) (hu:E.nu=(fun _=>none):=by rfl):bm P f S:=by
 refine ⟨nN,fun i hp ν as w n has=>?_⟩
 have e:=(Di (ha i)).2 ν as has
 subst e
 refine xQ (O:=fun _=>False) (ν:=fun _=>none) (hE.x hI hy) hD hf (h i hp) ((Di (ha i)).1 _) ⟨fun id b hb=>by simp at hb,fun i j bi bj li lj hi=>by simp at hi⟩ (fun _ _=>rfl) (fun id b l hb=>by simp at hb) (Bc hu) ?_
 rintro aj v v' t H a w' hi rfl hr
 exact ⟨v',rfl,by rw [(Dw (hv i)).2 _ _ hr]; exact (Dw (hv i)).1 ν,⟨hi.kp.os,hi.kp.tape,hi.kp.output,hi.kp.size,fun k hk=>hi.kp.aH k hk (fun h=>h)⟩⟩
/-- A function walked through where it is called. -/
theorem jn (hE:EnvOk P E) (hD:m5 P D) {f:FuncId} {fn:Func} (hf:P.funcs[f]?=some fn) (nN:∀ args w,(callFunc f args).run P w=.ok (.enter f args) w)
  (hI:ie P E:=by exact ie.none rfl) (hy:E.ys=[]:=by rfl) (hu:E.nu=(fun _=>none):=by rfl):gl P f (cI E D fn):=by
 refine ⟨nN,fun args H K h ν as w n O ha hH gp kg=>xQ (hE.x hI hy) hD hf h ha hH gp kg (Bc hu) ?_⟩
 intro aj v v' t H' a w' hi hk hv
 exact ⟨v,v',aj,H',rfl,hk,hv,hi.mono,hi.hp,hi.fr,hi.kp,hi.own⟩
/-- An iterator walked through where it is ranged over. -/
theorem NL (hE:EnvOk P E) (hD:m5 P D) {f:FuncId} {fn:Func} (hf:P.funcs[f]?=some fn) (nN:∀ args w,(callFunc f args).run P w=.ok (.enter f args) w)
  (hI:ie P E:=by exact ie.none rfl):yO P f (fun l G nu=>cI { E with ys:=[(l,G)],nu:=nu } D fn):=by
 refine ⟨nN,fun l G bw hY args H K h ν as w n O hle ha hH gp kg=>?_⟩
 refine xQ (E:={ E with ys:=[(l,G)],nu:=bw }) ⟨⟨hE.ty,hE.eq,hE.fn,hE.ft⟩,hI,fun l' G' r e=>by cases e; exact hY⟩ hD hf h ha hH gp kg hle ?_
 intro aj v v' t H' a w' hi hk hv
 exact ⟨v,v',aj,H',rfl,hk,hv,hi.mono,hi.hp,hi.fr,hi.kp,hi.own⟩
end
end Go.Ae
/- A table of types, checked by evaluation. -/
namespace Go.Ae
open Go Go.RowKit
def D7:Value→Bool
 | .bool _ | .int _ _ | .string _ | .pointer none | .nilFunc=>true
 | .slice none 0 0=>true
 | _=>false
theorem Qe {v:Value} (h:D7 v=true):(∀ ν,an ν v v)∧v.oneCell'=true:=by
 unfold D7 at h
 split at h
 ·exact ⟨fun ν=>.bool _,rfl⟩
 ·exact ⟨fun ν=>.int _ _,rfl⟩
 ·exact ⟨fun ν=>.str _,rfl⟩
 ·exact ⟨fun ν=>.mg,rfl⟩
 ·exact ⟨fun ν=>.mh,rfl⟩
 ·exact ⟨fun ν=>.iF,rfl⟩
 ·cases h
def Aw:List Value→Bool
 | []=>true
 | v::l=>D7 v && Aw l
theorem Jf:∀ {l:List Value},Aw l=true→(∀ ν,bh ν l l)∧∀ v∈l,v.oneCell'=true
 | [],_=>⟨fun ν=>.nil ν,fun v hv=>by simp at hv⟩
 | v::l,h=>by
  simp only [Aw,Bool.and_eq_true] at h
  obtain ⟨h1,J⟩:=Qe h.1
  obtain ⟨h3,h4⟩:=Jf h.2
  exact ⟨fun ν=>.cons (h1 ν) (h3 ν),fun u hu=>by
   rcases List.mem_cons.1 hu with e | e
   ·rw [e]; exact J
   ·exact h4 u e⟩
def vS (P:Program):List Field→List (Nat × Nat × Bool)→Bool
 | [],[]=>true
 | f::l,x::m=>Nat.beq f.offset x.1 && Nat.ble 1 x.2.1 && (match P.info? f.type with | some i=>Nat.beq i.size x.2.1 | none=>false) &&
  (match P.underlying f.type with | some d=>(tC d == x.2.2) | none=>false) && vS P l m
 | _,_=>false
theorem Ju {P:Program}:∀ {l:List Field} {m:List (Nat × Nat × Bool)},vS P l m=true→l.length=m.length∧∀ (i:Nat) f x,l[i]?=some f→m[i]?=some x→x0 P f x
 | [],[],_=>⟨rfl,fun i f x h=>by simp at h⟩
 | f::l,x::m,h=>by
  simp only [vS,Bool.and_eq_true] at h
  obtain ⟨⟨⟨⟨h1,J⟩,h3⟩,h4⟩,h5⟩:=h
  obtain ⟨k1,k2⟩:=Ju h5
  refine ⟨by simp [k1],fun i g y hg hy=>?_⟩
  cases i with
  | zero =>
   simp at hg hy
   subst hg; subst hy
   refine ⟨Nat.eq_of_beq_eq_true h1,Nat.le_of_ble_eq_true J,?_,?_⟩
   ·split at h3
    ·exact ⟨_,by assumption,Nat.eq_of_beq_eq_true h3⟩
    ·cases h3
   ·split at h4
    ·exact ⟨_,by assumption,by simpa using h4⟩
    ·cases h4
  | succ i=>exact k2 i g y (by simpa using hg) (by simpa using hy)
 | [],_::_,h=>by simp [vS] at h
 | _::_,[],h=>by simp [vS] at h
def GC (P:Program) (t:TypeId) (k:TK):Bool :=
 match k,P.underlying t with
 | .int q,some (.int q')=>decide (q=q')
 | .bool,some .bool=>true
 | .str,some .string=>true
 | .struct fs,some (.struct fields)=>vS P fields.toList fs
 | .slice e,some (.slice e')=>Nat.beq e e'
 | .array n e,some (.array n' e')=>Nat.beq n n' && Nat.beq e e'
 | .other,some d=>!tC d
 | _,_=>false
theorem Rs {P:Program} {t:TypeId} {k:TK} (h:GC P t k=true):∃ d,P.underlying t=some d∧CB P k d:=by
 unfold GC at h
 split at h
 ·exact ⟨_,by assumption,by rw [of_decide_eq_true h]; rfl⟩
 ·exact ⟨_,by assumption,rfl⟩
 ·exact ⟨_,by assumption,rfl⟩
 ·obtain ⟨h1,J⟩:=Ju h
  exact ⟨_,by assumption,_,rfl,by simpa using h1,fun i f x hf hx=>J i f x (by simpa using hf) hx⟩
 ·exact ⟨_,by assumption,by rw [Nat.eq_of_beq_eq_true h]; rfl⟩
 ·simp only [Bool.and_eq_true] at h
  exact ⟨_,by assumption,by rw [Nat.eq_of_beq_eq_true h.1,Nat.eq_of_beq_eq_true h.2]; rfl⟩
 ·exact ⟨_,by assumption,by simpa [CB] using h⟩
 ·cases h
def Nc (ti:TI):Bool:=Aw ti.zero && Nat.beq ti.zero.length ti.size && Nat.ble 1 ti.size && Nat.ble 1 ti.bytes
theorem aJ {P:Program} {t:TypeId} {ti:TI} (h1:(P.info? t).map (fun i=>(i.size,i.bytes,i.zero.map fun z=>z.cells.toList))=some (ti.size,ti.bytes,some ti.zero)) (J:GC P t ti.kind=true) (h3:Nc ti=true):aB P t ti:=by
 obtain ⟨i,hi,he⟩:=Option.map_eq_some_iff.1 h1
 simp only [Prod.mk.injEq] at he
 obtain ⟨e1,e2,e3⟩:=he
 obtain ⟨z,hz,nR⟩:=Option.map_eq_some_iff.1 e3
 simp only [Nc,Bool.and_eq_true] at h3
 obtain ⟨⟨⟨k1,k2⟩,k3⟩,k4⟩:=h3
 obtain ⟨k5,k6⟩:=Jf k1
 exact ⟨⟨i,hi,e1,e2,z,hz,Array.ext' nR⟩,Rs J,k5,Nat.eq_of_beq_eq_true k2,k6,Nat.le_of_ble_eq_true k3,Nat.le_of_ble_eq_true k4⟩
/-! ### '==' of structs -/
/-- The cells of a type, as its '==' goes through them: kinds, or a struct's fields. -/
inductive ET where
 | bool | int (k:IntKind) | str
 | struct (fs:List (Nat × ET))      -- each field's size and shape
end Go.Ae
/- Regions that draw their order: whatever order the machine takes, it comes to what the text's order gives, if the operations ahead of the last ones write nothing and each slot has its order. -/
namespace Go.Ae
open Go Go.RowKit
/-- The slots that an operation reads (its guard's too). -/
def iC:List Operand→List Tmp
 | []=>[]
 | .tmp t::l=>t::iC l
 | _::l=>iC l
theorem o4 {t:Tmp}:∀ {l:List Operand},Operand.tmp t∈l→t∈iC l
 | .tmp u::l,h=>by
  rcases List.mem_cons.1 h with e | e
  ·cases e; simp [iC]
  ·simp [iC,o4 e]
 | .const v::l,h=>by
  rcases List.mem_cons.1 h with e | e
  ·cases e
  ·simpa [iC] using o4 e
 | .global v::l,h=>by
  rcases List.mem_cons.1 h with e | e
  ·cases e
  ·simpa [iC] using o4 e
 | .func v::l,h=>by
  rcases List.mem_cons.1 h with e | e
  ·cases e
  ·simpa [iC] using o4 e
def je (ops:List Oper) (o:Oper):List Tmp :=
 iC o.op.operands.toList++(match o.guard with | some (j,_)=>(match (ops[j]?).bind (·.dst) with | some d=>[d] | none=>[]) | none=>[])
/-- The check, by evaluation. masks: for each operation some of those that must have gone before it. -/
def Bd (ops:List Oper) (aS:List (List Nat)):Bool :=
 (List.range ops.length).all fun j=>match ops[j]? with
  | some o=>(aS.getD j []).all fun i=>i < j && o.after.toList.any fun e=>Region.binds .any e && (e.on == i || ((aS.getD e.on []).contains i && decide (e.on < j)))
  | none=>true
def By (ops:List Oper) (m:Nat) (aS:List (List Nat)):Bool :=
 decide (m≤ops.length) && Bd ops aS &&
 (List.range ops.length).all (fun j=>match ops[j]? with
  | some o=>o.after.toList.all fun e=>!Region.binds .any e || decide (e.on < j)
  | none=>true) &&
 (List.range m).all (fun j=>match ops[j]? with
  | some o=>(List.range m).all fun i=>i == j || match ops[i]? with
   | some p=>match p.dst with
    | some d=>(o.dst != some d) && (!(je ops o).contains d || (aS.getD j []).contains i || (aS.getD i []).contains j)
    | none=>true
   | none=>true
  | none=>true) &&
 (List.range ops.length).all (fun j=>decide (j < m) || (List.range j).all fun i=>(aS.getD j []).contains i)
/-- New blocks of the operations that have gone before. -/
def k9:List (Option ai)→Nat→List Nat→(List (Option ai)→Prop)→Prop
 | [],_,_,k=>k []
 | b::S,i,mask,k=>match mask with
  | m::ms=>match Nat.beq m i with
   | true=>k9 S (i+1) ms fun S'=>k (b::S')
   | false=>k9 S (i+1) (m::ms) fun S'=>k (none::S')
  | []=>k9 S (i+1) [] fun S'=>k (none::S')
def m8:ax→List (Option ai)→(ax→Prop)→Prop
 | [],S,k=>k S
 | b::H,S,k=>m8 H S fun G=>k (b::G)
theorem s8:∀ {H:ax} {S:List (Option ai)} {k:ax→Prop},m8 H S k→k (H++S)
 | [],_,_,h=>h
 | _::H,S,k,h=>s8 (H:=H) h
def jo:List (Option ai)→Option ai→(List (Option ai)→Prop)→Prop
 | [],b,k=>k [b]
 | c::S,b,k=>jo S b fun S'=>k (c::S')
theorem sV:∀ {S:List (Option ai)} {b:Option ai} {k:List (Option ai)→Prop},jo S b k→k (S++[b])
 | [],_,_,h=>h
 | _::S,b,k,h=>sV (S:=S) h
def ld (E:Env) (ops:List Oper) (H:ax) (n0:Nat):List Oper→List (List Nat)→Nat→List Value→List (Option ai)→(List Value→List (Option ai)→Prop)→Prop
 | [],_,_,t,S,k=>k t S
 | o::l,mask::aS,j,t,S,k =>
  match o.guard with
  | none=>k9 S 0 mask fun Sm=>m8 H Sm fun G=>kM E o.op t G (n0+j) fun v nb=>dw t o.dst v fun t'=>jo S nb fun S'=>ld E ops H n0 l aS (j+1) t' S' k
  | some (g,want)=>match (ops[g]?).bind (·.dst) with
   | some d=>pQ t d fun v=>match v with
    | .bool b=>br (b == want)
      (k9 S 0 mask fun Sm=>m8 H Sm fun G=>kM E o.op t G (n0+j) fun v nb=>dw t o.dst v fun t'=>jo S nb fun S'=>ld E ops H n0 l aS (j+1) t' S' k)
      (dw t o.dst undef fun t'=>jo S none fun S'=>ld E ops H n0 l aS (j+1) t' S' k)
    | .tuple _=>dw t o.dst undef fun t'=>jo S none fun S'=>ld E ops H n0 l aS (j+1) t' S' k
    | _=>False
   | none=>False
 | _::_,[],_,_,_,_=>False
def tT:List Oper→Nat→(List Oper→List Oper→Prop)→Prop
 | l,0,k=>k [] l
 | [],_+1,_=>False
 | o::l,m+1,k=>tT l m fun a b=>k (o::a) b
theorem xH:∀ {l:List Oper} {m:Nat} {k:List Oper→List Oper→Prop},tT l m k→m≤l.length∧k (l.take m) (l.drop m)
 | l,0,_,h=>⟨by simp,by simpa [tT] using h⟩
 | [],_+1,_,h=>h.elim
 | o::l,m+1,k,h=>by
  obtain ⟨h1,J⟩:=xH (l:=l) h
  exact ⟨by simp; omega,by simpa using J⟩
/-- A region that draws. -/
def NM (E:Env) (ops:List Oper) (t:List Value) (H:ax) (k:SK):Prop :=
 ∃ (m:Nat) (aS:List (List Nat)),By ops m aS=true∧js H fun n0=>tT ops m fun hd tl=>ld E ops H n0 hd aS 0 t [] fun t' S=>m8 H S fun G=>mW E ops tl t' G k
/-! ### What the evaluation says of each operation -/
structure db where
 v:Value
 nb:Option ai
 run:Bool
/-- The slots and the new blocks when the operations of D have gone. -/
def bU (ops:List Oper) (i:Nat):Option Tmp:=(ops[i]?).bind (·.dst)
def bf (ops:List Oper) (rs:List db) (D:Nat→Bool) (t0:List Value):Nat→List Value
 | 0=>t0
 | i+1=>match D i,bU ops i,rs[i]? with
  | true,some d,some r=>(bf ops rs D t0 i).set d r.v
  | _,_,_=>bf ops rs D t0 i
def kD (rs:List db) (D:Nat→Bool) (m:Nat):List (Option ai):=(List.range m).map fun i=>if D i then (rs[i]?).bind (·.nb) else none
section
variable {ops:List Oper} {rs:List db} {t0:List Value}
theorem qP (D:Nat→Bool):∀ m,(bf ops rs D t0 m).length=t0.length
 | 0=>rfl
 | m+1=>by
  unfold bf
  split
  ·rw [List.length_set]; exact qP D m
  ·exact qP D m
/-- No two of the first m write one slot. -/
def wF (ops:List Oper) (m:Nat):Prop:=∀ i j d,i < m→j < m→bU ops i=some d→bU ops j=some d→i=j
theorem vx (D:Nat→Bool) {d:Tmp}:∀ m,(∀ i,i < m→D i=true→bU ops i=some d→rs[i]?=none)→(bf ops rs D t0 m)[d]?=t0[d]?
 | 0,_=>rfl
 | m+1,h=>by
  unfold bf
  split
  ·rename_i d' r hD hd hr
   have aK:d'≠d:=fun e=>by subst e; rw [h m (by omega) hD hd] at hr; cases hr
   rw [List.getElem?_set_ne aK]
   exact vx D m (fun i hi=>h i (by omega))
  ·exact vx D m (fun i hi=>h i (by omega))
theorem s9 (D:Nat→Bool) {d:Tmp} {i:Nat} {r:db} (hd:bU ops i=some d) (hr:rs[i]?=some r) (hD:D i=true) (ak:d < t0.length) :
  ∀ m,i < m→wF ops m→(bf ops rs D t0 m)[d]?=some r.v
 | 0,h,_=>by omega
 | m+1,h,ha=>by
  by_cases e:i=m
  ·subst e
   unfold bf
   rw [hD,hd,hr]
   dsimp only
   rw [List.getElem?_set_self]
   rw [qP]; exact ak
  ·have ih:=s9 D hd hr hD ak m (by omega) (fun a b c h1 J=>ha a b c (by omega) (by omega))
   unfold bf
   split
   ·rename_i d' r' zt cY iI
    have aK:d'≠d:=fun e'=>by subst e'; exact e (ha i m d' (by omega) (by omega) hd cY)
    rw [List.getElem?_set_ne aK]; exact ih
   ·exact ih
/-- What two views have in common. -/
theorem xI {D D':Nat→Bool} {d:Tmp} {m:Nat} (ha:wF ops m) (ak:∀ i d,i < m→bU ops i=some d→d < t0.length) (h:∀ i,i < m→bU ops i=some d→D i=D' i) :
  (bf ops rs D t0 m)[d]?=(bf ops rs D' t0 m)[d]?:=by
 by_cases hex:∃ i r,i < m∧bU ops i=some d∧D i=true∧rs[i]?=some r
 ·obtain ⟨i,r,hi,hd,hD,hr⟩:=hex
  rw [s9 D hd hr hD (ak i d hi hd) m hi ha,s9 D' hd hr (by rw [← h i hi hd]; exact hD) (ak i d hi hd) m hi ha]
 ·rw [vx D m,vx D' m]
  ·intro i hi hD hd
   cases hr:rs[i]? with
   | none=>rfl
   | some r=>exact absurd ⟨i,r,hi,hd,by rw [h i hi hd]; exact hD,hr⟩ hex
  ·intro i hi hD hd
   cases hr:rs[i]? with
   | none=>rfl
   | some r=>exact absurd ⟨i,r,hi,hd,hD,hr⟩ hex
/-- One more has gone. -/
theorem Kl {D D':Nat→Bool} {m j:Nat} (ha:wF ops m) (ak:∀ i d,i < m→bU ops i=some d→d < t0.length) (hj:j < m) (hDj:D j=false) (zt:∀ i,D' i=(D i || i == j)) {r:db} (hr:rs[j]?=some r) :
  bf ops rs D' t0 m=match bU ops j with | some d=>(bf ops rs D t0 m).set d r.v | none=>bf ops rs D t0 m:=by
 apply List.ext_getElem?
 intro x
 have Pg:∀ i,i≠j→D' i=D i:=fun i hi=>by rw [zt i]; simp [hi]
 cases hd:bU ops j with
 | none =>
  dsimp only
  refine xI ha ak (fun i hi gg=>Pg i (fun e=>?_))
  subst e; rw [hd] at gg; cases gg
 | some d =>
  dsimp only
  by_cases e:d=x
  ·subst e
   have hl:=ak j d hj hd
   rw [List.getElem?_set_self (by rw [qP]; exact hl)]
   exact s9 D' hd hr (by rw [zt j]; simp) hl m hj ha
  ·rw [List.getElem?_set_ne e]
   refine xI ha ak (fun i hi gg=>Pg i (fun e'=>?_))
   subst e'; rw [hd] at gg; cases gg; exact e rfl
theorem qS {D:Nat→Bool} {m i:Nat} {b:ai}:(kD rs D m)[i]?=some (some b)↔i < m∧D i=true∧(rs[i]?).bind (·.nb)=some b:=by
 unfold kD
 rw [List.getElem?_map]
 by_cases h:i < m
 ·simp only [List.getElem?_range h,Option.map_some,Option.some.injEq]
  cases D i <;> simp [h]
 ·rw [List.getElem?_eq_none (by simp; omega)]
  simp [h]
theorem Jv (D:Nat→Bool) (m:Nat):(kD rs D m).length=m:=by simp [kD]
end
/-- Operations that give a value out of their operands alone. -/
def l6:Op→Bool
 | .move _=>true
 | .extract _ _=>true
 | .binOp _ _ _ _ _=>true
 | .slice _ _ _ _ _=>true
 | _=>false
/-- Operations that give a value out of their operands and the heap. -/
def l8:Op→Bool
 | .load _ _=>true
 | .indexAddr _ _ _=>true
 | .call c=>match c.callee with
  | .builtin .len=>true
  | _=>false
 | _=>false
/-- What the evaluation says of head operation j. -/
structure oq (P:Program) (ops:List Oper) (t0:List Value) (H:ax) (aS:List (List Nat)) (rs:List db) (j:Nat):Prop where
 ok:∃ o r,ops[j]?=some o∧rs[j]?=some r∧(∀ d,o.dst=some d→d < t0.length) ∧
  ((∃ G:ax,(∀ id b,G[id]?=some (some b)→(id < H.length∧H[id]?=some (some b))∨(∃ i,id=H.length+i∧i < j∧i∈aS.getD j []∧(rs[i]?).bind (·.nb)=some b)) ∧
    (∀ (ν:Nu) (a:Act) (w:World) (q:Option Nat) (n:Nat),(∀ x∈o.op.operands,fk ν (bf ops rs (fun i=>decide (i < j)) t0 j) a x)→bT ν G w→ν (H.length+j)=none →
     ∀ next Q,(∀ v' w' aj,mM ν aj (H.length+j) w w' r.v v' r.nb→next (a.put o.dst v') w')→o.wpIn (WF q) n P a w next Q) ∧
    (o.guard=none∨∃ g want d b,o.guard=some (g,want)∧bU ops g=some d∧(bf ops rs (fun i=>decide (i < j)) t0 j)[d]?=some (.bool b)∧(b == want)=true)) ∨
    (r.v=undef∧r.nb=none∧∃ g want d v,o.guard=some (g,want)∧bU ops g=some d∧(bf ops rs (fun i=>decide (i < j)) t0 j)[d]?=some v∧((∃ b,v=.bool b∧(b == want)=false)∨∃ vs,v=.tuple vs)))
 mv:∀ o,ops[j]?=some o→(l6 o.op || l8 o.op)=true→o.guard=none→∃ r,rs[j]?=some r∧r.nb=none∧∃ G:ax,(∀ id b,G[id]?=some (some b)→(id < H.length∧H[id]?=some (some b))∨(∃ i,id=H.length+i∧i < j∧i∈aS.getD j []∧(rs[i]?).bind (·.nb)=some b)) ∧
  (l6 o.op=true→∀ (bw:Nu) (w0:World),bT bw G w0→pH P bw o.op (bf ops rs (fun i=>decide (i < j)) t0 j) r.v)∧(l8 o.op=true→∀ bw,nw P bw G o.op (bf ops rs (fun i=>decide (i < j)) t0 j) r.v)
/-- The same, and what such an operation gives. -/
theorem Rt {P:Program} {E:Env} (hE:EnvOk P E) {op:Op} {tmps:List Value} {H:ax} {aI:Nat} {k:QK} (h:kM E op tmps H aI k) :
  ∃ v nb,k v nb∧(∀ (o:Oper) (ν:Nu) (a:Act) (w:World) (r:Option Nat) (n:Nat),o.op=op→(∀ x∈op.operands,fk ν tmps a x)→bT ν H w→ν aI=none →
   ∀ next Q,(∀ v' w' aj,mM ν aj aI w w' v v' nb→next (a.put o.dst v') w')→o.wpIn (WF r) n P a w next Q) ∧
   (l6 op=true→nb=none∧∀ (bw:Nu) (w0:World),bT bw H w0→pH P bw op tmps v)∧(l8 op=true→nb=none∧∀ bw,nw P bw H op tmps v):=by
 have mk:l8 op=false→∀ v,k v none→(∀ (bw:Nu) (w0:World),bT bw H w0→pH P bw op tmps v)→∃ v nb,k v nb∧(∀ (o:Oper) (ν:Nu) (a:Act) (w:World) (r:Option Nat) (n:Nat),o.op=op→(∀ x∈op.operands,fk ν tmps a x)→bT ν H w→ν aI=none →
   ∀ next Q,(∀ v' w' aj,mM ν aj aI w w' v v' nb→next (a.put o.dst v') w')→o.wpIn (WF r) n P a w next Q) ∧
   (l6 op=true→nb=none∧∀ (bw:Nu) (w0:World),bT bw H w0→pH P bw op tmps v)∧(l8 op=true→nb=none∧∀ bw,nw P bw H op tmps v):=by
  intro qm v hk hp
  refine ⟨v,none,hk,fun o ν a w r n ho ha hH hn next Q hN=>?_,fun _=>⟨rfl,hp⟩,fun h=>by rw [qm] at h; cases h⟩
  obtain ⟨u,k1,k2⟩:=(hp ν w hH).2 o ν a w ν.le_refl ho ha
  exact jD (v':=u) (w':=w) (by rw [ho]; exact (hp ν w hH).1) k2 next Q (hN _ _ ν ⟨ν.le_refl,fun _ _=>rfl,k1,Below.refl _ _,fun _=>rfl,(fun b hb=>by cases hb)⟩)
 by_cases hp:l6 op=true
 ·cases op with
  | move x =>
   have h':BJ tmps x k:=h
   obtain ⟨v,hk,hv⟩:=cX h'
   exact mk rfl v hk fun bw w0 _=>⟨by simp,fun o ν a w hle ho ha=>⟨a.eval x,hv ν a (ha x (by simp [Op.operands])),by simp [execOp,ho]⟩⟩
  | extract x i =>
   have h':EG tmps x i k:=h
   obtain ⟨v0,h',hv⟩:=cX h'
   split at h'
   ·rename_i vs
    obtain ⟨u,h1,J⟩:=od h'
    refine mk rfl u J fun bw w0 _=>⟨by simp,fun o ν a w hle ho ha=>?_⟩
    obtain ⟨ys,he,hy⟩:=an.np (xs:=vs.toList) (hv ν a (ha x (by simp [Op.operands])))
    obtain ⟨u',h3,h4⟩:=hy.get h1
    exact ⟨u',h4,by simp [execOp,ho,he,Instr.extract,h3]⟩
   ·exact h'.elim
  | binOp op t x y ty =>
   have h':Ce E.tt E.eqs tmps op t x y k:=h
   obtain ⟨v,hk,hv⟩:=Ka hE.ty hE.eq (ty:=ty) h'
   exact mk rfl v hk fun bw _ _=>hv bw
  | slice t x lo hi mx =>
   obtain ⟨v,hk,hv⟩:=Jp hE.ty h
   exact mk rfl v hk hv
  | _=>cases hp
 ·have hv:rQ P op tmps H k→∃ v nb,k v nb∧(∀ (o:Oper) (ν:Nu) (a:Act) (w:World) (r:Option Nat) (n:Nat),o.op=op→(∀ x∈op.operands,fk ν tmps a x)→bT ν H w→ν aI=none →
   ∀ next Q,(∀ v' w' aj,mM ν aj aI w w' v v' nb→next (a.put o.dst v') w')→o.wpIn (WF r) n P a w next Q) ∧
   (l6 op=true→nb=none∧∀ (bw:Nu) (w0:World),bT bw H w0→pH P bw op tmps v)∧(l8 op=true→nb=none∧∀ bw,nw P bw H op tmps v):=fun ⟨v,hk,hv⟩ =>
   ⟨v,none,hk,fun o ν a w r n ho ha hH hn next Q hN=>by
    obtain ⟨u,k1,k2⟩:=(hv ν).2 o ν a w ν.le_refl ho ha hH
    exact jD (v':=u) (w':=w) (by rw [ho]; exact (hv ν).1) k2 next Q (hN _ _ ν ⟨ν.le_refl,fun _ _=>rfl,k1,Below.refl _ _,fun _=>rfl,(fun b hb=>by cases hb)⟩),fun h=>absurd h hp,fun _=>⟨rfl,hv⟩⟩
  by_cases hh:l8 op=true
  ·cases op with
   | load t x=>exact hv (Mp hE.ty h)
   | indexAddr t x i=>exact hv (Jq hE.ty h)
   | call c =>
    cases hc:c.callee with
    | builtin b =>
     cases b with
     | len =>
      unfold kM at h
      simp only [hc] at h
      split at h
      ·rename_i x t hx ht
       exact hv (M9 hE.ty hc (Array.ext' hx) (Array.ext' ht) h)
      ·exact h.elim
     | _=>simp [l8,hc] at hh
    | _=>simp [l8,hc] at hh
   | _=>cases hh
  ·obtain ⟨v,nb,hk,hq⟩:=AE (P:=P) hE h
   exact ⟨v,nb,hk,hq,fun h=>absurd h hp,fun h=>absurd h hh⟩
theorem vm:∀ {S:List (Option ai)} {i:Nat} {mask:List Nat} {k:List (Option ai)→Prop},k9 S i mask k→∃ S',k S'∧S'.length=S.length∧∀ j b,S'[j]?=some (some b)→S[j]?=some (some b)∧(i+j)∈mask
 | [],i,mask,k,h=>⟨[],by simpa [k9] using h,rfl,fun j b hb=>by simp at hb⟩
 | c::S,i,[],k,h=>by
  obtain ⟨S',h1,J,h3⟩:=vm (S:=S) (i:=i+1) (mask:=[]) (by simpa [k9] using h)
  refine ⟨none::S',h1,by simp [J],fun j b hb=>?_⟩
  cases j with
  | zero=>simp at hb
  | succ j=>have:=h3 j b (by simpa using hb); simp at this
 | c::S,i,m::ms,k,h=>by
  unfold k9 at h
  dsimp only at h
  split at h
  ·rename_i e
   have e:=Nat.eq_of_beq_eq_true e
   obtain ⟨S',h1,J,h3⟩:=vm (S:=S) h
   refine ⟨c::S',h1,by simp [J],fun j b hb=>?_⟩
   cases j with
   | zero=>simp at hb; subst hb; exact ⟨by simp,by simp [e]⟩
   | succ j =>
    obtain ⟨k1,k2⟩:=h3 j b (by simpa using hb)
    exact ⟨by simpa using k1,by rw [show i+(j+1)=i+1+j by omega]; simp [k2]⟩
  ·obtain ⟨S',h1,J,h3⟩:=vm (S:=S) h
   refine ⟨none::S',h1,by simp [J],fun j b hb=>?_⟩
   cases j with
   | zero=>simp at hb
   | succ j =>
    obtain ⟨k1,k2⟩:=h3 j b (by simpa using hb)
    exact ⟨by simpa using k1,by rw [show i+(j+1)=i+1+j by omega]; exact k2⟩
theorem DN {ops:List Oper} {rs:List db} {D:Nat→Bool} {t0:List Value} {m:Nat}:bf ops rs D t0 (m+1)=(match D m,bU ops m,rs[m]? with
  | true,some d,some r=>(bf ops rs D t0 m).set d r.v
  | _,_,_=>bf ops rs D t0 m):=rfl
theorem sT {ops:List Oper} {rs cj:List db} {D:Nat→Bool} {t0:List Value}:∀ {m:Nat},(∀ i,i < m→rs[i]?=cj[i]?)→bf ops rs D t0 m=bf ops cj D t0 m
 | 0,_=>rfl
 | m+1,h=>by
  unfold bf
  rw [h m (by omega),sT (m:=m) (fun i hi=>h i (by omega))]
theorem xy {ops:List Oper} {rs:List db} {D D':Nat→Bool} {t0:List Value}:∀ {m:Nat},(∀ i,i < m→D i=D' i)→bf ops rs D t0 m=bf ops rs D' t0 m
 | 0,_=>rfl
 | m+1,h=>by
  unfold bf
  rw [h m (by omega),xy (m:=m) (fun i hi=>h i (by omega))]
theorem vy {ops:List Oper} {rs:List db} {D:Nat→Bool} {t0:List Value} {j:Nat}:∀ {m:Nat},j≤m→(∀ i,j≤i→i < m→D i=false)→bf ops rs D t0 m=bf ops rs D t0 j
 | 0,h,_=>by rw [Nat.le_zero.1 h]
 | m+1,h,hD=>by
  by_cases e:j=m+1
  ·rw [e]
  ·rw [DN,hD m (by omega) (by omega)]
   exact vy (m:=m) (by omega) (fun i h1 J=>hD i h1 (by omega))
theorem oq.more {P:Program} {ops:List Oper} {t0:List Value} {H:ax} {aS:List (List Nat)} {rs:List db} {j:Nat} (h:oq P ops t0 H aS rs j) (hj:j < rs.length) (r:db):oq P ops t0 H aS (rs++[r]) j:=by
 have he:∀ i,i≤j→(rs++[r])[i]?=rs[i]?:=fun i hi=>by rw [List.getElem?_append_left (by omega)]
 have hv:∀ D,bf ops (rs++[r]) D t0 j=bf ops rs D t0 j:=fun D=>sT (fun i hi=>he i (by omega))
 obtain ⟨o,q,h1,J,h3,h4⟩:=h.ok
 refine ⟨⟨o,q,h1,by rw [he j (Nat.le_refl _)]; exact J,h3,?_⟩,fun o ho hx hg=>?_⟩
 rotate_left
 ·obtain ⟨r',k1,k2,k3⟩:=h.mv o ho hx hg
  obtain ⟨G,g1,g2⟩:=k3
  exact ⟨r',by rw [he j (Nat.le_refl _)]; exact k1,k2,G,fun id b hb=>(g1 id b hb).imp (fun x=>x) (fun ⟨i,q1,q2,q3,q4⟩=>⟨i,q1,q2,q3,by rw [he i (by omega)]; exact q4⟩),by rw [hv]; exact g2⟩
 rw [hv]
 rcases h4 with ⟨G,g1,g2,g3⟩ | h4
 ·exact .inl ⟨G,fun id b hb=>(g1 id b hb).imp (fun x=>x) (fun ⟨i,k1,k2,k3,k4⟩=>⟨i,k1,k2,k3,by rw [he i (by omega)]; exact k4⟩),g2,g3⟩
 ·exact .inr h4
theorem D8 {P:Program} {E:Env} (hE:EnvOk P E) {ops:List Oper} {t0:List Value} {H:ax} {aS:List (List Nat)} {k:List Value→List (Option ai)→Prop} :
  ∀ {l:List Oper} {ms:List (List Nat)} {j:Nat} {rs:List db},rs.length=j→(∀ (i:Nat) o,l[i]?=some o→ops[j+i]?=some o)→(∀ i,i < l.length→ms.getD i []=aS.getD (j+i) []) →
  (∀ i,i < j→oq P ops t0 H aS rs i)→ld E ops H H.length l ms j (bf ops rs (fun i=>decide (i < j)) t0 j) (rs.map (·.nb)) k →
  ∃ cj:List db,cj.length=j+l.length∧(∀ i,i < j+l.length→oq P ops t0 H aS cj i)∧k (bf ops cj (fun i=>decide (i < j+l.length)) t0 (j+l.length)) (cj.map (·.nb))
 | [],ms,j,rs,hl,_,_,bg,h=>⟨rs,hl,bg,h⟩
 | o::l,[],j,rs,hl,_,_,bg,h=>h.elim
 | o::l,mask::ms,j,rs,hl,ho,hm,bg,h=>by
  have nS:ops[j]?=some o:=by have:=ho 0 o rfl; simpa using this
  have BR:mask=aS.getD j []:=by have:=hm 0 (by simp); simpa using this
  -- the next step, whatever this one's result
  have next:∀ (r:db) t',(t'=match o.dst with | some d=>(bf ops rs (fun i=>decide (i < j)) t0 j).set d r.v | none=>bf ops rs (fun i=>decide (i < j)) t0 j) →
    (oq P ops t0 H aS (rs++[r]) j)→ld E ops H H.length l ms (j+1) t' (rs.map (·.nb)++[r.nb]) k →
    ∃ cj:List db,cj.length=j+(o::l).length∧(∀ i,i < j+(o::l).length→oq P ops t0 H aS cj i)∧k (bf ops cj (fun i=>decide (i < j+(o::l).length)) t0 (j+(o::l).length)) (cj.map (·.nb)):=by
   intro r t' jy hj h'
   have hv:bf ops (rs++[r]) (fun i=>decide (i < j+1)) t0 (j+1)=t':=by
    have hr:(rs++[r])[j]?=some r:=by rw [← hl]; simp
    have hd:bU ops j=o.dst:=by simp [bU,nS]
    have yD:bf ops (rs++[r]) (fun i=>decide (i < j+1)) t0 j=bf ops rs (fun i=>decide (i < j)) t0 j:=by
     rw [sT (cj:=rs) (fun i hi=>by rw [List.getElem?_append_left (by omega)])]
     exact xy (fun i hi=>by simp; omega)
    have Hl:decide (j < j+1)=true:=by simp
    rw [jy,DN,hr,hd,yD,Hl]
    cases o.dst <;> rfl
   rw [← hv] at h'
   have h'':ld E ops H H.length l ms (j+1) (bf ops (rs++[r]) (fun i=>decide (i < j+1)) t0 (j+1)) ((rs++[r]).map (·.nb)) k:=by simpa using h'
   obtain ⟨cj,k1,k2,k3⟩:=D8 hE (l:=l) (ms:=ms) (j:=j+1) (rs:=rs++[r]) (by simp [hl]) (fun i p hp=>by have:=ho (i+1) p (by simpa using hp); rwa [show j+1+i=j+(i+1) by omega])
    (fun i hi=>by have:=hm (i+1) (by simp; omega); rw [show j+1+i=j+(i+1) by omega]; simpa using this)
    (fun i hi=>by
     by_cases e:i=j
     ·subst e; exact hj
     ·exact (bg i (by omega)).more (by omega) r) h''
   have e:j+1+l.length=j+(o::l).length:=by simp; omega
   rw [e] at k1 k2 k3
   exact ⟨cj,k1,k2,k3⟩
  have nT:∀ r:db,bf ops (rs++[r]) (fun i=>decide (i < j)) t0 j=bf ops rs (fun i=>decide (i < j)) t0 j:=fun r=>sT (fun i hi=>by rw [List.getElem?_append_left (by omega)])
  have sG:∀ r:db,(rs++[r])[j]?=some r:=fun r=>by rw [← hl]; simp
  have run:(o.guard=none∨∃ g want d b,o.guard=some (g,want)∧bU ops g=some d∧(bf ops rs (fun i=>decide (i < j)) t0 j)[d]?=some (.bool b)∧(b == want)=true) →
    (k9 (rs.map (·.nb)) 0 mask fun Sm=>m8 H Sm fun G=>kM E o.op (bf ops rs (fun i=>decide (i < j)) t0 j) G (H.length+j) fun v nb=>dw (bf ops rs (fun i=>decide (i < j)) t0 j) o.dst v fun t'=>jo (rs.map (·.nb)) nb fun S'=>ld E ops H H.length l ms (j+1) t' S' k) →
    ∃ cj:List db,cj.length=j+(o::l).length∧(∀ i,i < j+(o::l).length→oq P ops t0 H aS cj i)∧k (bf ops cj (fun i=>decide (i < j+(o::l).length)) t0 (j+(o::l).length)) (cj.map (·.nb)):=by
   intro hg h
   obtain ⟨Sm,h1,J,h3⟩:=vm h
   have h1:=s8 h1
   obtain ⟨v,nb,hk,hq,xf⟩:=Rt (P:=P) hE h1
   have lB:∃ t',(t'=match o.dst with | some d=>(bf ops rs (fun i=>decide (i < j)) t0 j).set d v | none=>bf ops rs (fun i=>decide (i < j)) t0 j)∧(∀ d,o.dst=some d→d < t0.length)∧(jo (rs.map (·.nb)) nb fun S'=>ld E ops H H.length l ms (j+1) t' S' k):=by
    cases hd:o.dst with
    | none=>rw [hd] at hk; exact ⟨_,rfl,(fun d hd=>by cases hd),hk⟩
    | some d =>
     rw [hd] at hk
     obtain ⟨k1,k2⟩:=oe hk
     rw [qP] at k1
     exact ⟨_,rfl,(fun d' cY=>by cases cY; exact k1),k2⟩
   obtain ⟨t',e1,e2,e3⟩:=lB
   refine next ⟨v,nb,true⟩ t' e1 ⟨⟨o,⟨v,nb,true⟩,nS,sG _,e2,.inl ⟨H++Sm,fun id b hb=>?_,?_,?_⟩⟩,fun p hp hx Ph=>?_⟩ (sV e3)
   rotate_right
   ·rw [nS] at hp; cases hp
    have k1:nb=none:=by
     rcases Bool.or_eq_true_iff.1 hx with hx | hx
     ·exact (xf.1 hx).1
     ·exact (xf.2 hx).1
    refine ⟨_,sG _,k1,H++Sm,fun id b hb=>?_,fun hx=>by rw [nT]; exact (xf.1 hx).2,fun hx=>by rw [nT]; exact (xf.2 hx).2⟩
    rw [List.getElem?_append] at hb
    split at hb
    ·exact .inl ⟨by assumption,hb⟩
    ·rename_i eG
     obtain ⟨q1,q2⟩:=h3 _ b hb
     have ak:id - H.length < rs.length:=by
      have:=(List.getElem?_eq_some_iff.1 q1).1
      simpa using this
     refine .inr ⟨id - H.length,by omega,by omega,by rw [← BR]; simpa using q2,?_⟩
     rw [List.getElem?_append_left ak]
     rw [List.getElem?_map] at q1
     cases hr:rs[id - H.length]? with
     | none=>rw [hr] at q1; cases q1
     | some r=>rw [hr] at q1; simpa using q1
   ·rw [List.getElem?_append] at hb
    split at hb
    ·exact .inl ⟨by assumption,hb⟩
    ·rename_i eG
     obtain ⟨q1,q2⟩:=h3 _ b hb
     have ak:id - H.length < rs.length:=by
      have:=(List.getElem?_eq_some_iff.1 q1).1
      simpa using this
     refine .inr ⟨id - H.length,by omega,by omega,by rw [← BR]; simpa using q2,?_⟩
     rw [List.getElem?_append_left ak]
     rw [List.getElem?_map] at q1
     cases hr:rs[id - H.length]? with
     | none=>rw [hr] at q1; cases q1
     | some r=>rw [hr] at q1; simpa using q1
   ·rw [nT]
    exact fun ν a w q n ha hH hn next Q hN=>hq o ν a w q n rfl ha hH hn next Q hN
   ·rw [nT]; exact hg
  have skip:(∃ g want d v,o.guard=some (g,want)∧bU ops g=some d∧(bf ops rs (fun i=>decide (i < j)) t0 j)[d]?=some v∧((∃ b,v=.bool b∧(b == want)=false)∨∃ vs,v=.tuple vs)) →
    (dw (bf ops rs (fun i=>decide (i < j)) t0 j) o.dst undef fun t'=>jo (rs.map (·.nb)) none fun S'=>ld E ops H H.length l ms (j+1) t' S' k) →
    ∃ cj:List db,cj.length=j+(o::l).length∧(∀ i,i < j+(o::l).length→oq P ops t0 H aS cj i)∧k (bf ops cj (fun i=>decide (i < j+(o::l).length)) t0 (j+(o::l).length)) (cj.map (·.nb)):=by
   intro hg hk
   have lB:∃ t',(t'=match o.dst with | some d=>(bf ops rs (fun i=>decide (i < j)) t0 j).set d undef | none=>bf ops rs (fun i=>decide (i < j)) t0 j)∧(∀ d,o.dst=some d→d < t0.length)∧(jo (rs.map (·.nb)) none fun S'=>ld E ops H H.length l ms (j+1) t' S' k):=by
    cases hd:o.dst with
    | none=>rw [hd] at hk; exact ⟨_,rfl,(fun d hd=>by cases hd),hk⟩
    | some d =>
     rw [hd] at hk
     obtain ⟨k1,k2⟩:=oe hk
     rw [qP] at k1
     exact ⟨_,rfl,(fun d' cY=>by cases cY; exact k1),k2⟩
   obtain ⟨t',e1,e2,e3⟩:=lB
   refine next ⟨undef,none,false⟩ t' e1 ⟨⟨o,⟨undef,none,false⟩,nS,sG _,e2,.inr ⟨rfl,rfl,by rw [nT]; exact hg⟩⟩,fun p hp hx Ph=>?_⟩ (sV e3)
   rw [nS] at hp; cases hp
   obtain ⟨g,want,d,v,k1,_⟩:=hg
   rw [Ph] at k1; cases k1
  unfold ld at h
  split at h
  ·exact run (.inl (by assumption)) h
  ·rename_i g want hg
   split at h
   ·rename_i d hd
    obtain ⟨v,hv,h⟩:=od h
    split at h
    ·rename_i b
     cases hb:(b == want) with
     | true=>exact run (.inr ⟨g,want,d,b,hg,hd,hv,hb⟩) (A8 h hb)
     | false=>exact skip ⟨g,want,d,_,hg,hd,hv,.inl ⟨b,rfl,hb⟩⟩ (AR h hb)
    ·exact skip ⟨g,want,d,_,hg,hd,hv,.inr ⟨_,rfl⟩⟩ h
    ·exact h.elim
   ·exact h.elim
end Go.Ae
/- Regions that draw their order, continued: the machine's choice does not matter. -/
namespace Go.Ae
open Go Go.RowKit
structure Order (ops:List Oper) (aS:List (List Nat)):Prop where
 mask:∀ j o,ops[j]?=some o→∀ i∈aS.getD j [],i < j∧∃ e∈o.after,Region.binds .any e=true∧(e.on=i∨(i∈aS.getD e.on []∧e.on < j))
 back:∀ j o,ops[j]?=some o→∀ e∈o.after,Region.binds .any e=true→e.on < j
structure Yo (ops:List Oper) (m:Nat) (aS:List (List Nat)):Prop extends Order ops aS where
 le:m≤ops.length
 apart:∀ j o i p d,j < m→i < m→i≠j→ops[j]?=some o→ops[i]?=some p→p.dst=some d→o.dst≠some d∧(d ∉ je ops o∨i∈aS.getD j []∨j∈aS.getD i [])
 tail:∀ j,j < ops.length→m≤j→∀ i,i < j→i∈aS.getD j []
theorem JS {ops:List Oper} {m:Nat} {aS:List (List Nat)} (h:By ops m aS=true):Yo ops m aS:=by
 unfold By at h
 simp only [Bool.and_eq_true,decide_eq_true_eq] at h
 obtain ⟨⟨⟨⟨h1,J⟩,h3⟩,h4⟩,h5⟩:=h
 have lt:∀ {j:Nat} {o:Oper},ops[j]?=some o→j∈List.range ops.length:=fun hj=>List.mem_range.2 (List.getElem?_eq_some_iff.1 hj).1
 refine ⟨⟨fun j o hj i hi=>?_,fun j o hj e he hb=>?_⟩,h1,fun j o i p d hj hi aK ho hp hd=>?_,fun j hj hm i hi=>?_⟩
 ·unfold Bd at J
  have:=List.all_eq_true.1 J j (lt hj)
  rw [hj] at this
  have:=List.all_eq_true.1 this i hi
  simp only [Bool.and_eq_true,decide_eq_true_eq,List.any_eq_true,Bool.or_eq_true,beq_iff_eq,List.contains_iff_mem] at this
  obtain ⟨k1,e,k2,k3,k4⟩:=this
  exact ⟨k1,e,by simpa using k2,k3,k4⟩
 ·have:=List.all_eq_true.1 h3 j (lt hj)
  rw [hj] at this
  have:=List.all_eq_true.1 this e (by simpa using he)
  simp only [hb,Bool.not_true,Bool.false_or,decide_eq_true_eq] at this
  exact this
 ·have:=List.all_eq_true.1 h4 j (List.mem_range.2 hj)
  rw [ho] at this
  have:=List.all_eq_true.1 this i (List.mem_range.2 hi)
  rw [hp] at this
  have hb:(i == j)=false:=by simp [aK]
  rw [hb,Bool.false_or] at this
  dsimp only at this
  rw [hd] at this
  simp only [Bool.and_eq_true,bne_iff_ne,Bool.or_eq_true,Bool.not_eq_true',List.contains_iff_mem,or_assoc] at this
  refine ⟨this.1,this.2.imp (fun k=>?_) (fun k=>k)⟩
  intro gG
  rw [List.contains_iff_mem.2 gG] at k
  cases k
 ·have:=List.all_eq_true.1 h5 j (List.mem_range.2 hj)
  simp only [Bool.or_eq_true,decide_eq_true_eq,List.all_eq_true,List.mem_range,List.contains_iff_mem] at this
  rcases this with h | h
  ·omega
  ·exact h i hi
def DB (aC:Array Bool):Nat→Bool:=fun i=>aC.getD i false
theorem Bz {aC:Array Bool} {j:Nat} (hj:j < aC.size) (i:Nat):DB (aC.setIfInBounds j true) i=(DB aC i || i == j):=by
 unfold DB
 by_cases e:j=i
 ·subst e; simp [hj]
 ·rw [getD_set_ne false e]
  have:(i == j)=false:=by simp; exact fun h=>e h.symm
  rw [this,Bool.or_false]
theorem th {aC:Array Bool} {i:Nat} (hi:i < aC.size) (d:Bool):aC.getD i d=DB aC i:=by
 unfold DB; simp [hi]
def ot (ops:List Oper) (D:Nat→Bool):Prop:=∀ j o,D j=true→ops[j]?=some o→∀ e∈o.after,Region.binds .any e=true→D e.on=true
theorem sU {ops:List Oper} {aS:List (List Nat)} (hc:Order ops aS) {D:Nat→Bool} (hD:ot ops D):∀ (j:Nat) o,ops[j]?=some o→(∀ e∈o.after,Region.binds .any e=true→D e.on=true)→∀ i∈aS.getD j [],D i=true:=by
 intro j
 induction j using Nat.strongRecOn with
 | _ j ih =>
  intro o ho he i hi
  obtain ⟨_,e,h1,J,h3⟩:=hc.mask j o ho i hi
  rcases h3 with rfl | ⟨h3,h4⟩
  ·exact he e h1 J
  ·have kj:=he e h1 J
   cases nU:ops[e.on]? with
   | none=>rw [List.getElem?_eq_none_iff] at nU; have:=(List.getElem?_eq_some_iff.1 ho).1; omega
   | some p=>exact ih e.on h4 p nU (hD e.on p kj nU) i h3
/-- How many have not gone. -/
def gx (D:Nat→Bool) (n:Nat):Nat:=((List.range n).filter fun i=>!D i).length
theorem Al (D:Nat→Bool) (n:Nat):gx D (n+1)=gx D n+if D n then 0 else 1:=by
 unfold gx
 rw [List.range_succ,List.filter_append,List.length_append]
 cases hd:D n <;> simp [hd]
theorem Ax {D D':Nat→Bool} {j:Nat} (h:∀ i,D' i=(D i || i == j)) (hj:D j=false):∀ n,gx D' n+(if j < n then 1 else 0)=gx D n
 | 0=>by simp [gx]
 | n+1=>by
  have ih:=Ax h hj n
  rw [Al,Al,h n]
  by_cases e:n=j
  ·subst e
   simp only [Nat.lt_irrefl,if_false,Nat.add_zero] at ih
   rw [hj]; simp; omega
  ·have:(n == j)=false:=by simp [e]
   rw [this,Bool.or_false]
   by_cases ak:j < n
   ·have e1:(if j < n+1 then 1 else 0)=1:=if_pos (by omega)
    rw [if_pos ak] at ih; rw [e1]; generalize (if D n=true then 0 else 1)=z; omega
   ·have e1:(if j < n+1 then 1 else 0)=0:=if_neg (by omega)
    rw [if_neg ak] at ih; rw [e1]; generalize (if D n=true then 0 else 1)=z; omega
theorem DO {D:Nat→Bool} {n i:Nat} (hi:i < n) (hD:D i=false):0 < gx D n:=by
 unfold gx
 exact List.length_pos_of_mem (List.mem_filter.2 ⟨List.mem_range.2 hi,by simp [hD]⟩)
theorem z9 {ops:List Oper} {o:Oper} {g:Nat} {want:Bool} {d:Tmp} (hg:o.guard=some (g,want)) (hd:bU ops g=some d):d∈je ops o:=by
 have cY:(ops[g]?).bind (fun x=>x.dst)=some d:=hd
 unfold je
 refine List.mem_append_right _ ?_
 rw [hg]
 dsimp only
 rw [cY]
 simp
section
variable {P:Program} {E:Env} {r:Option Nat} {n:Nat} {F:Fr} {ops:Array Oper} {Q:Exit→Act→World→Prop} {m:Nat} {aS:List (List Nat)} {k:SK}
/-- If all before it has gone, it may go. -/
theorem Am (hc:Order ops.toList aS) {aC:Array Bool} (hs:aC.size=ops.size) {j:Nat} (hj:j < ops.size) (h0:DB aC j=false) (h1:∀ i,i < j→DB aC i=true):j∈Region.ready .any ops aC:=by
 rw [mem_ready]
 refine ⟨by rw [th (by omega)]; exact h0,ops[j],Array.getElem?_eq_getElem hj,fun e he hb=>?_⟩
 exact h1 _ (hc.back j ops[j] (by simp [hj]) e he hb)
theorem D9 (hE:jQ P E) (bO:kN F E) (hc:Order ops.toList aS) (aaL:∀ j,j < ops.toList.length→m≤j→∀ i,i < j→i∈aS.getD j []) (hk:∀ ν t' H' a' w',bC F ν t' H' a' w'→k t' H'→Q .normal a' w') :
  ∀ (fuel:Nat) (aC:Array Bool) (j0:Nat) (ν:Nu) (t:List Value) (H:ax) (a:Act) (w:World),aC.size=ops.size→(∀ i,DB aC i=decide (i < j0))→m≤j0→j0≤ops.size →
  bC F ν t H a w→mW E ops.toList (ops.toList.drop j0) t H k→ops.size≤j0+fuel→wpAnyIn (WF r) n P .any ops Q fuel aC a w:=by
 intro fuel
 induction fuel with
 | zero =>
  intro aC j0 ν t H a w hs hD hm hle hi h hf
  have e:j0=ops.size:=by omega
  subst e
  rw [List.drop_eq_nil_of_le (by simp)] at h
  refine ⟨?_,hk _ _ _ _ _ hi h⟩
  rw [List.eq_nil_iff_forall_not_mem]
  intro j hj
  rw [mem_ready] at hj
  obtain ⟨h1,o,ho,_⟩:=hj
  have ak:j < ops.size:=(Array.getElem?_eq_some_iff.1 ho).1
  rw [th (by omega),hD j] at h1
  simp at h1; omega
 | succ fuel ih =>
  intro aC j0 ν t H a w hs hD hm hle hi h hf
  by_cases e:j0=ops.size
  ·subst e
   rw [List.drop_eq_nil_of_le (by simp)] at h
   refine ⟨fun _=>hk _ _ _ _ _ hi h,fun j hj=>?_⟩
   rw [mem_ready] at hj
   obtain ⟨h1,o,ho,_⟩:=hj
   have ak:j < ops.size:=(Array.getElem?_eq_some_iff.1 ho).1
   rw [th (by omega),hD j] at h1
   simp at h1; omega
  ·have ak:j0 < ops.size:=by omega
   have hr:=Am hc hs ak (by rw [hD]; simp) (fun i hi=>by rw [hD]; simpa using hi)
   refine ⟨fun hn=>?_,fun j hj=>?_⟩
   ·rw [hn] at hr; cases hr
   ·rw [mem_ready] at hj
    obtain ⟨h1,o,ho,he⟩:=hj
    have m9:j < ops.size:=(Array.getElem?_eq_some_iff.1 ho).1
    rw [th (by omega),hD j] at h1
    have eG:j0≤j:=by simpa using h1
    have gh:ops.toList[j]?=some o:=by simpa using ho
    have kt:j=j0:=by
     rcases Nat.lt_or_ge j0 j with pU | ac6
     ·have gG:=aaL j (by simpa using m9) (by omega) j0 pU
      have eY:ot ops.toList (DB aC):=fun i p aP hp e' gi bD=>by
       rw [hD] at aP ⊢
       have:=hc.back i p hp e' gi bD
       simp at aP ⊢; omega
      have:=sU hc eY j o gh (fun e' gi bD=>he e' gi bD) j0 gG
      rw [hD] at this; simp at this
     ·omega
    subst kt
    have GD:ops.toList.drop j=o::ops.toList.drop (j+1):=by
     rw [List.drop_eq_getElem_cons (by simpa using m9)]
     congr 1
     have:=List.getElem?_eq_getElem (l:=ops.toList) (i:=j) (by simpa using m9)
     rw [gh] at this; exact (Option.some.inj this).symm
    rw [GD] at h
    unfold wpOpIn
    rw [ho]
    refine DM hE bO hi (KZ h) (fun ν t' H' a' w' aP h'=>?_)
    refine ih _ (j+1) ν t' H' a' w' (by simp [hs]) (fun i=>?_) (by omega) (by omega) aP h' (by omega)
    rw [Bz (by omega),hD i]
    by_cases e':i=j
    ·subst e'; simp
    ·have:(i == j)=false:=by simp [e']
     rw [this,Bool.or_false]
     simp; omega
/-- If exactly the first m have gone. -/
theorem Dm {D:Nat→Bool} {m:Nat} (hD:∀ i,D i=decide (i < m)):∀ q,m≤q→gx D q=q - m:=by
 intro q
 induction q with
 | zero=>intro h; simp [gx]
 | succ q ihq =>
  intro h
  rw [Al,hD q]
  by_cases e:m=q+1
  ·subst e
   have:∀ q',q'≤q+1→gx D q'=0:=by
    intro q'
    induction q' with
    | zero=>intro _; simp [gx]
    | succ q' ih'=>intro h'; rw [Al,ih' (by omega),hD q']; simp; omega
   rw [this q (by omega)]; simp
  ·rw [ihq (by omega)]
   have:¬ (q < m):=by omega
   simp [this]; omega
/-- The least that has not gone. -/
theorem Dn {D:Nat→Bool} {i:Nat} (h:D i=false):∃ j,j≤i∧D j=false∧∀ q,q < j→D q=true:=by
 induction i using Nat.strongRecOn with
 | _ i ihi =>
  by_cases c7:∀ j,j < i→D j=true
  ·exact ⟨i,Nat.le_refl _,h,c7⟩
  ·have:∃ j,j < i∧D j=false:=by
    refine Classical.byContradiction fun aK=>c7 fun j hj=>?_
    cases hd:D j with
    | true=>rfl
    | false=>exact absurd ⟨j,hj,hd⟩ aK
   obtain ⟨j,h3,h4⟩:=this
   obtain ⟨q,k1,k2,k3⟩:=ihi j h3 h4
   exact ⟨q,by omega,k2,k3⟩
theorem K2 (hc:Order ops.toList aS) (tN:m≤ops.size)
  (yc:∀ j o i p d,j < m→i < m→i≠j→ops.toList[j]?=some o→ops.toList[i]?=some p→p.dst=some d→o.dst≠some d∧(d ∉ je ops.toList o∨i∈aS.getD j []∨j∈aS.getD i []))
  {fl:List Nat} (BS:∀ j,j < ops.size→m≤j→∀ i,i < m→i ∉ fl→i∈aS.getD j [])
  {t0:List Value} {H:ax} {rs:List db} (hh:∀ i,i < m→oq P ops.toList t0 H aS rs i)
  (oH:∀ (fuel:Nat) (aC:Array Bool) (ν:Nu) (a:Act) (w:World),aC.size=ops.size→ot ops.toList (DB aC)→(∀ i,DB aC i=true→i < m)→(∀ i,i < m→i ∉ fl→DB aC i=true) →
   bC F ν (bf ops.toList rs (DB aC) t0 m) (H++kD rs (DB aC) m) a w→gx (DB aC) ops.size≤fuel→wpAnyIn (WF r) n P .any ops Q fuel aC a w) :
  ∀ (fuel:Nat) (aC:Array Bool) (ν:Nu) (a:Act) (w:World),aC.size=ops.size→ot ops.toList (DB aC)→(∀ i,DB aC i=true→i < m) →
  bC F ν (bf ops.toList rs (DB aC) t0 m) (H++kD rs (DB aC) m) a w→(∀ i,i < m→DB aC i=false→ν (H.length+i)=none)→gx (DB aC) ops.size≤fuel →
  wpAnyIn (WF r) n P .any ops Q fuel aC a w:=by
 have lB:∀ i d,i < m→bU ops.toList i=some d→d < t0.length:=by
  intro i d hi hd
  obtain ⟨o,q,h1,J,h3,_⟩:=(hh i hi).ok
  unfold bU at hd
  rw [h1] at hd
  exact h3 d hd
 have oQ:wF ops.toList m:=by
  intro i j d hi hj h1 J
  rcases Nat.decEq i j with aK | he
  ·obtain ⟨o,q,k1,_⟩:=(hh i hi).ok
   obtain ⟨p,q',k2,_⟩:=(hh j hj).ok
   unfold bU at h1 J
   rw [k1] at h1; rw [k2] at J
   exact absurd h1 (yc i o j p d hi hj (Ne.symm aK) k1 k2 J).1
  ·exact he
 intro fuel
 induction fuel with
 | zero =>
  intro aC ν a w hs eY ak hi gp hu
  have c7:∀ i,i < ops.size→DB aC i=true:=fun i aP=>by
   cases hd:DB aC i with
   | true=>rfl
   | false=>have:=DO aP hd; omega
  exact oH 0 aC ν a w hs eY ak (fun i aP _=>c7 i (by omega)) hi hu
 | succ fuel ih =>
  intro aC ν a w hs eY ak hi gp hu
  by_cases oB:∀ i,i < m→i ∉ fl→DB aC i=true
  ·exact oH (fuel+1) aC ν a w hs eY ak oB hi hu
  ·-- something of the head has not gone: the least such one may go
   have hex:∃ i,i < m∧i ∉ fl∧DB aC i=false:=by
    refine Classical.byContradiction fun aK=>oB fun i aP hf=>?_
    cases hd:DB aC i with
    | true=>rfl
    | false=>exact absurd ⟨i,aP,hf,hd⟩ aK
   obtain ⟨i1,CQ,hf1,gj⟩:=hex
   obtain ⟨i0,Oq,fF,iZ⟩:=Dn gj
   have gz:i0 < m:=by omega
   have hr:=Am hc hs (by omega:i0 < ops.size) fF iZ
   refine ⟨(fun hn=>by rw [hn] at hr; cases hr),fun j hj=>?_⟩
   rw [mem_ready] at hj
   obtain ⟨h1,o,ho,he⟩:=hj
   have m9:j < ops.size:=(Array.getElem?_eq_some_iff.1 ho).1
   rw [th (by omega)] at h1
   have gh:ops.toList[j]?=some o:=by simpa using ho
   have lM:=sU hc eY j o gh (fun e' gi bD=>he e' gi bD)
   have mz:j < m:=by
    rcases Nat.lt_or_ge j m with h | h
    ·exact h
    ·have:=lM i1 (BS j m9 h i1 CQ hf1)
     rw [gj] at this; cases this
   obtain ⟨o',q,g1,g2,g3,g4⟩:=(hh j mz).ok
   rw [gh] at g1; cases g1
   have Ii:bU ops.toList j=o.dst:=by simp [bU,gh]
   -- what it reads stands as the text's order has it
   have GF:∀ d,d∈je ops.toList o→(bf ops.toList rs (DB aC) t0 m)[d]?=(bf ops.toList rs (fun i=>decide (i < j)) t0 j)[d]?:=by
    intro d hd
    rw [← vy (j:=j) (m:=m) (by omega) (fun i h1 J=>by simp; omega)]
    refine xI oQ lB (fun i aP gg=>?_)
    by_cases e:i=j
    ·subst e; rw [h1]; simp
    ·obtain ⟨p,q',k1,_⟩:=(hh i aP).ok
     have Ij:p.dst=some d:=by unfold bU at gg; rw [k1] at gg; exact gg
     rcases (yc j o i p d mz aP e gh k1 Ij).2 with h | h | h
     ·exact absurd hd h
     ·rw [lM i h]
      have:=(hc.mask j o gh i h).1
      simp [this]
     ·have hji:=(hc.mask i p k1 j h).1
      have:DB aC i=false:=by
       cases cY:DB aC i with
       | false=>rfl
       | true =>
        have:=sU hc eY i p k1 (eY i p cY k1) j h
        rw [h1] at this; cases this
      rw [this]; simp; omega
   have di:∀ i,DB (aC.setIfInBounds j true) i=(DB aC i || i == j):=fun i=>Bz (by omega) i
   have wW:ot ops.toList (DB (aC.setIfInBounds j true)):=by
    intro i p aP hp e' gi bD
    rw [di] at aP ⊢
    by_cases e:i=j
    ·subst e
     rw [gh] at hp; cases hp
     have:DB aC e'.on=true:=he e' gi bD
     rw [this]; rfl
    ·have e2:(i == j)=false:=by simp [e]
     rw [e2,Bool.or_false] at aP
     rw [eY i p aP hp e' gi bD]; rfl
   have pU:∀ i,DB (aC.setIfInBounds j true) i=true→i < m:=fun i aP=>by
    rw [di] at aP
    by_cases e:i=j
    ·subst e; exact mz
    ·have e2:(i == j)=false:=by simp [e]
     rw [e2,Bool.or_false] at aP
     exact ak i aP
   have ss:gx (DB (aC.setIfInBounds j true)) ops.size≤fuel:=by
    have:=Ax di h1 ops.size
    rw [if_pos m9] at this; omega
   have tS:=Kl (D:=DB aC) (D':=DB (aC.setIfInBounds j true)) oQ lB mz h1 di g2
   rw [Ii] at tS
   have fA:∀ (id:Nat) (c:ai),(H++kD rs (DB (aC.setIfInBounds j true)) m)[id]?=some (some c) ↔
     (H++kD rs (DB aC) m)[id]?=some (some c)∨(id=H.length+j∧q.nb=some c):=by
    intro id c
    by_cases bu:id < H.length
    ·rw [List.getElem?_append_left bu,List.getElem?_append_left bu]
     constructor
     ·exact .inl
     ·rintro (h | ⟨h,_⟩)
      ·exact h
      ·omega
    ·rw [List.getElem?_append_right (by omega),List.getElem?_append_right (by omega),qS,qS]
     constructor
     ·rintro ⟨k1,k2,k3⟩
      rw [di] at k2
      by_cases e:id - H.length=j
      ·refine .inr ⟨by omega,?_⟩
       rw [e,g2] at k3; exact k3
      ·have e2:(id - H.length == j)=false:=by simp [e]
       rw [e2,Bool.or_false] at k2
       exact .inl ⟨k1,k2,k3⟩
     ·rintro (⟨k1,k2,k3⟩ | ⟨k1,k2⟩)
      ·exact ⟨k1,by rw [di,k2]; rfl,k3⟩
      ·have e:id - H.length=j:=by omega
       rw [e]
       exact ⟨mz,by rw [di]; simp,by rw [g2]; exact k2⟩
   have mN:ν (H.length+j)=none:=gp j mz h1
   have GG:(H++kD rs (DB aC) m).length=H.length+m:=by rw [List.length_append,Jv]
   have F4:(H++kD rs (DB (aC.setIfInBounds j true)) m).length=H.length+m:=by rw [List.length_append,Jv]
   -- the state behind it
   have after:∀ v' w' aj,mM ν aj (H.length+j) w w' q.v v' q.nb→wpAnyIn (WF r) n P .any ops Q fuel (aC.setIfInBounds j true) (a.put o.dst v') w':=by
    intro v' w' aj hp
    have hb:=hp.below
    refine ih _ aj _ w' (by simp [hs]) wW pU ⟨?_,?_,?_,fun id bu=>?_,hi.kp.below hb,fun id c lc cK nO dK=>?_,Nu.le_trans hi.mono hp.le⟩ (fun i aP cY=>?_) ss
    ·rw [tS]
     cases hd:o.dst with
     | none=>exact hi.tm.mono hp.le
     | some d=>rw [qZ]; exact (hi.tm.mono hp.le).set hp.val d
    ·cases o.dst <;> exact hi.df.below hb
    ·cases aZ:q.nb with
     | none =>
      have:=hp.y7 aZ
      subst this
      refine (hi.hp.below hb).rD (fun id c cK=>?_)
      rcases (fA id c).1 cK with h | ⟨_,h⟩
      ·exact h
      ·rw [aZ] at h; cases h
     | some b =>
      obtain ⟨l,hl,hB,hle⟩:=hp.gY b aZ
      have kH:aj=ν.add (H.length+j) l:=by
       funext id
       by_cases e:id=H.length+j
       ·subst e; rw [hl,Nu.add_same]
       ·rw [hp.only id e,Nu.iQ e]
      subst kH
      refine hi.hp.push hb mN _ (fun id c cK=>?_) hle hB
      rcases (fA id c).1 cK with h | ⟨h3,h4⟩
      ·by_cases e:id=H.length+j
       ·obtain ⟨l',cJ,_⟩:=hi.hp.aH id c h
        rw [e,mN] at cJ; cases cJ
       ·exact .inr ⟨e,h⟩
      ·rw [aZ] at h4; cases h4
       exact .inl ⟨h3,rfl⟩
    ·rw [F4] at bu
     rw [hp.only id (by omega)]
     exact hi.fr id (by rw [GG]; exact bu)
    ·rcases (fA id c).1 cK with h | ⟨h3,h4⟩
     ·have aK:id≠H.length+j:=fun e=>by
       obtain ⟨l',cJ,_⟩:=hi.hp.aH id c h
       rw [e,mN] at cJ; cases cJ
      rw [hp.only id aK] at dK
      exact hi.own id c lc h nO dK
     ·obtain ⟨l,hl,_,hle⟩:=hp.gY c h4
      rw [h3,hl] at dK; cases dK
      exact .inr (Nat.le_trans hi.kp.size hle)
    ·have aK:i≠j:=fun e=>by subst e; rw [di] at cY; simp at cY
     rw [hp.only _ (by omega)]
     refine gp i aP ?_
     rw [di] at cY
     simp only [Bool.or_eq_false_iff] at cY
     exact cY.1
   unfold wpOpIn
   rw [ho]
   dsimp only
   have fE:∀ d,d∈je ops.toList o→∀ v,(bf ops.toList rs (fun i=>decide (i < j)) t0 j)[d]?=some v→∃ v',a.tmps[d]?=some v'∧an ν v v':=by
    intro d hd v hv
    rw [← GF d hd] at hv
    obtain ⟨v',k1,k2⟩:=hi.tm.get hv
    exact ⟨v',by simpa using k1,k2⟩
   rcases g4 with ⟨G,q1,q2,q3⟩ | ⟨q1,q2,g,want,d,v,q3,q4,q5,q6⟩
   ·have hw:Region.wanted o (yielded ops a.tmps)=true:=by
     rcases q3 with hg | ⟨g,want,d,b,hg,hd,hv,hb⟩
     ·simp [Region.wanted,hg]
     ·obtain ⟨v',k1,k2⟩:=fE d (z9 hg hd) _ hv
      rw [k2.j5] at k1
      have hy:=xG (ops:=ops) (tmps:=a.tmps) (j:=g) (d:=d) (by simpa [bU] using hd)
      rw [k1] at hy
      simp only [Region.wanted,hg,hy]
      rw [← hb]
      cases b <;> cases want <;> rfl
    rw [if_pos hw]
    refine q2 ν a w r n (fun x hx t ht v hv=>fE t ?_ v hv) (hi.hp.rD fun id b hb=>?_) mN _ Q after
    ·unfold je
     exact List.mem_append_left _ (o4 (by rw [ht] at hx; simpa using hx))
    ·rcases q1 id b hb with ⟨h3,h4⟩ | ⟨i,h3,h4,h5,h6⟩
     ·rw [List.getElem?_append_left h3]; exact h4
     ·subst h3
      rw [List.getElem?_append_right (by omega)]
      rw [show H.length+i - H.length=i by omega,qS]
      exact ⟨by omega,lM i h5,h6⟩
   ·have hw:Region.wanted o (yielded ops a.tmps)=false:=by
     obtain ⟨v',k1,k2⟩:=fE d (z9 q3 q4) _ q5
     have hy:=xG (ops:=ops) (tmps:=a.tmps) (j:=g) (d:=d) (by simpa [bU] using q4)
     rw [k1] at hy
     rcases q6 with ⟨b,rfl,hb⟩ | ⟨vs,rfl⟩
     ·rw [k2.j5] at hy
      simp only [Region.wanted,q3,hy]
      rw [← hb]
      cases b <;> cases want <;> rfl
     ·obtain ⟨ys,rfl,_⟩:=an.np (xs:=vs.toList) k2
      simp only [Region.wanted,q3,hy]
      rfl
    rw [if_neg (by rw [hw]; simp)]
    refine ⟨fun _ _=>trivial,after undef w ν ⟨ν.le_refl,fun _ _=>rfl,by rw [q1]; exact .undef ν,Below.refl _ _,fun _=>rfl,(fun b hb=>by rw [q2] at hb; cases hb)⟩⟩
/-- **Whatever order is drawn.** -/
theorem T3 (hm:P.follows .mixedOrders=true):m5 P NM:=by
 intro E hE r n F bO ops Q id ν tmps H a w k hi h hk
 obtain ⟨m,aS,bg,h⟩:=h
 have h:=lX h
 obtain ⟨Ot,h⟩:=xH h
 have hc:=JS bg
 obtain ⟨rs,iK,kc,gm⟩:=D8 (P:=P) hE.toEnvOk (ops:=ops.toList) (t0:=tmps) (H:=H) (aS:=aS) (l:=ops.toList.take m) (ms:=aS) (j:=0) (rs:=[]) rfl
  (fun i o ho=>by
   rw [List.getElem?_take] at ho
   split at ho
   ·simpa using ho
   ·cases ho)
  (fun i _=>by simp) (fun i hi=>by omega) h
 have gm:=s8 gm
 have hlen:0+(ops.toList.take m).length=m:=by rw [List.length_take]; omega
 rw [hlen] at iK kc gm
 refine wpIn_region_any hm ?_
 have hD:DB (Array.replicate ops.size false)=fun _=>false:=by
  funext i
  unfold DB
  by_cases h:i < ops.size <;> simp [h]
 refine K2 (F:=F) (fl:=[]) hc.toOrder (by have:=hc.le; simpa using this) hc.apart (fun j hj hm i hi _=>hc.tail j (by simpa using hj) hm i (by omega)) kc ?_ ops.size _ ν a _ (by simp) (fun j o hj=>by rw [hD] at hj; cases hj) (fun i aP=>by rw [hD] at aP; cases aP) ?_ (fun i _ _=>hi.fr _ (by omega)) ?_
 ·intro fuel aC ν a w hs eY ak c7 hi hu
  have hle:m≤ops.size:=by have:=hc.le; simpa using this
  have hD:∀ i,DB aC i=decide (i < m):=fun i=>by
   by_cases h:i < m
   ·rw [c7 i h (by simp)]; simp [h]
   ·cases hd:DB aC i with
    | true=>exact absurd (ak i hd) h
    | false=>simp [h]
  have e1:bf ops.toList rs (DB aC) tmps m=bf ops.toList rs (fun i=>decide (i < m)) tmps m:=xy (fun i _=>hD i)
  have e2:kD rs (DB aC) m=rs.map (·.nb):=by
   unfold kD
   apply List.ext_getElem?
   intro i
   rw [List.getElem?_map,List.getElem?_map]
   by_cases h:i < m
   ·rw [List.getElem?_range h,List.getElem?_eq_getElem (by omega:i < rs.length)]
    simp only [Option.map_some,hD i,h,decide_true,if_true]
    rw [List.getElem?_eq_getElem (by omega:i < rs.length)]; rfl
   ·rw [List.getElem?_eq_none (by simp; omega),List.getElem?_eq_none (by omega)]; rfl
  rw [e1,e2] at hi
  exact D9 hE bO hc.toOrder hc.tail hk fuel aC m ν _ _ a w hs hD (Nat.le_refl _) hle hi gm (by
   have:=Dm hD ops.size hle; omega)
 ·rw [hD]
  have e1:bf ops.toList rs (fun _=>false) tmps m=tmps:=vy (j:=0) (by omega) (fun _ _ _=>rfl)
  rw [e1]
  have kE:Below w.heap.size w { w with drawn:=w.drawn+1 }:=⟨rfl,rfl,rfl,Nat.le_refl _,fun _ _=>rfl⟩
  refine ⟨hi.tm,hi.df.below kE,(hi.hp.below kE).rD (fun id c cK=>?_),fun id bu=>hi.fr id (by rw [List.length_append] at bu; omega),hi.kp.below kE,fun id c lc cK nO dK=>?_,hi.mono⟩
  ·rw [List.getElem?_append] at cK
   split at cK
   ·exact cK
   ·have:=(qS.1 cK).2.1; cases this
  ·rw [List.getElem?_append] at cK
   split at cK
   ·exact hi.own id c lc cK nO dK
   ·have:=(qS.1 cK).2.1; cases this
 ·unfold gx
  have:=List.length_filter_le (fun i=>!DB (Array.replicate ops.size false) i) (List.range ops.size)
  simpa using this
end
end Go.Ae
/- Regions that draw, in which moves may come behind the first stores. -/
namespace Go.Ae
open Go Go.RowKit
/-- A store or a quiet operation. -/
def Hm (E:Env) (o:Oper) (t:List Value) (H:ax) (k:SK):Prop :=
 match o.op with
 | .store ty x y=>Bw E t H ty x y fun t' H'=>dw t' o.dst undef fun uH=>k uH H'
 | .call c=>match c.callee with
  | .builtin .append=>match c.args.toList,c.argTypes.toList with
   | [x,y],[ty,ty']=>match Nat.beq ty ty' with
    | true=>bZ t x fun xv=>bZ t y fun yv=>match AU xv with
     | true=>Fq E [] H ty xv yv fun v _ H'=>dw t o.dst v fun t'=>k t' H'
     | false=>False
    | false=>False
   | _,_=>False
  | .builtin .copy=>match c.args.toList,c.argTypes.toList with
   | [x,y],[ty,_]=>bZ t x fun xv=>bZ t y fun yv=>Fs E H ty xv yv fun v H'=>dw t o.dst v fun t'=>k t' H'
   | _,_=>False
  | _=>js H fun aI=>kM E o.op t H aI fun v nb=>dw t o.dst v fun t'=>uh H nb fun H'=>k t' H'
 | _=>js H fun aI=>kM E o.op t H aI fun v nb=>dw t o.dst v fun t'=>uh H nb fun H'=>k t' H'
/-- Blocks from before the region stay, where it is asked. -/
def Ou:Option Nat→ax→ax→Prop→Prop
 | none,_,_,k=>k
 | some n,H,H',k=>H'.take n=H.take n∧k
def BT (E:Env) (fz:Option Nat):List Oper→List Value→ax→SK→Prop
 | [],t,H,k=>k t H
 | o::l,t,H,k=>Hm E o t H fun t' H'=>Ou fz H H' (BT E fz l t' H' k)
theorem K3 {fz:Option Nat} {H H':ax} {k:Prop} (h:Ou fz H H' k):k∧∀ n,fz=some n→H'.take n=H.take n:=by
 cases fz with
 | none=>exact ⟨h,fun n e=>by cases e⟩
 | some m=>exact ⟨h.2,fun n e=>by cases e; exact h.1⟩
/-- Does a floating operation read the heap? -/
def Hn (ops:List Oper) (fl:List Nat) (n:Nat):Option Nat:=match fl.all fun f=>match ops[f]? with | some o=>l6 o.op | none=>true with
 | true=>none
 | false=>some n
def Fw (ops:List Oper) (m q:Nat) (aS:List (List Nat)) (fl:List Nat):Bool :=
 decide (m+q≤ops.length) && Bd ops aS &&
 (List.range ops.length).all (fun j=>match ops[j]? with
  | some o=>o.after.toList.all fun e=>!Region.binds .any e || decide (e.on < j)
  | none=>true) &&
 (List.range m).all (fun j=>match ops[j]? with
  | some o=>(List.range m).all fun i=>i == j || match ops[i]? with
   | some p=>match p.dst with
    | some d=>(o.dst != some d) && (!(je ops o).contains d || (aS.getD j []).contains i || (aS.getD i []).contains j)
    | none=>true
   | none=>true
  | none=>true) &&
 fl.all (fun f=>decide (f < m) && match ops[f]? with
  | some o=>o.guard.isNone && ((l6 o.op || (l8 o.op && (aS.getD f []).all fun i=>fl.contains i)) && ((match o.dst with | some d=>!(iC o.op.operands.toList).contains d | none=>false) && (List.range (m+q)).all fun i=>i == f || (match bU ops i with
   | none=>true
   | some e=>(o.dst != some e) && (!(iC o.op.operands.toList).contains e || (decide (i < m) && (aS.getD f []).contains i)))))
  | none=>false) &&
 (List.range (m+q)).all (fun j=>decide (j < m) || match ops[j]? with
  | some o=>o.guard.isNone && ((List.range j).all fun i=>(aS.getD j []).contains i || fl.contains i) && fl.all fun f=>(aS.getD j []).contains f || match bU ops f with | some d=>!(je ops o).contains d | none=>false
  | none=>true) &&
 (List.range ops.length).all (fun j=>decide (j < m+q) || (List.range j).all fun i=>(aS.getD j []).contains i)
structure Mv (ops:List Oper) (m q:Nat) (aS:List (List Nat)) (fl:List Nat):Prop extends Order ops aS where
 le:m+q≤ops.length
 apart:∀ j o i p d,j < m→i < m→i≠j→ops[j]?=some o→ops[i]?=some p→p.dst=some d→o.dst≠some d∧(d ∉ je ops o∨i∈aS.getD j []∨j∈aS.getD i [])
 qn:∀ f∈fl,f < m∧∃ o d,ops[f]?=some o∧o.guard=none∧(l6 o.op=true∨(l8 o.op=true∧∀ i∈aS.getD f [],i∈fl))∧o.dst=some d∧d ∉ iC o.op.operands.toList∧∀ i e,i < m+q→i≠f→bU ops i=some e→e≠d∧(e∈iC o.op.operands.toList→i < m∧i∈aS.getD f [])
 mid:∀ j o,m≤j→j < m+q→ops[j]?=some o→o.guard=none∧(∀ i,i < j→i∈aS.getD j []∨i∈fl)∧∀ f∈fl,f∈aS.getD j []∨∀ d,bU ops f=some d→d ∉ je ops o
 tail:∀ j,j < ops.length→m+q≤j→∀ i,i < j→i∈aS.getD j []
theorem Qs {ops:List Oper} {m q:Nat} {aS:List (List Nat)} {fl:List Nat} (h:Fw ops m q aS fl=true):Mv ops m q aS fl:=by
 unfold Fw at h
 simp only [Bool.and_eq_true,decide_eq_true_eq] at h
 obtain ⟨⟨⟨⟨⟨⟨h1,J⟩,h3⟩,h4⟩,h5⟩,h6⟩,h7⟩:=h
 have lt:∀ {j:Nat} {o:Oper},ops[j]?=some o→j∈List.range ops.length:=fun hj=>List.mem_range.2 (List.getElem?_eq_some_iff.1 hj).1
 refine ⟨⟨fun j o hj i hi=>?_,fun j o hj e he hb=>?_⟩,h1,fun j o i p d hj hi aK ho hp hd=>?_,fun f hf=>?_,fun j o hm hj ho=>?_,fun j hj hm i hi=>?_⟩
 ·unfold Bd at J
  have:=List.all_eq_true.1 J j (lt hj)
  rw [hj] at this
  have:=List.all_eq_true.1 this i hi
  simp only [Bool.and_eq_true,decide_eq_true_eq,List.any_eq_true,Bool.or_eq_true,beq_iff_eq,List.contains_iff_mem] at this
  obtain ⟨k1,e,k2,k3,k4⟩:=this
  exact ⟨k1,e,by simpa using k2,k3,k4⟩
 ·have:=List.all_eq_true.1 h3 j (lt hj)
  rw [hj] at this
  have:=List.all_eq_true.1 this e (by simpa using he)
  simp only [hb,Bool.not_true,Bool.false_or,decide_eq_true_eq] at this
  exact this
 ·have:=List.all_eq_true.1 h4 j (List.mem_range.2 hj)
  rw [ho] at this
  have:=List.all_eq_true.1 this i (List.mem_range.2 hi)
  rw [hp] at this
  have hb:(i == j)=false:=by simp [aK]
  rw [hb,Bool.false_or] at this
  dsimp only at this
  rw [hd] at this
  simp only [Bool.and_eq_true,bne_iff_ne,Bool.or_eq_true,Bool.not_eq_true',List.contains_iff_mem,or_assoc] at this
  refine ⟨this.1,this.2.imp (fun k=>?_) (fun k=>k)⟩
  intro gG
  rw [List.contains_iff_mem.2 gG] at k
  cases k
 ·have:=List.all_eq_true.1 h5 f hf
  simp only [Bool.and_eq_true,decide_eq_true_eq] at this
  obtain ⟨k1,k2⟩:=this
  refine ⟨k1,?_⟩
  split at k2
  ·rename_i o ho
   simp only [Bool.and_eq_true,Bool.or_eq_true,Option.isNone_iff_eq_none] at k2
   obtain ⟨k2,hx,k3,k4⟩:=k2
   cases hd:o.dst with
   | none=>rw [hd] at k3; cases k3
   | some d =>
   rw [hd] at k3
   have Gv:d ∉ iC o.op.operands.toList:=fun hm=>by
    have k3:(!(iC o.op.operands.toList).contains d)=true:=k3
    rw [List.contains_iff_mem.2 hm] at k3; cases k3
   refine ⟨o,d,ho,k2,hx.imp id (fun h=>⟨h.1,fun i hi=>by simpa using List.all_eq_true.1 h.2 i hi⟩),hd,Gv,fun i e hi aK he=>?_⟩
   have:=List.all_eq_true.1 k4 i (List.mem_range.2 hi)
   have hb:(i == f)=false:=by simp [aK]
   rw [hb,Bool.false_or,he,hd] at this
   simp only [Bool.or_eq_true,Bool.and_eq_true,bne_iff_ne,decide_eq_true_eq,List.contains_iff_mem,Bool.not_eq_true'] at this
   obtain ⟨h1,J⟩:=this
   refine ⟨fun e'=>h1 (by rw [e']),fun e'=>?_⟩
   rcases J with J | J
   ·rw [List.contains_iff_mem.2 e'] at J; cases J
   ·exact J
  ·cases k2
 ·have:=List.all_eq_true.1 h6 j (List.mem_range.2 hj)
  have hd:decide (j < m)=false:=by simp; omega
  rw [hd,Bool.false_or,ho] at this
  simp only [Bool.and_eq_true,Option.isNone_iff_eq_none,List.all_eq_true,List.mem_range,Bool.or_eq_true,List.contains_iff_mem] at this
  obtain ⟨⟨k1,k2⟩,k3⟩:=this
  refine ⟨k1,k2,fun f hf=>(k3 f hf).imp (fun h=>h) (fun h d hd=>?_)⟩
  rw [hd] at h
  simp only [Bool.not_eq_true'] at h
  intro gG
  rw [List.contains_iff_mem.2 gG] at h
  cases h
 ·have:=List.all_eq_true.1 h7 j (List.mem_range.2 hj)
  simp only [Bool.or_eq_true,decide_eq_true_eq,List.all_eq_true,List.mem_range,List.contains_iff_mem] at this
  rcases this with h | h
  ·omega
  ·exact h i hi
/-- A region that draws, with floating moves. -/
def NN (E:Env) (ops:List Oper) (t:List Value) (H:ax) (k:SK):Prop :=
 ∃ (m q:Nat) (aS:List (List Nat)) (fl:List Nat),Fw ops m q aS fl=true∧js H fun n0=>tT ops m fun hd tl=>tT tl q fun md tl2 =>
  ld E ops H n0 hd aS 0 t [] fun t' S=>m8 H S fun G=>BT E (Hn ops fl n0) md t' G fun t2 G2=>mW E ops tl2 t2 G2 k
/-- Between: some of the floating operations have not gone. -/
structure uj (fz:Option Nat) (P:Program) (F:Fr) (bw:Nu) (ops:List Oper) (fl:List Nat) (D:Nat→Bool) (ν:Nu) (t:List Value) (H:ax) (a:Act) (w:World):Prop where
 len:t.length=a.tmps.toList.length
 tm:∀ (d:Nat) v,t[d]?=some v→(∀ f∈fl,D f=false→bU ops f≠some d)→∃ v',a.tmps.toList[d]?=some v'∧an ν v v'
 un:∀ f∈fl,D f=false→∀ o d,ops[f]?=some o→o.dst=some d→∃ v G,t[d]?=some v∧nw P bw G o.op t v∧∀ id b,G[id]?=some (some b)→H[id]?=some (some b)∧∃ n,fz=some n∧id < n
 le:bw.le ν
 rest:bC F ν [] H { a with tmps:=#[] } w
theorem Mw:∀ {l:List Value} {n:Nat} {v:Value} {k:List Value→Prop},n < l.length→k (l.set n v)→wQ l n v k
 | [],_,_,_,h,_=>absurd h (Nat.not_lt_zero _)
 | _::l,0,v,k,_,h=>h
 | x::l,n+1,v,k,h,hk=>Mw (l:=l) (by simpa using h) hk
theorem nw.same {P:Program} {bw:Nu} {G:ax} {op:Op} {t t':List Value} {v:Value} (h:nw P bw G op t v) (hs:∀ s∈iC op.operands.toList,t'[s]?=t[s]?):nw P bw G op t' v :=
 ⟨h.1,fun o ν a w hle ho ha=>h.2 o ν a w hle ho fun x hx s m7 u hu=>ha x hx s m7 u (by rw [hs s (o4 (by rw [← m7]; simpa using hx))]; exact hu)⟩
theorem pH.heap {P:Program} {bw:Nu} {op:Op} {t:List Value} {v:Value} (h:pH P bw op t v) (G:ax):nw P bw G op t v:=⟨h.1,fun o ν a w hle ho ha _=>h.2 o ν a w hle ho ha⟩
theorem K4 {fz:Option Nat} {G H H':ax} (h:∀ id b,G[id]?=some (some b)→H[id]?=some (some b)∧∃ n,fz=some n∧id < n) (hf:∀ n,fz=some n→H'.take n=H.take n) :
  ∀ id b,G[id]?=some (some b)→H'[id]?=some (some b)∧∃ n,fz=some n∧id < n:=fun id b hb=>by
 obtain ⟨h1,n,J,h3⟩:=h id b hb
 refine ⟨?_,n,J,h3⟩
 have:=congrArg (fun l=>l[id]?) (hf n J)
 simp only [List.getElem?_take,if_pos h3] at this
 rw [this]; exact h1
theorem AV {op:Op} {C:Prop} (h:l6 op=true∨(l8 op=true∧C)):(l6 op || l8 op)=true:=by
 rcases h with h | ⟨h,_⟩
 ·rw [h]; rfl
 ·rw [h]; simp
theorem EO {t:List Value} {o:Option Tmp} {v:Value} {k:List Value→Prop} {C:Prop} (h:dw t o v k) (hk:∀ t,k t→C):C:=by
 cases o with
 | none=>exact hk _ h
 | some d=>exact hk _ (oe h).2
theorem uj.put {fz:Option Nat} {P:Program} {F:Fr} {bw:Nu} {ops:List Oper} {fl:List Nat} {D D':Nat→Bool} {ν aj:Nu} {t:List Value} {H H':ax} {a:Act} {w w':World} (h:uj fz P F bw ops fl D ν t H a w) (Ik:∀ n,fz=some n→H'.take n=H.take n) (hle:ν.le aj)
  (hD:∀ f∈fl,D' f=D f) {v v':Value} (hv:an aj v v') {o:Option Tmp} (ho:∀ d,o=some d→∀ f∈fl,∀ p e,ops[f]?=some p→p.dst=some e→d≠e∧d ∉ iC p.op.operands.toList)
  {k:List Value→Prop} (hk:dw t o v k) (hr:bC F aj [] H' { a with tmps:=#[] } w'):∃ t',k t'∧uj fz P F bw ops fl D' aj t' H' (a.put o v') w':=by
 cases o with
 | none =>
  refine ⟨t,hk,h.len,fun d u hu hn=>?_,fun f lN hd p e h1 J=>?_,Nu.le_trans h.le hle,hr⟩
  ·obtain ⟨u',k1,k2⟩:=h.tm d u hu (fun f lN hd=>hn f lN (by rw [hD f lN]; exact hd))
   exact ⟨u',k1,k2.mono hle⟩
  ·obtain ⟨u,G,q1,q2,q3⟩:=h.un f lN (by rw [← hD f lN]; exact hd) p e h1 J
   exact ⟨u,G,q1,q2,K4 q3 Ik⟩
 | some d0 =>
  obtain ⟨h1,J⟩:=oe hk
  refine ⟨_,J,?_,fun d u hu hn=>?_,fun f lN hd p e k1 k2=>?_,Nu.le_trans h.le hle,hr⟩
  ·rw [qZ,List.length_set,List.length_set]; exact h.len
  ·rw [qZ]
   by_cases e:d0=d
   ·subst e
    rw [List.getElem?_set_self h1] at hu
    cases hu
    exact ⟨v',by rw [List.getElem?_set_self (by rw [← h.len]; exact h1)],hv⟩
   ·rw [List.getElem?_set_ne e] at hu ⊢
    obtain ⟨u',k1,k2⟩:=h.tm d u hu (fun f lN hd=>hn f lN (by rw [hD f lN]; exact hd))
    exact ⟨u',k1,k2.mono hle⟩
  ·obtain ⟨aK,hns⟩:=ho d0 rfl f lN p e k1 k2
   obtain ⟨u,G,q1,q2,q3⟩:=h.un f lN (by rw [← hD f lN]; exact hd) p e k1 k2
   exact ⟨u,G,by rw [List.getElem?_set_ne aK]; exact q1,q2.same fun s hs=>by rw [List.getElem?_set_ne (fun e:d0=s=>hns (by rw [e]; exact hs))],K4 q3 Ik⟩
section
variable {fz:Option Nat} {P:Program} {E:Env} {r:Option Nat} {n:Nat} {F:Fr} {ops:Array Oper} {Q:Exit→Act→World→Prop} {m q:Nat} {aS:List (List Nat)} {fl:List Nat} {k:SK}
/-- One operation of the middle. -/
theorem T4 (hE:jQ P E) (bO:kN F E) {bw:Nu} {o:Oper} {D D':Nat→Bool} {ν:Nu} {t:List Value} {H:ax} {a:Act} {w:World} (h:uj fz P F bw ops.toList fl D ν t H a w) {k:SK} (zu:∀ t' H',k t' H'→∀ n,fz=some n→H'.take n=H.take n)
  (hD:∀ f∈fl,D' f=D f)
  (fE:∀ f∈fl,D f=false→∀ d,bU ops.toList f=some d→d ∉ je ops.toList o)
  (ho:∀ d,o.dst=some d→∀ f∈fl,∀ p e,ops.toList[f]?=some p→p.dst=some e→d≠e∧d ∉ iC p.op.operands.toList)
  (hk:Hm E o t H k) {next:Act→World→Prop} {Q:Exit→Act→World→Prop}
  (hn:∀ aj t' H' a' w',uj fz P F bw ops.toList fl D' aj t' H' a' w'→k t' H'→next a' w'):o.wpIn (WF r) n P a w next Q:=by
 have nU:∀ x∈o.op.operands,fk ν t a x:=fun x hx s hs v hv=>by
  obtain ⟨v',k1,k2⟩:=h.tm s v hv (fun f lN hd eO=>fE f lN hd s eO (by unfold je; exact List.mem_append_left _ (o4 (by rw [hs] at hx; simpa using hx))))
  exact ⟨v',by simpa using k1,k2⟩
 have quiet:(js H fun aI=>kM E o.op t H aI fun v nb=>dw t o.dst v fun t'=>uh H nb fun H'=>k t' H')→o.wpIn (WF r) n P a w next Q:=by
  intro hk
  have hk:=lX hk
  obtain ⟨v,nb,qj,hq⟩:=AE (P:=P) hE.toEnvOk hk
  refine hq o ν a w r n rfl nU h.rest.hp (h.rest.fr _ (Nat.le_refl _)) next Q (fun v' w' aj hp=>?_)
  cases hd:o.dst with
  | none =>
   rw [hd] at qj ho
   obtain ⟨H',h1,J⟩:=h.rest.quiet hp qj
   obtain ⟨t',k1,k2⟩:=h.put (D':=D') (o:=none) (zu _ _ h1) hp.le hD hp.val (fun d hd=>by cases hd) (k:=fun t'=>t'=t) rfl J
   subst k1
   exact hn _ _ _ _ _ k2 h1
  | some d =>
   rw [hd] at qj ho
   obtain ⟨h1,J⟩:=oe qj
   obtain ⟨H',h3,h4⟩:=h.rest.quiet hp J
   obtain ⟨t',k1,k2⟩:=h.put (D':=D') (o:=some d) (zu _ _ h3) hp.le hD hp.val ho (k:=fun t'=>k t' H') (by
    show wQ t d v _
    exact Mw h1 h3) h4
   exact hn _ _ _ _ _ k2 k1
 unfold Hm at hk
 split at hk
 ·rename_i ty x y ao
  have hx:fk ν t a x:=nU x (by rw [ao]; simp [Op.operands])
  have hy:fk ν t a y:=nU y (by rw [ao]; simp [Op.operands])
  obtain ⟨w',H',bF,aP,J⟩:=Kb hE.toEnvOk ao h.rest hx hy hk
  obtain ⟨t',k1,k2⟩:=h.put (D':=D') (o:=o.dst) (EO J fun t hk=>zu t _ hk) ν.le_refl hD (.undef ν) ho J aP
  refine ⟨fun _ _=>trivial,?_⟩
  rw [Oper.semAt_eq _ _ _ (by simp [ao]),bF]
  exact hn _ _ _ _ _ k2 k1
 ·rename_i c ao
  split at hk
  ·rename_i hc
   split at hk
   ·rename_i x y t1 t2 qz CS
    split at hk
    ·rename_i hb
     have hb:t1=t2:=Nat.eq_of_beq_eq_true hb
     subst hb
     have uM:c.args=#[x,y]:=Array.ext' qz
     have zc:c.argTypes=#[t1,t1]:=Array.ext' CS
     obtain ⟨xv,jx,uD⟩:=kz hk (nU x (by rw [ao]; simp [Op.operands,Call.operands,uM]))
     obtain ⟨yv,zv,uE⟩:=kz jx (nU y (by rw [ao]; simp [Op.operands,Call.operands,uM]))
     split at zv
     ·rename_i hex
      obtain ⟨v,v',aj,t',H',w',h1,J,h3,h4,h5⟩:=JQ hE.toEnvOk bO h.rest uD uE zv o.type
      obtain rfl:t'=[]:=List.eq_nil_of_length_eq_zero (by have:=h3.tm.1; simpa using this)
      obtain ⟨t2,k1,k2⟩:=h.put (D':=D') (EO h1 fun t hk=>zu t _ hk) (h5 hex) hD J ho h1 h3
      exact jD (by simp [ao]) (by simp [execOp,ao,resolve,hc,uM,zc,invoke,builtin,h4]) next Q (hn _ _ _ _ _ k2 k1)
     ·exact zv.elim
    ·exact hk.elim
   ·exact hk.elim
  ·rename_i hc
   split at hk
   ·rename_i x y t1 t2 qz CS
    have uM:c.args=#[x,y]:=Array.ext' qz
    have zc:c.argTypes=#[t1,t2]:=Array.ext' CS
    obtain ⟨xv,jx,uD⟩:=kz hk (nU x (by rw [ao]; simp [Op.operands,Call.operands,uM]))
    obtain ⟨yv,zv,uE⟩:=kz jx (nU y (by rw [ao]; simp [Op.operands,Call.operands,uM]))
    obtain ⟨v,H',w',h1,J,h3,h4⟩:=Kg hE.toEnvOk h.rest uD uE zv t2 o.type
    obtain ⟨t2,k1,k2⟩:=h.put (D':=D') (EO h1 fun t hk=>zu t _ hk) ν.le_refl hD J ho h1 h3
    exact jD (by simp [ao]) (by simp [execOp,ao,resolve,hc,uM,zc,invoke,builtin,h4]) next Q (hn _ _ _ _ _ k2 k1)
   ·exact hk.elim
  ·exact quiet hk
 ·exact quiet hk
theorem T5 (hE:jQ P E) (bO:kN F E) (hc:Mv ops.toList m q aS fl) (hk:∀ ν t' H' a' w',bC F ν t' H' a' w'→k t' H'→Q .normal a' w') :
  ∀ (fuel:Nat) (aC:Array Bool) (j0:Nat) (bw ν:Nu) (t:List Value) (H:ax) (a:Act) (w:World),aC.size=ops.size→ot ops.toList (DB aC)→m≤j0→j0≤m+q →
  (∀ i,i < j0→i ∉ fl→DB aC i=true)→(∀ i,DB aC i=true→i < j0)→uj fz P F bw ops.toList fl (DB aC) ν t H a w →
  BT E fz ((ops.toList.take (m+q)).drop j0) t H (fun t' H'=>mW E ops.toList (ops.toList.drop (m+q)) t' H' k)→gx (DB aC) ops.size≤fuel→wpAnyIn (WF r) n P .any ops Q fuel aC a w:=by
 have hle:m+q≤ops.size:=by have:=hc.le; simpa using this
 have wT:∀ (i:Nat) (d:Tmp),i < m+q→m≤i→bU ops.toList i=some d→∀ f∈fl,f≠i→∀ p e,ops.toList[f]?=some p→p.dst=some e→d≠e∧d ∉ iC p.op.operands.toList:=by
  intro i d hi BS hd f hf aK p e h1 h3
  obtain ⟨_,o,d',k1,k2,k3,k4,_,k5⟩:=hc.qn f hf
  rw [h1] at k1; cases k1
  rw [h3] at k4; cases k4
  obtain ⟨q1,q2⟩:=k5 i d hi (Ne.symm aK) hd
  exact ⟨q1,fun e'=>by have:=(q2 e').1; omega⟩
 have finish:∀ (fuel:Nat) (aC:Array Bool) (j0:Nat) (bw ν:Nu) (t:List Value) (H:ax) (a:Act) (w:World),aC.size=ops.size→m≤j0→j0≤m+q→(∀ i,DB aC i=true→i < j0)→uj fz P F bw ops.toList fl (DB aC) ν t H a w →
   BT E fz ((ops.toList.take (m+q)).drop j0) t H (fun t' H'=>mW E ops.toList (ops.toList.drop (m+q)) t' H' k)→gx (DB aC) ops.size≤fuel→(∀ i,i < m+q→DB aC i=true)→wpAnyIn (WF r) n P .any ops Q fuel aC a w:=by
  intro fuel aC j0 bw ν t H a w hs hm kt ak hi h hu c7
  have e:j0=m+q:=by
   rcases Nat.lt_or_ge j0 (m+q) with h' | h'
   ·have:=ak j0 (c7 j0 h'); omega
   ·omega
  subst e
  rw [List.drop_eq_nil_of_le (by simp; omega)] at h
  have hD:∀ i,DB aC i=decide (i < m+q):=fun i=>by
   by_cases h:i < m+q
   ·rw [c7 i h]; simp [h]
   ·cases hd:DB aC i with
    | true=>exact absurd (ak i hd) h
    | false=>simp [h]
  have aP:bC F ν t H a w:=⟨⟨hi.len,fun d x y hx hy=>by
   obtain ⟨y',k1,k2⟩:=hi.tm d x hx (fun f hf hd=>by have:=(hc.qn f hf).1; rw [c7 f (by omega)] at hd; cases hd)
   rw [hy] at k1; cases k1; exact k2⟩,hi.rest.df,hi.rest.hp,hi.rest.fr,hi.rest.kp,hi.rest.own,hi.rest.mono⟩
  exact D9 hE bO hc.toOrder (m:=m+q) hc.tail hk fuel aC (m+q) ν t H a w hs hD (Nat.le_refl _) hle aP h (by
   have:=Dm hD ops.size hle; omega)
 intro fuel
 induction fuel with
 | zero =>
  intro aC j0 bw ν t H a w hs eY hm kt oB ak hi h hu
  exact finish 0 aC j0 bw ν t H a w hs hm kt ak hi h hu (fun i aP=>by
   cases hd:DB aC i with
   | true=>rfl
   | false=>have:=DO (n:=ops.size) (by omega:i < ops.size) hd; omega)
 | succ fuel ih =>
  intro aC j0 bw ν t H a w hs eY hm kt oB ak hi h hu
  by_cases c7:∀ i,i < m+q→DB aC i=true
  ·exact finish (fuel+1) aC j0 bw ν t H a w hs hm kt ak hi h hu c7
  ·have hex:∃ i,i < m+q∧DB aC i=false:=by
    refine Classical.byContradiction fun aK=>c7 fun i aP=>?_
    cases hd:DB aC i with
    | true=>rfl
    | false=>exact absurd ⟨i,aP,hd⟩ aK
   obtain ⟨i1,CQ,gj⟩:=hex
   obtain ⟨i0,Oq,fF,iZ⟩:=Dn gj
   have hr:=Am hc.toOrder hs (by omega:i0 < ops.size) fF iZ
   refine ⟨(fun hn=>by rw [hn] at hr; cases hr),fun j hj=>?_⟩
   rw [mem_ready] at hj
   obtain ⟨h1,o,ho,he⟩:=hj
   have m9:j < ops.size:=(Array.getElem?_eq_some_iff.1 ho).1
   rw [th (by omega)] at h1
   have gh:ops.toList[j]?=some o:=by simpa using ho
   have lM:=sU hc.toOrder eY j o gh (fun e' gi bD=>he e' gi bD)
   have di:∀ i,DB (aC.setIfInBounds j true) i=(DB aC i || i == j):=fun i=>Bz (by omega) i
   have wW:ot ops.toList (DB (aC.setIfInBounds j true)):=by
    intro i p aP hp e' gi bD
    rw [di] at aP ⊢
    by_cases e:i=j
    ·subst e
     rw [gh] at hp; cases hp
     have:DB aC e'.on=true:=he e' gi bD
     rw [this]; rfl
    ·have e2:(i == j)=false:=by simp [e]
     rw [e2,Bool.or_false] at aP
     rw [eY i p aP hp e' gi bD]; rfl
   have ss:gx (DB (aC.setIfInBounds j true)) ops.size≤fuel:=by
    have:=Ax di h1 ops.size
    rw [if_pos m9] at this; omega
   by_cases zw:j∈fl
   ·-- a floating move
    obtain ⟨mz,o',d,g1,g2,g3,g4,g6,g5⟩:=hc.qn j zw
    rw [gh] at g1; cases g1
    obtain ⟨v,G,nc,Ig,hGH⟩:=hi.un j zw h1 o d gh g4
    obtain ⟨vu,Il,aaM⟩:=Ig.2 o ν a w hi.le rfl (fun x hx s m7 u hu=>by
     have qA:s∈iC o.op.operands.toList:=o4 (by rw [← m7]; simpa using hx)
     obtain ⟨u',r1,r2⟩:=hi.tm s u hu (fun f hf hd eO=>by
      have zz:=(hc.qn f hf).1
      by_cases e:f=j
      ·subst e
       have:bU ops.toList f=some d:=by simp [bU,gh,g4]
       rw [this] at eO; cases eO
       exact g6 qA
      ·have:=((g5 f s (by omega) e eO).2 qA).2
       rw [lM f this] at hd; cases hd)
     exact ⟨u',by simpa using r1,r2⟩) (hi.rest.hp.rD fun id b hb=>(hGH id b hb).1)
    unfold wpOpIn
    rw [ho]
    dsimp only
    rw [if_pos (by simp [Region.wanted,g2])]
    refine jD (v':=vu) (w':=w) Ig.1 aaM _ Q ?_
    rw [g4]
    refine ih _ j0 bw ν t H _ w (by simp [hs]) wW hm kt (fun i aP hf=>by rw [di,oB i aP hf]; rfl) (fun i aP=>?_) ⟨?_,fun e u xj bR=>?_,fun f hf hd p e k1 k2=>?_,hi.le,hi.rest⟩ h ss
    ·rw [di] at aP
     by_cases e:i=j
     ·omega
     ·have e2:(i == j)=false:=by simp [e]
      rw [e2,Bool.or_false] at aP
      exact ak i aP
    ·rw [qZ,List.length_set]; exact hi.len
    ·rw [qZ]
     by_cases e':d=e
     ·subst e'
      rw [nc] at xj; cases xj
      have:d < t.length:=(List.getElem?_eq_some_iff.1 nc).1
      exact ⟨vu,by rw [List.getElem?_set_self (by rw [← hi.len]; exact this)],Il⟩
     ·rw [List.getElem?_set_ne e']
      refine hi.tm e u xj (fun f hf hd=>?_)
      by_cases e3:f=j
      ·subst e3
       intro cY
       have:bU ops.toList f=some d:=by simp [bU,gh,g4]
       rw [this] at cY; exact e' (Option.some.inj cY)
      ·exact bR f hf (by rw [di,hd]; simp [e3])
    ·have aK:f≠j:=fun e3=>by subst e3; rw [di] at hd; simp at hd
     have bV:DB aC f=false:=by
      rw [di] at hd
      simp only [Bool.or_eq_false_iff] at hd
      exact hd.1
     exact hi.un f hf bV p e k1 k2
   ·have eG:j0≤j:=by
     rcases Nat.lt_or_ge j j0 with h' | h'
     ·rw [oB j h' zw] at h1; cases h1
     ·exact h'
    have Im:j < m+q:=by
     rcases Nat.lt_or_ge j (m+q) with h' | h'
     ·exact h'
     ·have:=lM i1 (hc.tail j (by simpa using m9) h' i1 (by omega))
      rw [gj] at this; cases this
    obtain ⟨c1,c2,c3⟩:=hc.mid j o (by omega) Im gh
    have hjj:j=j0:=by
     rcases Nat.lt_or_ge j0 j with h' | h'
     ·rcases c2 j0 h' with J | J
      ·have:=ak j0 (lM j0 J); omega
      ·have:=(hc.qn j0 J).1; omega
     ·omega
    subst hjj
    have GD:(ops.toList.take (m+q)).drop j=o::(ops.toList.take (m+q)).drop (j+1):=by
     have hl:j < (ops.toList.take (m+q)).length:=by simp; omega
     rw [List.drop_eq_getElem_cons hl]
     congr 1
     have:=List.getElem?_eq_getElem hl
     rw [List.getElem?_take,if_pos Im,gh] at this
     exact (Option.some.inj this).symm
    rw [GD] at h
    unfold wpOpIn
    rw [ho]
    dsimp only
    rw [if_pos (by simp [Region.wanted,c1])]
    refine T4 hE bO (D':=DB (aC.setIfInBounds j true)) hi (fun t' H' h'=>(K3 h').2) (fun f hf=>?_) (fun f hf hd d cY=>?_) (fun d hd f hf=>?_) h (fun aj t' H' a' w' aP h'=>?_)
    ·have:f≠j:=fun e=>zw (e ▸ hf)
     rw [di]; simp [this]
    ·rcases c3 f hf with J | J
     ·rw [lM f J] at hd; cases hd
     ·exact J d cY
    ·exact wT j d Im (by omega) (by simp [bU,gh,hd]) f hf (fun e=>zw (e ▸ hf))
    ·refine ih _ (j+1) bw aj t' H' a' w' (by simp [hs]) wW (by omega) (by omega) (fun i g0 hf=>?_) (fun i g0=>?_) aP (K3 h').1 ss
     ·rw [di]
      by_cases e:i=j
      ·simp [e]
      ·rw [oB i (by omega) hf]; rfl
     ·rw [di] at g0
      by_cases e:i=j
      ·omega
      ·have e2:(i == j)=false:=by simp [e]
       rw [e2,Bool.or_false] at g0
       have:=ak i g0; omega
/-- **Whatever order is drawn.** -/
theorem T6 (hm:P.follows .mixedOrders=true):m5 P NN:=by
 intro E hE r n F bO ops Q id ν tmps H a w k hi h hk
 obtain ⟨m,q,aS,fl,bg,h⟩:=h
 have h:=lX h
 obtain ⟨Ot,h⟩:=xH h
 obtain ⟨ac7,h⟩:=xH h
 have hc:=Qs bg
 obtain ⟨rs,iK,kc,gm⟩:=D8 (P:=P) hE.toEnvOk (ops:=ops.toList) (t0:=tmps) (H:=H) (aS:=aS) (l:=ops.toList.take m) (ms:=aS) (j:=0) (rs:=[]) rfl
  (fun i o ho=>by
   rw [List.getElem?_take] at ho
   split at ho
   ·simpa using ho
   ·cases ho)
  (fun i _=>by simp) (fun i hi=>by omega) h
 have gm:=s8 gm
 have hlen:0+(ops.toList.take m).length=m:=by rw [List.length_take]; omega
 rw [hlen] at iK kc gm
 have hD:DB (Array.replicate ops.size false)=fun _=>false:=by
  funext i
  unfold DB
  by_cases h:i < ops.size <;> simp [h]
 have hmd:(ops.toList.drop m).take q=(ops.toList.take (m+q)).drop m:=by
  rw [List.drop_take]; congr 1; omega
 have htl:(ops.toList.drop m).drop q=ops.toList.drop (m+q):=by rw [List.drop_drop]
 rw [hmd,htl] at gm
 have bn:m+q≤ops.size:=by have:=hc.le; simpa using this
 refine wpIn_region_any hm ?_
 refine K2 (F:=F) (fl:=fl) hc.toOrder (by omega) hc.apart (fun j hj hm i hi hf=>?_) kc ?_ ops.size _ ν a _ (by simp) (fun j o hj=>by rw [hD] at hj; cases hj) (fun i aP=>by rw [hD] at aP; cases aP) ?_ (fun i _ _=>hi.fr _ (by omega)) ?_
 ·by_cases h':j < m+q
  ·rcases (hc.mid j ops[j] hm h' (by simp [hj])).2.1 i (by omega) with h | h
   ·exact h
   ·exact absurd h hf
  ·exact hc.tail j (by simpa using hj) (by omega) i (by omega)
 ·intro fuel aC ν a w hs eY ak c7 hi hu
  have lB:∀ i d,i < m→bU ops.toList i=some d→d < tmps.length:=by
   intro i d hi hd
   obtain ⟨o,q,h1,J,h3,_⟩:=(kc i hi).ok
   unfold bU at hd
   rw [h1] at hd
   exact h3 d hd
  have oQ:wF ops.toList m:=by
   intro i j d hi hj h1 J
   rcases Nat.decEq i j with aK | he
   ·obtain ⟨o,q,k1,_⟩:=(kc i hi).ok
    obtain ⟨p,q',k2,_⟩:=(kc j hj).ok
    unfold bU at h1 J
    rw [k1] at h1; rw [k2] at J
    exact absurd h1 (hc.apart i o j p d hi hj (Ne.symm aK) k1 k2 J).1
   ·exact he
  have e2:kD rs (DB aC) m=rs.map (·.nb):=by
   unfold kD
   apply List.ext_getElem?
   intro i
   rw [List.getElem?_map,List.getElem?_map]
   by_cases h:i < m
   ·rw [List.getElem?_range h,List.getElem?_eq_getElem (by omega:i < rs.length)]
    simp only [Option.map_some]
    rw [List.getElem?_eq_getElem (by omega:i < rs.length)]
    cases gg:DB aC i with
    | true=>rfl
    | false =>
     have hf:i∈fl:=Classical.byContradiction fun hn=>by rw [c7 i h hn] at gg; cases gg
     obtain ⟨_,o,d,g1,g2,g3,g4,_⟩:=hc.qn i hf
     obtain ⟨r',k1,k2,_⟩:=(kc i h).mv o g1 (AV g3) g2
     rw [List.getElem?_eq_getElem (by omega:i < rs.length)] at k1
     cases k1
     rw [k2]; rfl
   ·rw [List.getElem?_eq_none (by simp; omega),List.getElem?_eq_none (by omega)]; rfl
  have gz:=hi.hp
  rw [e2] at hi
  refine T5 hE bO hc hk fuel aC m ν ν _ _ a w hs eY (Nat.le_refl _) (by omega) c7 ak ⟨?_,fun d u xj bR=>?_,fun f hf hd o d k1 k3=>?_,ν.le_refl,⟨.nil ν,hi.df,hi.hp,hi.fr,hi.kp,hi.own,hi.mono⟩⟩ gm hu
  ·have:=hi.tm.1
   rw [qP] at this ⊢
   exact this
  ·have GH:(bf ops.toList rs (DB aC) tmps m)[d]?=(bf ops.toList rs (fun i=>decide (i < m)) tmps m)[d]?:=by
    refine xI oQ lB (fun i aP gg=>?_)
    have:DB aC i=true:=by
     by_cases hf:i∈fl
     ·cases Ov:DB aC i with
      | true=>rfl
      | false=>exact absurd gg (bR i hf Ov)
     ·exact c7 i aP hf
    rw [this]; simp [aP]
   rw [← GH] at xj
   exact hi.tm.get xj
  ·obtain ⟨zz,o',d',g1,g2,g3,g4,g6,g5⟩:=hc.qn f hf
   rw [k1] at g1; cases g1
   rw [k3] at g4; cases g4
   obtain ⟨r',q1,q2,G,qG,q3⟩:=(kc f zz).mv o k1 (AV g3) g2
   have oO:∀ (id:Nat) (b:ai),G[id]?=some (some b)→(H++rs.map (·.nb))[id]?=some (some b)∧(H++kD rs (DB aC) m)[id]?=some (some b):=by
    intro id b hb
    rcases qG id b hb with ⟨h1,J⟩ | ⟨i,h1,J,h3,h4⟩
    ·rw [List.getElem?_append_left h1,List.getElem?_append_left h1]; exact ⟨J,J⟩
    ·subst h1
     have zA:i < m:=by omega
     have gg:DB aC i=true:=Classical.byContradiction fun hn=>by
      have CT:i∈fl:=Classical.byContradiction fun bR=>hn (c7 i zA bR)
      obtain ⟨_,o2,d2,y1,y2,y3,y4,_⟩:=hc.qn i CT
      obtain ⟨r2,z1,z2,_⟩:=(kc i zA).mv o2 y1 (AV y3) y2
      rw [z1] at h4
      simp [z2] at h4
     rw [List.getElem?_append_right (by omega),List.getElem?_append_right (by omega)]
     rw [show H.length+i - H.length=i by omega]
     refine ⟨?_,qS.2 ⟨zA,gg,h4⟩⟩
     rw [List.getElem?_map]
     cases hr:rs[i]? with
     | none=>rw [hr] at h4; cases h4
     | some r2=>rw [hr] at h4; simpa using h4
   have hG:bT ν G w:=⟨fun id b hb=>gz.aH id b (oO id b hb).2,fun x y bx bY lx ly hx hy aK ho e1 e2=>gz.sep x y bx bY lx ly (oO x bx hx).2 (oO y bY hy).2 aK ho e1 e2⟩
   have hV:∃ G2,nw P ν G2 o.op (bf ops.toList rs (fun i=>decide (i < f)) tmps f) r'.v∧∀ id b,G2[id]?=some (some b)→(H++rs.map (·.nb))[id]?=some (some b)∧∃ n,Hn ops.toList fl H.length=some n∧id < n:=by
    cases hp:l6 o.op with
    | true=>exact ⟨[],(q3.1 hp ν w hG).heap [],fun id b hb=>by simp at hb⟩
    | false =>
     obtain ⟨hh,lM⟩:=g3.resolve_left (by rw [hp]; simp)
     refine ⟨G,q3.2 hh ν,fun id b hb=>?_⟩
     rcases qG id b hb with ⟨h1,J⟩ | ⟨i,h1,J,h3,h4⟩
     ·refine ⟨by rw [List.getElem?_append_left h1]; exact J,H.length,?_,h1⟩
      unfold Hn
      have:(fl.all fun f=>match ops.toList[f]? with | some o=>l6 o.op | none=>true)=false:=by
       rw [List.all_eq_false]
       exact ⟨f,hf,by rw [k1]; simp [hp]⟩
      rw [this]
     ·obtain ⟨_,o2,d2,y1,y2,y3,y4,_⟩:=hc.qn i (lM i h3)
      obtain ⟨r2,z1,z2,_⟩:=(kc i (by omega)).mv o2 y1 (AV y3) y2
      rw [z1] at h4
      simp [z2] at h4
   obtain ⟨G2,q3,qg⟩:=hV
   have Io:bU ops.toList f=some d:=by simp [bU,k1,k3]
   refine ⟨r'.v,G2,s9 _ Io q1 (by simp [zz]) (lB f d zz Io) m zz oQ,q3.same fun s hs=>?_,qg⟩
   by_cases hex:∃ i,i < m∧i≠f∧bU ops.toList i=some s
   ·obtain ⟨i,h1,J,h3⟩:=hex
    obtain ⟨_,k5⟩:=g5 i s (by omega) J h3
    obtain ⟨_,k7⟩:=k5 hs
    have CT:=(hc.mask f o k1 i k7).1
    obtain ⟨o2,r2,w1,w2,_⟩:=(kc i h1).ok
    rw [s9 _ h3 w2 (by simp [CT]) (lB i s h1 h3) f CT (fun a b c h4 h5=>oQ a b c (by omega) (by omega)),s9 _ h3 w2 (by simp [h1]) (lB i s h1 h3) m h1 oQ]
   ·have qm:∀ i,i < m→bU ops.toList i=some s→i=f:=fun i h1 J=>Classical.byContradiction fun h3=>hex ⟨i,h1,h3,J⟩
    by_cases Pj:s=d
    ·subst Pj
     exact absurd hs g6
    ·rw [vx _ f (fun i aP _ gg=>by have:=qm i (by omega) gg; omega),vx _ m (fun i aP Ov gg=>by
      have:=qm i aP gg
      subst this
      rw [Io] at gg; exact absurd (Option.some.inj gg).symm Pj)]
 ·rw [hD]
  have e1:bf ops.toList rs (fun _=>false) tmps m=tmps:=vy (j:=0) (by omega) (fun _ _ _=>rfl)
  rw [e1]
  have kE:Below w.heap.size w { w with drawn:=w.drawn+1 }:=⟨rfl,rfl,rfl,Nat.le_refl _,fun _ _=>rfl⟩
  refine ⟨hi.tm,hi.df.below kE,(hi.hp.below kE).rD (fun id c cK=>?_),fun id bu=>hi.fr id (by rw [List.length_append] at bu; omega),hi.kp.below kE,fun id c lc cK nO dK=>?_,hi.mono⟩
  ·rw [List.getElem?_append] at cK
   split at cK
   ·exact cK
   ·have:=(qS.1 cK).2.1; cases this
  ·rw [List.getElem?_append] at cK
   split at cK
   ·exact hi.own id c lc cK nO dK
   ·have:=(qS.1 cK).2.1; cases this
 ·unfold gx
  have:=List.length_filter_le (fun i=>!DB (Array.replicate ops.size false) i) (List.range ops.size)
  simpa using this
end
end Go.Ae
/- Regions that draw their order, in which a slice grows whose block nobody else reads behind it. -/
namespace Go.Ae
open Go Go.RowKit
/-- An append: its type and what it is handed. -/
def isApp (op:Op):Option (TypeId × Operand × Operand):=match op with
 | .call c=>match c.callee with
  | .builtin .append=>match c.args.toList,c.argTypes.toList with
   | [x,y],[t,t']=>match Nat.beq t t' with
    | true=>some (t,x,y)
    | false=>none
   | _,_=>none
  | _=>none
 | _=>none
theorem Ru {op:Op} {t:TypeId} {x y:Operand} (h:isApp op=some (t,x,y)):∃ c,op=.call c∧c.callee=.builtin .append∧c.args=#[x,y]∧c.argTypes=#[t,t]:=by
 unfold isApp at h
 split at h
 ·rename_i c
  split at h
  ·rename_i hc
   split at h
   ·rename_i x' y' t1 t2 hx ht
    split at h
    ·rename_i hb
     cases h
     have hb:=Nat.eq_of_beq_eq_true hb
     subst hb
     exact ⟨c,rfl,hc,Array.ext' hx,Array.ext' ht⟩
    ·cases h
   ·cases h
  ·cases h
 ·cases h
/-- An append whose slice is nil, or lies in a block that came in this region: its block gives way. -/
def Ow (E:Env) (tmps:List Value) (G:ax) (n0 aI:Nat) (t:TypeId) (x y:Operand) (k:Value→Option Nat→Option ai→Prop):Prop :=
 bZ tmps x fun xv=>bZ tmps y fun yv=>cR E.tt t fun ti=>match ti.kind with
  | .slice e=>cR E.tt e fun te=>yQ G te.size yv fun s=>match xv with
   | .slice none 0 0=>match s.m with
    | 0=>k (.slice none 0 0) none none
    | m+1=>((m+1)*te.bytes≤140737488355328)∧k (.slice (some ⟨aI,0,none⟩) (m+1) aN) none (some (oo te.size s))
   | .slice (some ⟨id,0,none⟩) n c=>gF G id fun b=>match Nat.beq b.ah te.size && Nat.ble n0 id with
    | true=>(n=b.n∧(n+s.m)*te.bytes≤140737488355328)∧vR b s fun b'=>k (.slice (some ⟨aI,0,none⟩) (n+s.m) aN) (some (id - n0)) (some b')
    | false=>False
   | _=>False
  | _=>False
structure EPost (ν aj:Nu) (aI:Nat) (iJ:Option Loc) (w w':World) (v v':Value) (nb:Option ai):Prop where
 le:ν.le aj
 only:∀ id,id≠aI→aj id=ν id
 val:an aj v v'
 CU:Below w.heap.size w w'∨∃ l,iJ=some l∧(∃ cur t,w.heap[l.aH]?=some (.cells cur t (0,0)))∧(∀ q,q≠l.aH→w'.heap[q]?=w.heap[q]?)∧w.heap.size≤w'.heap.size∧w'.os=w.os∧w'.tape=w.tape∧w'.output=w.output
 y7:nb=none→aj=ν
 gY:∀ b,nb=some b→∃ l,aj aI=some l∧bQ aj l b w'∧(w.heap.size≤l.aH∨∃ lo,iJ=some lo∧l.aH=lo.aH)
theorem mM.e {ν aj:Nu} {aI:Nat} {w w':World} {v v':Value} {nb:Option ai} (h:mM ν aj aI w w' v v' nb) (iJ:Option Loc):EPost ν aj aI iJ w w' v v' nb :=
 ⟨h.le,h.only,h.val,.inl h.below,h.y7,fun b hb=>let ⟨l,h1,J,h3⟩:=h.gY b hb; ⟨l,h1,J,.inl h3⟩⟩
section
variable {P:Program} {E:Env}
theorem SP (hE:EnvOk P E) {tmps:List Value} {G:ax} {n0 aI:Nat} {t:TypeId} {x y:Operand} {k:Value→Option Nat→Option ai→Prop} (h:Ow E tmps G n0 aI t x y k) :
  ∃ v gq nb,k v gq nb∧(∀ i,gq=some i→∃ b,G[n0+i]?=some (some b)∧b.own=true) ∧
   ∀ (ν:Nu) (a:Act) (w:World) (ty:TypeId),fk ν tmps a x→fk ν tmps a y→bT ν G w→ν aI=none →
    ∃ v' w' aj,(Builtin.append_ #[t,t] ty #[a.eval x,a.eval y]).run P w=.ok v' w'∧EPost ν aj aI (gq.bind fun i=>ν (n0+i)) w w' v v' nb:=by
 obtain ⟨xv,J,uK⟩:=cX h
 clear h
 obtain ⟨yv,h,zl⟩:=cX J
 clear J
 obtain ⟨ti,ht,J⟩:=cT h
 clear h
 obtain ⟨d,hu,hd⟩:=(hE.ty _ _ ht).under
 split at J
 ·rename_i e hk
  rw [hk] at hd
  have hd:d=.slice e:=hd
  subst hd
  obtain ⟨te,he,h⟩:=cT J
  clear J
  have bg:=hE.ty _ _ he
  obtain ⟨i,iG,gy,mZ,z,hz,il⟩:=bg.info
  obtain ⟨s,J,xh,hs⟩:=D3 h
  clear h
  have jv:z.cells.size=te.size:=by rw [il]; simpa using bg.len
  have ab7:=bg.bit
  have small:∀ q,q*te.bytes≤140737488355328→q≤140737488355328:=fun q hq=>by
   have:q*1≤q*te.bytes:=Nat.mul_le_mul_left _ (by omega)
   omega
  split at J
  ·-- onto nil
   split at J
   ·rename_i hm
    refine ⟨_,_,_,J,(fun i hi=>by cases hi),fun ν a w ty uN zB hH hn=>?_⟩
    have hx:=(uK ν a uN).o9
    obtain ⟨oy,cy,L,ko,kq,hC,jU⟩:=hs ν w _ hH (zl ν a zB)
    have hL:L.length=s.m*i.size:=by rw [gy]; exact hC.len
    refine ⟨_,w,ν,?_,⟨ν.le_refl,fun _ _=>rfl,.iF,.inl (Below.refl _ _),fun _=>rfl,(fun b hb=>by cases hb)⟩⟩
    rw [hx,ko]
    have:=qQ (P:=P) (w:=w) (ty:=ty) hu iG (A:=none) (oy:=oy) (n:=0) (c:=0) (m:=s.m) (cy:=cy) (L:=L) hL jU kq (by omega) (w2:=w) (fun a ha=>by cases ha) (fun _=>rfl)
    rw [hm] at this ⊢
    simpa using this
   ·rename_i m hm
    obtain ⟨hB,h⟩:=J
    refine ⟨_,_,_,h,(fun i hi=>by cases hi),fun ν a w ty uN zB hH hn=>?_⟩
    have hx:=(uK ν a uN).o9
    obtain ⟨oy,cy,L,ko,kq,hC,jU⟩:=hs ν w _ hH (zl ν a zB)
    have hL:L.length=s.m*i.size:=by rw [gy]; exact hC.len
    have pT:s.kf=true→∀ r,r < s.m→∀ v∈s.get r,cO v=true:=fun h r hr v hv=>xh h r hr ν w hH v hv
    have bF:=Ab (P:=P) (w:=w) (ty:=ty) hu iG hz (A:=none) (oy:=oy) (n:=0) (c:=0) (m:=s.m) (cy:=cy) (O:=[]) (L:=L) (by simp) (fun a ha=>by cases ha) (fun _=>⟨rfl,rfl⟩) hL jU kq (by omega) (by omega) (by rw [mZ,hm]; simpa using hB) (by have:=small _ hB; omega)
    have dS:Ext (oo te.size s) te.size (fun _=>[]) 0 s.get s.m s.kf:=by
     cases s with
     | fl m g=>exact ⟨rfl,rfl,by simp [oo,ai.n,Src.m],fun r hr=>by rw [gu (by omega)]; rfl,fun _=>rfl⟩
     | ex L=>exact ⟨rfl,rfl,by simp [oo,ai.n,Src.m],fun r hr=>by rw [gu (by omega)]; rfl,fun h=>by simp [oo,ai.iR] at h⟩
    have xg:=hC.mono (Nu.j6 (l:=⟨w.heap.size,0,te.size,grownCap w (0+s.m) 0 e⟩) hn)
    have im:=vl (CR.nil _ te.size (fun _=>[])) xg dS (fun h=>⟨fun r hr=>absurd hr (by omega),pT h⟩) (w:=w) jv (iJ:=0) (e:=e)
    have eG:=grownCap_ge w (0+s.m) 0 e
    have cH:an (ν.add aI ⟨w.heap.size,0,te.size,grownCap w (0+s.m) 0 e⟩) (.slice (some ⟨aI,0,none⟩) (m+1) aN) (.slice (some ⟨w.heap.size,0,none⟩) (0+s.m) (grownCap w (0+s.m) 0 e)):=by
     have:=an.slice (ν:=ν.add aI ⟨w.heap.size,0,te.size,grownCap w (0+s.m) 0 e⟩) aI 0 (0+s.m) aN (grownCap w (0+s.m) 0 e) _ Nu.add_same (.inr rfl) eG (by simp)
     rw [show m+1=0+s.m by omega]
     simpa [Loc.at] using this
    have hq:=mG hn im (vh w _ _ _ _) (Nat.le_refl _) cH
    refine ⟨_,_,_,?_,hq.e _⟩
    rw [hx,ko]
    simpa using bF
  ·rename_i id n c
   obtain ⟨b,hb,h⟩:=gA J
   clear J
   split at h
   ·rename_i dy
    rw [Bool.and_eq_true] at dy
    obtain ⟨dy,Ox⟩:=dy
    have dy:b.ah=te.size:=Nat.eq_of_beq_eq_true dy
    have Ox:n0≤id:=Nat.le_of_ble_eq_true Ox
    obtain ⟨⟨gf,lL⟩,h⟩:=h
    obtain ⟨b',h,ho,dS⟩:=Ac h
    have bu:n0+(id - n0)=id:=by omega
    refine ⟨_,_,_,h,(fun i hi=>by cases hi; rw [bu]; exact ⟨b,hb,(ai.c5 ho).1⟩),fun ν a w ty uN zB hH hn=>?_⟩
    have hx:=uK ν a uN
    obtain ⟨oy,cy,L,ko,kq,hC,jU⟩:=hs ν w _ hH (zl ν a zB)
    have hL:L.length=s.m*i.size:=by rw [gy]; exact hC.len
    have pT:s.kf=true→∀ r,r < s.m→∀ v∈s.get r,cO v=true:=fun h r hr v hv=>xh h r hr ν w hH v hv
    obtain ⟨l,hl,hB⟩:=hH.aH id b hb
    rw [← dy] at hC jv
    have aK:id≠aI:=fun e=>by rw [e,hn] at hl; cases hl
    have hold:(some (id - n0)).bind (fun i=>ν (n0+i))=some l:=by
     show ν (n0+(id - n0))=some l
     rw [bu]; exact hl
    rw [hold]
    have HW:∃ A c',a.eval x=.slice (some A) n c'∧n≤c'∧((A=l.at 0 0∧c'≤l.cap)∨(n=0∧c'=0)):=by
     rcases hx.s5 with ⟨l',c',cJ,h1,J,h3,e⟩ | ⟨h1,J,bb,e⟩
     ·rw [hl] at cJ; cases cJ
      exact ⟨_,c',e,J,.inl ⟨rfl,by omega⟩⟩
     ·exact ⟨bb,0,by rw [e,h1],by omega,.inr ⟨h1,rfl⟩⟩
    obtain ⟨A,c',cF,CI,hA⟩:=HW
    have hO:∃ O,CR ν b.ah b.row n O∧∀ (j:Nat) u,O[j]?=some u→w.cell? (A.add j)=some u:=by
     rcases hA with ⟨rfl,_⟩ | ⟨h0,_⟩
     ·obtain ⟨O,h1,J⟩:=CR.F1 hB (row:=0) (m:=n) (by omega)
      exact ⟨O,h1.congr (fun r hr=>by simp),J⟩
     ·subst h0
      exact ⟨[],CR.nil _ _ _,fun j u hu=>by simp at hu⟩
    obtain ⟨O,hO,qh⟩:=hO
    have sA:b.oA=true→∀ r,r < b.n→∀ v∈b.row r,cO v=true:=fun h r hr v hv=>by
     cases b with
     | flat o n e g=>exact hB.plain rfl r hr v hv
     | aQ o e rows =>
      have h:rows.all jF=true:=h
      have hr:r < rows.length:=hr
      have hv:v∈rows.getD r []:=hv
      rw [List.getD_eq_getElem?_getD,List.getElem?_eq_getElem hr] at hv
      exact xx (List.all_eq_true.1 h _ (List.getElem_mem hr)) v hv
     | cm r=>cases h
    have ml:(b.oA && s.kf)=true→(∀ r,r < b.n→∀ v∈b.row r,cO v=true)∧∀ r,r < s.m→∀ v∈s.get r,cO v=true:=fun h=>by
     rw [Bool.and_eq_true] at h; exact ⟨sA h.1,pT h.2⟩
    by_cases cU:n+s.m≤c'
    ·-- in its place
     obtain ⟨cur,tt,jR,bn,aaN⟩:=hB.own (ai.c5 ho).1 (ai.c5 ho).2
     have hle:=Nu.j6 (l:=l) hn
     rcases hA with ⟨rfl,fV⟩ | ⟨h0,nQ⟩
     ·obtain ⟨h1,J⟩:=hB.extend (P:=P) ho (Nat.le_refl _) hC dS ml (by omega)
      refine ⟨_,w.setCells l.aH (l.base+b.n*l.ah) L,ν.add aI l,?_,⟨hle,fun j hj=>Nu.iQ hj,.slice _ _ _ _ _ l Nu.add_same (.inr rfl) cU (by omega),.inr ⟨l,rfl,⟨cur,tt,jR⟩,fun q hq=>qN _ _ _ _ _ hq,by rw [oa]; exact Nat.le_refl _,(vg _ _ _ _).1,(vg _ _ _ _).2.1,(vg _ _ _ _).2.2⟩,(fun h=>by cases h),fun b2 dJ=>by cases dJ; exact ⟨l,Nu.add_same,J.mono hle,.inr ⟨l,rfl,rfl⟩⟩⟩⟩
      rw [cF,ko]
      refine qQ (P:=P) hu iG hL jU kq cU (fun A' sB=>?_) (fun h=>by cases h)
      cases sB
      have:(l.at 0 0).add (n*i.size)=l.at b.n 0:=by
       rw [Loc.jH]; unfold Loc.at; congr 1
       rw [hB.ah,gy,dy,gf]; omega
      rw [this]; exact h1
     ·have km:s.m=0:=by omega
      have xi:L=[]:=List.eq_nil_of_length_eq_zero (by rw [hL,km]; simp)
      refine ⟨.slice (some A) (n+s.m) c',w,ν.add aI l,?_,⟨hle,fun j hj=>Nu.iQ hj,?_,.inl (Below.refl _ _),(fun h=>by cases h),fun b2 dJ=>by
       cases dJ
       have uO:b'.n=b.n:=by rw [dS.num,km]; rfl
       have a9:∀ r,r < b.n→b'.row r=b.row r:=fun r hr=>by rw [dS.row r (by omega),jc hr]
       refine ⟨l,Nu.add_same,bQ.mono hle ⟨by rw [dS.ah]; exact hB.ah,fun r hr=>by rw [uO] at hr; rw [a9 r hr,dS.ah]; exact hB.len r hr,
        fun r hr j v hv=>by rw [uO] at hr; rw [a9 r hr] at hv; exact hB.cell r hr j v hv,
        fun h r hr v hv=>by rw [uO] at hr; rw [a9 r hr] at hv; exact (ml (dS.flat h)).1 r hr v hv,
        fun r hr v hv=>by rw [uO] at hr; rw [a9 r hr] at hv; exact hB.one r hr v hv,
        fun _ _=>⟨cur,tt,jR,bn,by rw [uO]; exact aaN⟩,(fun r h=>by rw [(ai.c5 dS.own).2] at h; cases h),hB.live⟩,.inr ⟨l,rfl,rfl⟩⟩⟩⟩
      ·rw [cF,ko]
       exact qQ (P:=P) hu iG hL jU kq cU (fun A' sB=>by rw [xi]; rfl) (fun h=>by cases h)
      ·subst nQ
       rw [show n+s.m=0 by omega]
       exact .void _ _ _ _ (.inr rfl)
    ·have bF:(Builtin.append_ #[t,t] ty #[a.eval x,a.eval y]).run P w=.ok (.slice (some ⟨w.heap.size,0,none⟩) (n+s.m) (grownCap w (n+s.m) c' e)) (w.drew.alloc (s7 (O++L).toArray z (grownCap w (n+s.m) c' e - (n+s.m)) e)):=by
      rw [cF,ko]
      exact Ab (P:=P) (w:=w) (ty:=ty) hu iG hz (by rw [hO.len,gy,dy]) (fun a ha=>by cases ha; exact qh) (fun h=>by cases h) hL jU kq CI (by omega) (by rw [mZ]; exact lL) (small _ lL)
     have kJ:=Nu.j6 (l:=⟨w.heap.size,0,b.ah,grownCap w (n+s.m) c' e⟩) hn
     have Hc:Ext b' b.ah b.row n s.get s.m (b.oA && s.kf):=by rw [gf]; exact dS
     have im:=vl (hO.mono kJ) (hC.mono kJ) Hc (fun h=>⟨fun r hr v hv=>(ml h).1 r (by omega) v hv,(ml h).2⟩) (w:=w) jv (iJ:=c') (e:=e)
     have eG:=grownCap_ge w (n+s.m) c' e
     have cH:an (ν.add aI ⟨w.heap.size,0,b.ah,grownCap w (n+s.m) c' e⟩) (.slice (some ⟨aI,0,none⟩) (n+s.m) aN) (.slice (some ⟨w.heap.size,0,none⟩) (n+s.m) (grownCap w (n+s.m) c' e)):=by
      have:=an.slice (ν:=ν.add aI ⟨w.heap.size,0,b.ah,grownCap w (n+s.m) c' e⟩) aI 0 (n+s.m) aN (grownCap w (n+s.m) c' e) _ Nu.add_same (.inr rfl) eG (by simp)
      simpa [Loc.at] using this
     have hq:=mG hn im (vh w _ _ _ _) (Nat.le_refl _) cH
     exact ⟨_,_,_,bF,hq.e _⟩
   ·exact h.elim
  ·exact J.elim
 ·exact J.elim
end
end Go.Ae
