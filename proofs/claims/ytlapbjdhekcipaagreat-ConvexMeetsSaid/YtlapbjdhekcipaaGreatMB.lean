import Derived.RangeFuncLeaves
import Derived.RangeFuncRecord
import Derived.KernelRfl
import Derived.Test.YtlapbjdhekcipaaGreatMA
set_option linter.unusedVariables false
set_option linter.unusedSimpArgs false
namespace Go.Ae
open Go Go.RowKit
def oK (ah:Nat):Src→aj
 | .fl m g=>.flat true m ah g
 | .ex L=>.aS true ah L
def aj.oT:aj→Bool
 | .flat _ _ _ _=>true
 | .aS _ _ rows=>rows.all jA
 | .cc _=>false
def wH (b:aj) (s:Src) (k:aj→Prop):Prop :=
 match b,s with
 | .flat true n ah get,.fl m news=>k (.flat true (n+m) ah (iA get n news))
 | .aS true ah rows,.ex L=>sF rows L fun l=>k (.aS true ah l)
 | .aS true ah rows,.fl m news=>match Nat.ble 2 ah && rows.all jA with
  | true=>k (.flat true (rows.length+m) ah (iA (fun j=>rows.getD j []) rows.length news))
  | false=>xf news 0 m fun L=>sF rows L fun l=>k (.aS true ah l)
 | _,_=>False
def CC (b:aj) (row n:Nat) (s:Src) (k:aj→Prop):Prop :=
 match b,s with
 | .flat _ _ ah get,.fl m news=>k (.flat true (n+m) ah (iA (fun j=>get (e9 row j)) n news))
 | .aS _ ah rows,.ex L=>rZ rows row n fun L0=>sF L0 L fun l=>k (.aS true ah l)
 | .aS _ ah rows,.fl m news=>match Nat.ble 2 ah && rows.all jA with
  | true=>k (.flat true (n+m) ah (iA (fun j=>rows.getD (e9 row j) []) n news))
  | false=>rZ rows row n fun L0=>xf news 0 m fun L=>sF L0 L fun l=>k (.aS true ah l)
 | _,_=>False
structure Ext (b':aj) (ah:Nat) (g:Nat→List Value) (n:Nat) (h:Nat→List Value) (m:Nat) (fl:Bool):Prop where
 own:b'.nP=true
 ah:b'.ah=ah
 num:b'.n=n+m
 row:∀ r,r < n+m→b'.row r=iA g n h r
 flat:b'.iN=true→fl=true
theorem Rr {l m:List (List Value)} {r:Nat} (h:r < l.length):(l++m).getD r []=l.getD r []:=by
 simp [List.getD,List.getElem?_append_left h]
theorem Rs {l m:List (List Value)} {r:Nat} (h:l.length≤r):(l++m).getD r []=m.getD (r - l.length) []:=by
 simp [List.getD,List.getElem?_append_right h]
theorem By {ah:Nat} {L0 L:List (List Value)} {g h:Nat→List Value} {n m:Nat} (h0:L0.length=n) (h1:L.length=m) (hg:∀ r,r < n→L0.getD r []=g r) (hh:∀ r,r < m→L.getD r []=h r) (fl:Bool) :
  Ext (.aS true ah (L0++L)) ah g n h m fl:=by
 refine ⟨rfl,rfl,by simp [aj.n,h0,h1],fun r hr=>?_,fun h=>by simp [aj.iN] at h⟩
 show (L0++L).getD r []=_
 by_cases al:r < n
 ·rw [Rr (by omega),ja al,hg r al]
 ·rw [Rs (by omega),gm (by omega),h0,hh _ (by omega)]
theorem AO {b:aj} {s:Src} {k:aj→Prop} (h:wH b s k):∃ b',k b'∧b.nP=true∧Ext b' b.ah b.row b.n s.get s.m (b.oT && s.j7):=by
 cases b with
 | flat o n e g =>
  cases o with
  | false=>cases s <;> exact h.elim
  | true =>
   cases s with
   | fl m news=>exact ⟨_,h,rfl,rfl,rfl,rfl,fun r _=>rfl,fun _=>rfl⟩
   | ex L=>exact h.elim
 | aS o e rows =>
  cases o with
  | false=>cases s <;> exact h.elim
  | true =>
   cases s with
   | fl m news =>
    have h:match Nat.ble 2 e && rows.all jA with
     | true=>k (.flat true (rows.length+m) e (iA (fun j=>rows.getD j []) rows.length news))
     | false=>xf news 0 m fun L=>sF rows L fun l=>k (.aS true e l):=h
    split at h
    ·rename_i hs;rw [Bool.and_eq_true] at hs;exact ⟨_,h,rfl,rfl,rfl,rfl,fun r _=>rfl,fun _=>by show (rows.all jA && true)=true; rw [hs.2]; rfl⟩
    obtain ⟨L,h,h1,J⟩:=EM h;have h:=yj h;exact ⟨_,h,rfl,By rfl h1 (fun _ _=>rfl) (fun r hr=>by rw [J r hr]; simp [Src.get]) _⟩
   | ex L =>
    have h:=yj h;exact ⟨_,h,rfl,By rfl rfl (fun _ _=>rfl) (fun r hr=>rfl) _⟩
 | cc r=>cases s <;> exact h.elim
theorem KX {b:aj} {row n:Nat} {s:Src} {k:aj→Prop} (h:CC b row n s k):∃ b',k b'∧Ext b' b.ah (fun j=>b.row (row+j)) n s.get s.m (b.oT && s.j7):=by
 cases b with
 | flat o N e g =>
  cases s with
  | fl m news=>exact ⟨_,h,rfl,rfl,rfl,fun r hr=>by simp [aj.row,aB,Src.get,Src.m],fun _=>rfl⟩
  | ex L=>exact h.elim
 | aS o e rows =>
  have aZ:∀ (L0:List (List Value)),(L0.length=n∧row+n≤rows.length)→(∀ (j:Nat) v,L0[j]?=some v→rows[row+j]?=some v)→∀ r,r < n→L0.getD r []=(aj.aS o e rows).row (row+r):=by
   intro L0 h0 h1 r hr;have al:r < L0.length:=by omega
   have:=h1 r _ (List.getElem?_eq_getElem al);simp [aj.row,List.getD,this,List.getElem?_eq_getElem al]
  cases s with
  | fl m news =>
   have h:match Nat.ble 2 e && rows.all jA with
    | true=>k (.flat true (n+m) e (iA (fun j=>rows.getD (e9 row j) []) n news))
    | false=>rZ rows row n fun L0=>xf news 0 m fun L=>sF L0 L fun l=>k (.aS true e l):=h
   split at h
   ·rename_i hs;rw [Bool.and_eq_true] at hs;exact ⟨_,h,rfl,rfl,rfl,fun r hr=>by simp [aj.row,aB,Src.get,Src.m],fun _=>by show (rows.all jA && true)=true; rw [hs.2]; rfl⟩
   obtain ⟨L0,h,h0,h3⟩:=ye h;obtain ⟨L,h,h1,J⟩:=EM h;have h:=yj h;exact ⟨_,h,By h0.1 h1 (aZ L0 h0 h3) (fun r hr=>by rw [J r hr]; simp [Src.get]) _⟩
  | ex L =>
   obtain ⟨L0,h,h0,h3⟩:=ye h;have h:=yj h;exact ⟨_,h,By h0.1 rfl (aZ L0 h0 h3) (fun r hr=>rfl) _⟩
 | cc r=>cases s <;> exact h.elim
def jB (g:Nat→List Value) (q:Nat) (h:Nat→List Value) (m:Nat):Nat→List Value:=fun j=>bif Nat.blt j q then g j else bif Nat.blt j (q+m) then h (j - q) else g j
theorem Hh {a b:Nat} (h:b≤a):Nat.blt a b=false:=by
 cases e:Nat.blt a b with
 | false=>rfl
 | true=>rw [Nat.blt_eq] at e; omega
theorem SB {g h:Nat→List Value} {q m j:Nat} (hj:j < q):jB g q h m j=g j:=by
 have:Nat.blt j q=true:=by rw [Nat.blt_eq]; exact hj
 simp [jB,this]
theorem SC {g h:Nat→List Value} {q m j:Nat} (h1:q≤j) (J:j < q+m):jB g q h m j=h (j - q):=by
 have:Nat.blt j (q+m)=true:=by rw [Nat.blt_eq]; exact J
 simp [jB,this,Hh h1]
theorem SD {g h:Nat→List Value} {q m j:Nat} (hj:q+m≤j):jB g q h m j=g j:=by
 simp [jB,Hh hj,Hh (show q≤j by omega)]
def Gf (E:Env) (tmps:List Value) (H:aA) (t:TypeId) (xv yv:Value) (k:Value→List Value→aA→Prop):Prop :=
 cJ E.tt t fun ti=>match ti.kind with
  | .slice e=>cJ E.tt e fun te=>zz H te.size yv fun s=>match xv with
   | .slice none 0 0=>match s.m with
    | 0=>k (.slice none 0 0) tmps H
    | m+1=>((m+1)*te.bytes≤140737488355328)∧jm H fun aK=>oR H (some (oK te.size s)) fun H'=>k (.slice (some ⟨aK,0,none⟩) (m+1) aO) tmps H'
   | .slice (some ⟨id,row,none⟩) n c=>gA H id fun b=>match Nat.beq b.ah te.size with
    | true=>match decide (c=aO) with
     | false=>br (Nat.ble (n+s.m) c)
      (row+n=b.n∧wH b s fun b'=>jl H id (some b') fun H'=>k (.slice (some ⟨id,row,none⟩) (n+s.m) c) tmps H')
      ((row+n≤b.n∧(n+s.m)*te.bytes≤140737488355328)∧CC b row n s fun b'=>jm H fun aK=>oR H (some b') fun H'=>k (.slice (some ⟨aK,0,none⟩) (n+s.m) aO) tmps H')
     | true=>match E.ib with
      | true=>match row with
       | 0=>(E.base≤id∧(n≤b.n∧b.nP=true)∧(n+s.m)*te.bytes≤140737488355328)∧CC b 0 n s fun b1=>y9 id b1 fun b'=>∃ aa,∀ a:Nat→Value,uB a id aa 0 tmps fun za=>xe id H fun H1=>jl H1 id (some b') fun H'=>k (.slice (some ⟨id,0,none⟩) (n+s.m) aO) za H'
       | _=>False
      | false=>match Nat.ble E.base id with
       | true=>match row with
        | 0=>(E.base≤id∧n=b.n∧(n+s.m)*te.bytes≤140737488355328)∧wH b s fun b1=>y9 id b1 fun b'=>∃ aa,∀ a:Nat→Value,uB a id aa 0 tmps fun za=>xe id H fun H1=>jl H1 id (some b') fun H'=>k (.slice (some ⟨id,0,none⟩) (n+s.m) aO) za H'
        | _=>False
       | false=>match row with
        | 0=>(n=b.n∧(n+s.m)*te.bytes≤140737488355328)∧wH b s fun b'=>jl H id none fun H1=>jm H1 fun aK=>oR H1 (some b') fun H'=>k (.slice (some ⟨aK,0,none⟩) (n+s.m) aO) tmps H'
        | _=>False
    | false=>False
   | .slice (some ⟨id,row,some b0⟩) n c=>gA H id fun b=>match Nat.beq b.ah te.size with
    | true=>match b,s with
     | .flat true N ah get,.fl m news=>(n+m≤b0∧row+(n+m)≤N)∧jl H id (some (.flat true N ah (jB get (e9 row n) news m))) fun H'=>k (.slice (some ⟨id,row,some b0⟩) (n+m) c) tmps H'
     | _,_=>False
    | false=>False
   | _=>False
  | _=>False
def N8 (E:Env) (tmps:List Value) (H:aA) (t:TypeId) (x:Operand) (k:aA→Prop):Prop :=
 bU tmps x fun xv=>cJ E.tt t fun ti=>match ti.kind with
  | .slice e=>cJ E.tt e fun te=>match xv with
   | .slice (some ⟨id,row,_⟩) n _=>gA H id fun b=>match Nat.beq b.ah te.size with
    | true=>match b with
     | .flat true N ah get=>(row+n≤N∧mh te.zero=true)∧jl H id (some (.flat true N ah (jB get row (fun _=>te.zero) n))) k
     | _=>False
    | false=>False
   | _=>False
  | _=>False
def Gg (E:Env) (H:aA) (t:TypeId) (xv yv:Value) (k:Value→aA→Prop):Prop :=
 cJ E.tt t fun ti=>match ti.kind with
  | .slice e=>cJ E.tt e fun te=>zz H te.size yv fun s=>match s,xv with
   | .fl m news,.slice (some ⟨id,row,_⟩) n _=>gA H id fun b=>match Nat.beq b.ah te.size with
    | true=>match b with
     | .flat true N ah get=>row+n≤N∧jl H id (some (.flat true N ah (jB get row news (Nat.min m n)))) fun H'=>k (.int .i64 (Nat.min m n)) H'
     | _=>False
    | false=>False
   | _,_=>False
  | _=>False
def Nn (E:Env) (tmps:List Value) (H:aA) (t:TypeId) (x y:Operand) (k:Value→List Value→aA→Prop):Prop :=
 bU tmps x fun xv=>bU tmps y fun yv=>Gf E tmps H t xv yv k
def Bz:Value→Bool
 | .slice (some _) _ c=>!decide (c=aO)
 | _=>true
section
variable {P:Program} {E:Env} {F:Fr}
theorem D6 (z:Array Value) (n:Nat):(Builtin.zeroCells z n).size=n*z.size:=by simp [Builtin.zeroCells]
theorem R7 {O L:List Value} {z:Value} {k q:Nat} (hq:q < (O++L).length):((O++L).toArray++Builtin.zeroCells z.cells k)[q]?=(O++L)[q]?:=by
 rw [Array.getElem?_append_left (by simpa using hq)]
 simp
theorem bN.extend {ν:Nu} {l:Loc} {b b':aj} {w:World} (hB:bN ν l b w) (ho:b.nP=true) {n m:Nat} (bX:n≤b.n) {news:Nat→List Value} {L:List Value} {fl:Bool}
  (hC:CR ν b.ah news m L) (hx:Ext b' b.ah b.row n news m fl) (sS:fl=true→(∀ r,r < b.n→∀ v∈b.row r,cH v=true)∧∀ r,r < m→∀ v∈news r,cH v=true) (fJ:n+m≤l.cap) :
  (storeCells (l.at n 0) L).run P w=.ok () (w.setCells l.aJ (l.base+n*l.ah) L)∧bN ν l b' (w.setCells l.aJ (l.base+n*l.ah) L):=by
 obtain ⟨cur,t,jK,bc,_⟩:=hB.own (aj.cX ho).1 (aj.cX ho).2;have he:=hB.ah;have xz:l.base+n*l.ah+L.length≤cur.size:=by
  rw [hC.len,he];have:(n+m)*b.ah≤l.cap*b.ah:=Nat.mul_le_mul_right _ fJ;rw [Nat.add_mul] at this;rw [he] at bc;omega
 have r4:∀ j,j < L.length→(w.cell? ⟨l.aJ,l.base+n*l.ah+j,none⟩).isSome=true:=by
  intro j hj;simp only [World.cell?];rw [jK];simp;omega
 refine ⟨?_,?_⟩
 ·have:=run_storeCells_cells (P:=P) l.aJ (l.base+n*l.ah) L 0 w (by simpa using r4) (fun j hj=>by simp [World.frozen?,jK]) hC.one
  simpa [Loc.at] using this
 ·obtain ⟨oY,J,h3⟩:=AK l.aJ L (l.base+n*l.ah) w cur t jK;refine ⟨by rw [hx.ah]; exact he,fun r hr=>?_,fun r hr j v hv=>?_,fun h r hr v hv=>?_,fun r hr v hv=>?_,fun _ _=>⟨oY,t,J,by rw [h3]; exact bc,by rw [hx.num]; exact fJ⟩,(fun r h=>by rw [(aj.cX hx.own).2] at h; cases h),by rw [ou]; exact hB.live⟩
  ·rw [hx.num] at hr;rw [hx.row r hr,hx.ah];by_cases h:r < n
   ·rw [ja h]; exact hB.len r (by omega)
   ·rw [gm (by omega)]; exact hC.row _ (by omega)
  ·rw [hx.num] at hr;rw [hx.row r hr] at hv;by_cases h:r < n
   ·rw [ja h] at hv;obtain ⟨v',h4,h5⟩:=hB.cell r (by omega) j v hv
    have hj:j < b.ah:=by rw [← hB.len r (by omega)]; exact (List.getElem?_eq_some_iff.1 hv).1
    refine ⟨v',?_,h5⟩;rw [World.cell?_setCells_out l.aJ _ _ _ _ (fun _ _=>?_)]
    ·exact h4
    ·left
     simp only [Loc.at,he];have:(r+1)*b.ah≤n*b.ah:=Nat.mul_le_mul_right _ h;rw [Nat.add_mul] at this; omega
   ·rw [gm (by omega)] at hv
    obtain ⟨v',h4,h5⟩:=hC.cell (r - n) (by omega) j v hv
    have al:=(List.getElem?_eq_some_iff.1 h4).1;refine ⟨v',?_,h5⟩;have:=World.cell?_setCells_in l.aJ L (l.base+n*l.ah) w r4 _ al;have e:l.at r j=⟨l.aJ,l.base+n*l.ah+((r - n)*b.ah+j),none⟩:=by
     unfold Loc.at
     congr 1
     rw [he];have:r*b.ah=n*b.ah+(r - n)*b.ah:=by rw [← Nat.add_mul]; congr 1; omega
     omega
    rw [e,this,← h4,List.getElem?_eq_getElem al]
  ·rw [hx.num] at hr;rw [hx.row r hr] at hv;obtain ⟨h6,h7⟩:=sS (hx.flat h);by_cases h:r < n
   ·rw [ja h] at hv; exact h6 r (by omega) v hv
   ·rw [gm (by omega)] at hv; exact h7 _ (by omega) v hv
  ·rw [hx.num] at hr;rw [hx.row r hr] at hv;by_cases h:r < n
   ·rw [ja h] at hv; exact hB.one r (by omega) v hv
   ·rw [gm (by omega)] at hv; exact hC.sE _ (by omega) v hv
theorem Kept.setCells {O:Nat→Prop} {W w:World} (h:Kept O W w) {b:Nat} (hb:O b∨W.heap.size≤b) (o:Nat) (L:List Value):Kept O W (w.setCells b o L):=by
 obtain ⟨o1,o2,o3⟩:=vQ b L o w;refine ⟨o1.trans h.os,o2.trans h.tape,o3.trans h.output,by rw [ou]; exact h.size,fun q h1 J=>?_⟩
 rw [rr]
 ·exact h.aJ q h1 J
 ·intro e;subst e;rcases hb with h' | h'
  ·exact J h'
  ·omega
theorem vW {ν:Nu} {ah n m:Nat} {g h:Nat→List Value} {O L:List Value} {b':aj} {fl:Bool} (hO:CR ν ah g n O) (hC:CR ν ah h m L) (hx:Ext b' ah g n h m fl)
  (sS:fl=true→(∀ r,r < n→∀ v∈g r,cH v=true)∧∀ r,r < m→∀ v∈h r,cH v=true) {w:World} {z:Value} (hz:z.cells.size=ah) {iH:Nat} {e:TypeId} :
  bN ν ⟨w.heap.size,0,ah,grownCap w (n+m) iH e⟩ b' (w.drew.alloc (tR (O++L).toArray z (grownCap w (n+m) iH e - (n+m)) e)):=by
 have dH:=grownCap_ge w (n+m) iH e;have Qd:=hO.append hC;refine WG Qd hx.row hx.num hx.ah (fun hf r hr v hv=>?_) (C:=(O++L).toArray++Builtin.zeroCells z.cells (grownCap w (n+m) iH e - (n+m))) (t:=e) ?_ (fun q hq=>R7 hq) dH ?_ (aj.cX hx.own).2
 ·obtain ⟨h1,J⟩:=sS (hx.flat hf);by_cases h:r < n
  ·rw [ja h] at hv; exact h1 r h v hv
  ·rw [gm (by omega)] at hv; exact J _ (by omega) v hv
 ·show (w.heap.push _)[w.heap.size]?=_
  simp [tR]
 ·rw [Array.size_append,D6,hz];simp only [List.size_toArray];rw [Qd.len,← Nat.add_mul];apply Nat.le_of_eq
  congr 1
  omega
theorem vS (w:World) (C:Array Value) (z:Value) (k:Nat) (e:TypeId):Below w.heap.size w (w.drew.alloc (tR C z k e)):=((Below.refl _ w).drew).alloc (Nat.le_refl _) _
theorem bN.ib {ν:Nu} {l:Loc} {N ah:Nat} {get:Nat→List Value} {w:World} (hB:bN ν l (.flat true N ah get) w) {q m:Nat} (hq:q+m≤N) {news:Nat→List Value} {L:List Value}
  (hC:CR ν ah news m L) (hs:∀ r,r < m→∀ v∈news r,cH v=true) :
  (storeCells (l.at q 0) L).run P w=.ok () (w.setCells l.aJ (l.base+q*l.ah) L)∧bN ν l (.flat true N ah (jB get q news m)) (w.setCells l.aJ (l.base+q*l.ah) L):=by
 obtain ⟨cur,t,jK,bc,fJ⟩:=hB.own rfl rfl;have fJ:N≤l.cap:=fJ;have he:l.ah=ah:=hB.ah;have xz:l.base+q*l.ah+L.length≤cur.size:=by
  rw [hC.len,he];have:(q+m)*ah≤l.cap*ah:=Nat.mul_le_mul_right _ (by omega)
  rw [Nat.add_mul] at this;rw [he] at bc;omega
 have r4:∀ j,j < L.length→(w.cell? ⟨l.aJ,l.base+q*l.ah+j,none⟩).isSome=true:=by
  intro j hj;simp only [World.cell?];rw [jK];simp;omega
 refine ⟨?_,?_⟩
 ·have:=run_storeCells_cells (P:=P) l.aJ (l.base+q*l.ah) L 0 w (by simpa using r4) (fun j hj=>by simp [World.frozen?,jK]) hC.one
  simpa [Loc.at] using this
 ·obtain ⟨oY,J,h3⟩:=AK l.aJ L (l.base+q*l.ah) w cur t jK;have rows:∀ r,r < N→(jB get q news m r=get r∧(r < q∨q+m≤r))∨(jB get q news m r=news (r - q)∧q≤r∧r < q+m):=fun r _=>by
   by_cases h:r < q
   ·exact .inl ⟨SB h,.inl h⟩
   ·by_cases h':r < q+m
    ·exact .inr ⟨SC (by omega) h',by omega,h'⟩
    ·exact .inl ⟨SD (by omega),.inr (by omega)⟩
  refine ⟨he,fun r hr=>?_,fun r hr j v hv=>?_,fun _ r hr v hv=>?_,fun r hr v hv=>?_,fun _ _=>⟨oY,t,J,by rw [h3]; exact bc,fJ⟩,(fun r h=>by cases h),by rw [ou]; exact hB.live⟩
  ·have hr:r < N:=hr;show (jB get q news m r).length=ah
   rcases rows r hr with ⟨e,_⟩ | ⟨e,h1,J⟩
   ·rw [e]; exact hB.len r hr
   ·rw [e]; exact hC.row _ (by omega)
  ·have hr:r < N:=hr;have hv:(jB get q news m r)[j]?=some v:=hv;rcases rows r hr with ⟨e,h1⟩ | ⟨e,h1,J⟩
   ·rw [e] at hv;obtain ⟨v',h4,h5⟩:=hB.cell r hr j v hv;have hj:j < ah:=by have e':(get r).length=ah:=hB.len r hr; rw [← e']; exact (List.getElem?_eq_some_iff.1 hv).1
    refine ⟨v',?_,h5⟩;rw [World.cell?_setCells_out l.aJ _ _ _ _ (fun _ _=>?_)]
    ·exact h4
    ·rcases h1 with h | h
     ·left
      simp only [Loc.at,he];have:(r+1)*ah≤q*ah:=Nat.mul_le_mul_right _ h;rw [Nat.add_mul] at this; omega
     ·right
      simp only [Loc.at,he,hC.len];have:(q+m)*ah≤r*ah:=Nat.mul_le_mul_right _ h;rw [Nat.add_mul] at this; omega
   ·rw [e] at hv;obtain ⟨v',h4,h5⟩:=hC.cell (r - q) (by omega) j v hv
    have al:=(List.getElem?_eq_some_iff.1 h4).1;refine ⟨v',?_,h5⟩;have:=World.cell?_setCells_in l.aJ L (l.base+q*l.ah) w r4 _ al;have e:l.at r j=⟨l.aJ,l.base+q*l.ah+((r - q)*ah+j),none⟩:=by
     unfold Loc.at
     congr 1
     rw [he];have:r*ah=q*ah+(r - q)*ah:=by rw [← Nat.add_mul]; congr 1; omega
     omega
    rw [e,this,← h4,List.getElem?_eq_getElem al]
  ·have hr:r < N:=hr;have hv:v∈jB get q news m r:=hv;rcases rows r hr with ⟨e,_⟩ | ⟨e,h1,J⟩
   ·rw [e] at hv; exact hB.plain rfl r hr v hv
   ·rw [e] at hv; exact hs _ (by omega) v hv
  ·have hr:r < N:=hr;have hv:v∈jB get q news m r:=hv;rcases rows r hr with ⟨e,_⟩ | ⟨e,h1,J⟩
   ·rw [e] at hv; exact hB.one r hr v hv
   ·rw [e] at hv; exact hC.sE _ (by omega) v hv
theorem bw.ib {ν:Nu} {tmps:List Value} {H:aA} {a:Act} {w:World} (hi:bw F ν tmps H a w) {id N ah:Nat} {get:Nat→List Value} (hb:H[id]?=some (some (.flat true N ah get))) {l:Loc} (hl:ν id=some l)
  {q m:Nat} (hq:q+m≤N) {news:Nat→List Value} {L:List Value} (hC:CR ν ah news m L) (hs:∀ r,r < m→∀ v∈news r,cH v=true) :
  (storeCells (l.at q 0) L).run P w=.ok () (w.setCells l.aJ (l.base+q*l.ah) L)∧bw F ν tmps (H.set id (some (.flat true N ah (jB get q news m)))) a (w.setCells l.aJ (l.base+q*l.ah) L):=by
 obtain ⟨l0,eO,hB⟩:=hi.hp.aJ id _ hb;rw [hl] at eO; cases eO;obtain ⟨h1,ij⟩:=hB.ib (P:=P) hq hC hs;have al:id < H.length:=(List.getElem?_eq_some_iff.1 hb).1;have nR:∀ q',q'≠l.aJ→(w.setCells l.aJ (l.base+q*l.ah) L).heap[q']?=w.heap[q']?:=fun q' IJ=>rr _ _ _ _ _ IJ
 have pj:w.heap.size≤(w.setCells l.aJ (l.base+q*l.ah) L).heap.size:=by rw [ou]; exact Nat.le_refl _
 refine ⟨h1,hi.tm,(let ⟨_,_,uD,_⟩:=hB.own rfl rfl; hi.df.eh uD nR),?_,fun j hj=>hi.fr j (by simpa using hj),hi.kp.setCells (hi.own id _ l hb rfl hl) _ _,fun j bj lj hj n8 cZ=>?_,hi.mono⟩
 ·refine hi.hp.eh (id:=id) (fun _ _=>rfl) (fun j bj hj aI=>?_) (fun bj hj=>?_)
  ·rw [List.getElem?_set_ne (Ne.symm aI)] at hj;refine ⟨bj,hj,rfl,fun lj cZ qQ=>qQ.same (nR _ ?_) pj⟩
   exact Ne.symm (hi.hp.sep id j _ bj l lj hb hj (Ne.symm aI) rfl hl cZ)
  ·rw [List.getElem?_set_self al] at hj;cases hj;exact ⟨l,hl,ij,fun j lj bj aI hj cZ=>Ne.symm (hi.hp.sep id j _ bj l lj hb hj (Ne.symm aI) rfl hl cZ)⟩
 ·by_cases e':j=id
  ·subst e'; rw [hl] at cZ; cases cZ; exact hi.own j _ l hb rfl hl
  ·rw [List.getElem?_set_ne (Ne.symm e')] at hj; exact hi.own j bj lj hj n8 cZ
theorem CR.abU {ν:Nu} {z:Value} {zs:List Value} (hz:z.cells=⟨zs⟩) (Hi:bg ν zs zs) (qB:∀ v∈zs,v.oneCell'=true) (h0:0 < zs.length) (n:Nat):CR ν zs.length (fun _=>zs) n (Builtin.zeroCells z.cells n).toList:=by
 have bc:z.cells.size=zs.length:=by rw [hz]; rfl
 have kG:∀ j,j < n*zs.length→(Builtin.zeroCells z.cells n)[j]?=zs[j % zs.length]?:=fun j hj=>by
  rw [J0 _ _ _ (by rw [bc]; exact hj) (by rw [bc]; exact h0),bc,hz]; simp
 refine ⟨by simp [D6,bc],fun _ _=>rfl,fun r hr j v hv=>?_,fun u hu=>?_,fun _ _ v hv=>qB v hv⟩
 ·have hj:=(List.getElem?_eq_some_iff.1 hv).1;have al:r*zs.length+j < n*zs.length:=by
   have:(r+1)*zs.length≤n*zs.length:=Nat.mul_le_mul_right _ hr;rw [Nat.add_mul] at this; omega
  refine ⟨v,?_,Hi.2 j v v hv hv⟩;rw [Array.getElem?_toList,kG _ al,Nat.mul_comm,Nat.mul_add_mod,Nat.mod_eq_of_lt hj]; exact hv
 ·obtain ⟨j,hj,rfl⟩:=List.getElem_of_mem hu;have gh:j < n*zs.length:=by simpa [D6,bc] using hj
  have h1:=kG j gh;rw [← Array.getElem?_toList,List.getElem?_eq_getElem hj] at h1;exact qB _ (List.mem_of_getElem? h1.symm)
theorem R8 (hE:EnvOk P E) {ν:Nu} {tmps:List Value} {H:aA} {a:Act} {w:World} (hi:bw F ν tmps H a w) {t:TypeId} {x:Operand} {k:aA→Prop}
  (h:N8 E tmps H t x k) (ty:TypeId):∃ H' w',k H'∧bw F ν tmps H' a w'∧(Builtin.clear_ #[t] ty #[a.eval x]).run P w=.ok (.tuple #[]) w':=by
 obtain ⟨xv,J,hx⟩:=kq h (hi.l8 x);clear h;obtain ⟨ti,ht,h⟩:=cN J;clear J;obtain ⟨d,hu,hd⟩:=(hE.ty _ _ ht).under
 split at h
 ·rename_i e hk;rw [hk] at hd;have hd:d=.slice e:=hd;subst hd;obtain ⟨te,he,J⟩:=cN h;clear h;have bf:=hE.ty _ _ he
  split at J
  ·rename_i id row sp n c;obtain ⟨b,hb,h⟩:=gu J;clear J
   split at h
   ·rename_i dq;have dq:b.ah=te.size:=Nat.eq_of_beq_eq_true dq
    split at h
    ·rename_i N ah get _;have dq:ah=te.size:=dq;obtain ⟨⟨hN,cS⟩,h⟩:=h;obtain ⟨al,h⟩:=lT h;obtain ⟨l,hl,hB⟩:=hi.hp.aJ id _ hb;obtain ⟨i,iE,gr,ni,z,hz,ig⟩:=bf.info;have xM:=CR.abU (ν:=ν) ig (bf.self ν) bf.one (by rw [bf.len]; exact bf.bit.1) n
     rw [bf.len,← dq] at xM;have hsc:∀ r,r < n→∀ v∈te.zero,cH v=true:=fun _ _ v hv=>dC cS v hv
     have xg:n=0∨(0 < n∧∃ c',a.eval x=.slice (some (l.at row 0)) n c'):=by
      rcases hx.Cg with ⟨l',c',cC,_,_,e⟩ | ⟨h0,_⟩
      ·rw [hl] at cC; cases cC;rcases Nat.eq_zero_or_pos n with h | h
       ·exact .inl h
       ·exact .inr ⟨h,c',e⟩
      ·exact .inl h0
     rcases xg with h0 | ⟨lg,c',ck⟩
     ·subst h0;have:=(hi.ib (P:=P) hb hl (q:=row) (m:=0) hN (CR.nil _ _ (fun _=>te.zero)) (fun r hr=>absurd hr (by omega))).2
      refine ⟨_,w,h,this,?_⟩;have:∃ o,a.eval x=.slice o 0 0∨∃ c',a.eval x=.slice o 0 c':=by
       rcases hx.Cg with ⟨l',c',_,_,_,e⟩ | ⟨_,bb,e⟩
       ·exact ⟨_,.inr ⟨_,e⟩⟩
       ·exact ⟨_,.inl e⟩
      obtain ⟨o,e | ⟨c',e⟩⟩:=this <;> rw [e] <;> cases o <;> simp [Builtin.clear_,dA hu]
     ·obtain ⟨h1,J⟩:=hi.ib (P:=P) hb hl (q:=row) hN xM hsc;refine ⟨_,_,h,J,?_⟩;obtain ⟨m,rfl⟩:∃ m,n=m+1:=⟨n - 1,by omega⟩
      rw [ck];simp [Builtin.clear_,dA hu,vO iE hz,h1]
    ·exact h.elim
   ·exact h.elim
  ·exact J.elim
 ·exact h.elim
theorem CR.pre {ν:Nu} {ah m q:Nat} {g:Nat→List Value} {L:List Value} (h:CR ν ah g m L) (hq:q≤m):CR ν ah g q (L.take (q*ah)):=by
 have hle:q*ah≤m*ah:=Nat.mul_le_mul_right _ hq;refine ⟨by rw [List.length_take,h.len]; omega,fun r hr=>h.row r (by omega),fun r hr j v hv=>?_,fun u hu=>h.one u (List.mem_of_mem_take hu),fun r hr=>h.sE r (by omega)⟩
 obtain ⟨v',h1,J⟩:=h.cell r (by omega) j v hv
 have hj:j < ah:=by rw [← h.row r (by omega)]; exact (List.getElem?_eq_some_iff.1 hv).1
 have:(r+1)*ah≤q*ah:=Nat.mul_le_mul_right _ hr;rw [Nat.add_mul] at this;exact ⟨v',by rw [List.getElem?_take_of_lt (by omega)]; exact h1,J⟩
theorem KY (hE:EnvOk P E) {ν:Nu} {tmps:List Value} {H:aA} {a:Act} {w:World} (hi:bw F ν tmps H a w) {t:TypeId} {xv yv x' y':Value} {k:Value→aA→Prop} (hx:au ν xv x') (hy:au ν yv y')
  (h:Gg E H t xv yv k) (t2 ty:TypeId):∃ v H' w',k v H'∧au ν v v∧bw F ν tmps H' a w'∧(Builtin.copy_ #[t,t2] ty #[x',y']).run P w=.ok v w':=by
 obtain ⟨ti,ht,J⟩:=cN h;clear h;obtain ⟨d,hu,hd⟩:=(hE.ty _ _ ht).under
 split at J
 ·rename_i e hk;rw [hk] at hd;have hd:d=.slice e:=hd;subst hd;obtain ⟨te,he,h⟩:=cN J;clear J;have bf:=hE.ty _ _ he;obtain ⟨i,iE,gr,ni,z,hz,ig⟩:=bf.info;obtain ⟨s,J,xN,hs⟩:=Fa h;clear h;obtain ⟨oy,cy,L,kh,ki,hC,jN⟩:=hs ν w _ hi.hp hy;have qC:s.j7=true→∀ r,r < s.m→∀ v∈s.get r,cH v=true:=fun h r hr v hv=>xN h r hr ν w hi.hp v hv
  split at J
  ·rename_i m news id row sp n c;obtain ⟨b,hb,h⟩:=gu J;clear J
   split at h
   ·rename_i dq;have dq:b.ah=te.size:=Nat.eq_of_beq_eq_true dq
    split at h
    ·rename_i N ah get _;have dq:ah=te.size:=dq;obtain ⟨hN,h⟩:=h;obtain ⟨al,h⟩:=lT h;obtain ⟨l,hl,hB⟩:=hi.hp.aJ id _ hb;have zR:CR ν te.size news m L:=hC;have zC:Nat.min m n≤m:=Nat.min_le_left _ _;have aeo:Nat.min m n≤n:=Nat.min_le_right _ _;have IK:CR ν ah news (Nat.min m n) (L.take (Nat.min m n*te.size)):=by rw [dq]; exact zR.pre zC
     obtain ⟨h1,h3⟩:=hi.ib (P:=P) hb hl (q:=row) (m:=Nat.min m n) (by omega) IK (fun r hr=>qC rfl r (by show r < m; omega))
     have zX:y'=.slice oy m cy:=kh;have hf:(Builtin.firstCells i.size (Nat.min m n) (.slice oy m cy)).run P w=.ok (L.take (Nat.min m n*te.size)).toArray w:=by
      cases oy with
      | none =>
       have kg:m=0:=ki rfl;subst kg;have:L=[]:=List.eq_nil_of_length_eq_zero (by rw [zR.len]; simp)
       subst this;rw [run_firstCells_none]; simp
      | some b0 =>
       refine run_firstCells_some (P:=P) w i.size (Nat.min m n) b0 m cy _ (by rw [gr]; exact (zR.pre zC).len) fun j v hv=>jN b0 rfl j v ?_
       have:=(List.getElem?_eq_some_iff.1 hv).1;rw [List.length_take] at this;rw [List.getElem?_take_of_lt (by omega)] at hv
       exact hv
     rcases hx.Cg with ⟨l',c',cC,_,_,e⟩ | ⟨h0,bb,e⟩
     ·rw [hl] at cC; cases cC;refine ⟨_,_,_,h,.int _ _,h3,?_⟩;rw [e,zX];simp [Builtin.copy_,dA hu,Builtin.lenOf,sizeOf,typeInfo,iE,hf,h1]
      rfl
     ·subst h0;have hq:Nat.min m 0=0:=Nat.min_zero m;have h4:=(hi.ib (P:=P) hb hl (q:=row) (m:=Nat.min m 0) (news:=news) (L:=[]) (by omega) (by rw [hq]; exact CR.nil _ _ _) (fun r hr=>absurd hr (by omega))).2
      refine ⟨_,_,w,h,.int _ _,h4,?_⟩;rw [e,zX];rw [hq,Nat.zero_mul,List.take_zero] at hf;cases bb <;> simp [Builtin.copy_,dA hu,Builtin.lenOf,sizeOf,typeInfo,iE,hq,hf] <;> rfl
    ·exact h.elim
   ·exact h.elim
  ·exact J.elim
 ·exact J.elim
theorem Kx (hE:EnvOk P E) (bM:kL F E) {ν:Nu} {tmps:List Value} {H:aA} {a:Act} {w:World} (hi:bw F ν tmps H a w) {t:TypeId} {xv yv x' y':Value} {k:Value→List Value→aA→Prop}
  (hx:au ν xv x') (hy:au ν yv y') (h:Gf E tmps H t xv yv k) (ty:TypeId) :
  ∃ v v' ak t' H' w',k v t' H'∧au ak v v'∧bw F ak t' H' a w'∧(Builtin.append_ #[t,t] ty #[x',y']).run P w=.ok v' w'∧(Bz xv=true→ν.le ak):=by
 obtain ⟨ti,ht,J⟩:=cN h;clear h;obtain ⟨d,hu,hd⟩:=(hE.ty _ _ ht).under
 split at J
 ·rename_i e hk;rw [hk] at hd;have hd:d=.slice e:=hd;subst hd;obtain ⟨te,he,h⟩:=cN J;clear J;have bf:=hE.ty _ _ he;obtain ⟨i,iE,gr,ni,z,hz,ig⟩:=bf.info;obtain ⟨s,J,xN,hs⟩:=Fa h;clear h;obtain ⟨oy,cy,L,kh,ki,hC,jN⟩:=hs ν w _ hi.hp hy;have hL:L.length=s.m*i.size:=by rw [gr]; exact hC.len
  have jq:z.cells.size=te.size:=by rw [ig]; simpa using bf.len
  have adw:=bf.bit;have small:∀ q,q*te.bytes≤140737488355328→q≤140737488355328:=fun q hq=>by
   have:q*1≤q*te.bytes:=Nat.mul_le_mul_left _ (by omega)
   omega
  have qC:s.j7=true→∀ r,r < s.m→∀ v∈s.get r,cH v=true:=fun h r hr v hv=>xN h r hr ν w hi.hp v hv
  split at J
  ·-- onto nil
   have hx:=hx.pP
   split at J
   ·rename_i hm;have xO:L=[]:=List.eq_nil_of_length_eq_zero (by rw [hL,hm]; simp)
    refine ⟨_,_,ν,_,_,w,J,.iD,hi,?_,fun _=>ν.le_refl⟩
    rw [hx,kh];have:=rC (P:=P) (w:=w) (ty:=ty) hu iE (A:=none) (oy:=oy) (n:=0) (c:=0) (m:=s.m) (cy:=cy) (L:=L) hL jN ki (by omega) (w2:=w) (fun a ha=>by cases ha) (fun _=>rfl)
    rw [hm] at this ⊢
    simpa using this
   ·rename_i m hm;obtain ⟨hB,h⟩:=J;have h:=lU h;have bE:=AN (P:=P) (w:=w) (ty:=ty) hu iE hz (A:=none) (oy:=oy) (n:=0) (c:=0) (m:=s.m) (cy:=cy) (O:=[]) (L:=L) (by simp) (fun a ha=>by cases ha) (fun _=>⟨rfl,rfl⟩) hL jN ki (by omega) (by omega) (by rw [ni,hm]; simpa using hB) (by have:=small _ hB; omega)
    have oZ:ν H.length=none:=hi.fr _ (Nat.le_refl _);have dR:Ext (oK te.size s) te.size (fun _=>[]) 0 s.get s.m s.j7:=by
     cases s with
     | fl m g=>exact ⟨rfl,rfl,by simp [oK,aj.n,Src.m],fun r hr=>by rw [gm (by omega)]; rfl,fun _=>rfl⟩
     | ex L=>exact ⟨rfl,rfl,by simp [oK,aj.n,Src.m],fun r hr=>by rw [gm (by omega)]; rfl,fun h=>by simp [oK,aj.iN] at h⟩
    have xM:=hC.mono (Nu.jX (l:=⟨w.heap.size,0,te.size,grownCap w (0+s.m) 0 e⟩) oZ);have ij:=vW (CR.nil _ te.size (fun _=>[])) xM dR (fun h=>⟨fun r hr=>absurd hr (by omega),qC h⟩) (w:=w) jq (iH:=0) (e:=e)
    have dH:=grownCap_ge w (0+s.m) 0 e;have cA:au (ν.add H.length ⟨w.heap.size,0,te.size,grownCap w (0+s.m) 0 e⟩) (.slice (some ⟨H.length,0,none⟩) (m+1) aO) (.slice (some ⟨w.heap.size,0,none⟩) (0+s.m) (grownCap w (0+s.m) 0 e)):=by
     have:=au.slice (ν:=ν.add H.length ⟨w.heap.size,0,te.size,grownCap w (0+s.m) 0 e⟩) H.length 0 (0+s.m) aO (grownCap w (0+s.m) 0 e) _ Nu.add_same (.inr rfl) dH (by simp)
     rw [show m+1=0+s.m by omega]
     simpa [Loc.at] using this
    have hq:=mL oZ ij (vS w _ _ _ _) (Nat.le_refl _) cA;obtain ⟨H',h1,J⟩:=hi.quiet hq (k:=fun H'=>k _ tmps H') h
    refine ⟨_,_,_,_,_,_,h1,cA,J,?_,fun _=>Nu.jX oZ⟩
    rw [hx,kh]
    simpa using bE
  ·rename_i id row n c;obtain ⟨b,hb,h⟩:=gu J;clear J;obtain ⟨l,hl,hB⟩:=hi.hp.aJ id b hb
   split at h
   ·rename_i dq;have dq:b.ah=te.size:=Nat.eq_of_beq_eq_true dq;rw [← dq] at hC jq
    -- what the slice may be
    have IL:∃ A c',x'=.slice (some A) n c'∧n≤c'∧(c'=c∨c=aO)∧((A=l.at row 0∧row+c'≤l.cap)∨(n=0∧c'=0)):=by
     rcases hx.tP with ⟨l',c',cC,h1,J,h3,e⟩ | ⟨h1,J,bb,e⟩
     ·rw [hl] at cC; cases cC;exact ⟨_,c',e,J,h1,.inl ⟨rfl,h3⟩⟩
     ·exact ⟨bb,0,by rw [e,h1],by omega,J.imp (fun h=>h) (fun h=>h),.inr ⟨h1,rfl⟩⟩
    obtain ⟨A,c',ck,Dv,kM,hA⟩:=IL
    -- its cells
    have hold:row+n≤b.n→∃ O,CR ν b.ah (fun j=>b.row (row+j)) n O∧∀ (j:Nat) u,O[j]?=some u→w.cell? (A.add j)=some u:=by
     intro hle;rcases hA with ⟨rfl,_⟩ | ⟨h0,_⟩
     ·exact CR.GM hB hle
     ·subst h0;exact ⟨[],CR.nil _ _ _,fun j u hu=>by simp at hu⟩
    have sV:b.oT=true→∀ r,r < b.n→∀ v∈b.row r,cH v=true:=fun h r hr v hv=>by
     cases b with
     | flat o n e g=>exact hB.plain rfl r hr v hv
     | aS o e rows =>
      have h:rows.all jA=true:=h;have hr:r < rows.length:=hr;have hv:v∈rows.getD r []:=hv;rw [List.getD_eq_getElem?_getD,List.getElem?_eq_getElem hr] at hv;exact x4 (List.all_eq_true.1 h _ (List.getElem_mem hr)) v hv
     | cc r=>cases h
    have mi:(b.oT && s.j7)=true→(∀ r,r < b.n→∀ v∈b.row r,cH v=true)∧∀ r,r < s.m→∀ v∈s.get r,cH v=true:=fun h=>by
     rw [Bool.and_eq_true] at h; exact ⟨sV h.1,qC h.2⟩
    -- in its place
    have Gh:∀ b' (q:Nat),b.nP=true→Ext b' b.ah b.row q s.get s.m (b.oT && s.j7)→row+n=q→q≤b.n→n+s.m≤c'→∃ w2,(Builtin.append_ #[t,t] ty #[x',y']).run P w=.ok (.slice (some A) (n+s.m) c') w2 ∧
      bN ν l b' w2∧Kept F.O F.W w2∧w.heap.size≤w2.heap.size∧∀ q,q≠l.aJ→w2.heap[q]?=w.heap[q]?:=by
     intro b' q ho dR zY qR cP;rcases hA with ⟨rfl,fJ⟩ | ⟨h0,n9⟩
     ·obtain ⟨h1,J⟩:=hB.extend (P:=P) ho qR hC dR mi (by omega)
      refine ⟨_,?_,J,hi.kp.setCells (hi.own id b l hb (aj.cX ho).1 hl) _ _,by rw [ou]; exact Nat.le_refl _,fun q hq=>rr _ _ _ _ _ hq⟩
      rw [ck,kh];refine rC (P:=P) hu iE hL jN ki cP (fun A' sW=>?_) (fun h=>by cases h)
      cases sW;have:(l.at row 0).add (n*i.size)=l.at q 0:=by
       rw [Loc.jC]; unfold Loc.at; congr 1;rw [hB.ah,← zY,Nat.add_mul,gr,dq]; omega
      rw [this]; exact h1
     ·have kg:s.m=0:=by omega
      have xO:L=[]:=List.eq_nil_of_length_eq_zero (by rw [hL,kg]; simp)
      refine ⟨w,?_,?_,hi.kp,Nat.le_refl _,fun _ _=>rfl⟩
      ·rw [ck,kh];refine rC (P:=P) hu iE hL jN ki cP (fun A' sW=>by rw [xO]; rfl) (fun h=>by cases h)
      ·have fM:b'.n=q:=by rw [dR.num,kg]; rfl
       have aZ:∀ r,r < q→b'.row r=b.row r:=fun r hr=>by rw [dR.row r (by omega),ja hr]
       exact ⟨by rw [dR.ah]; exact hB.ah,fun r hr=>by rw [fM] at hr; rw [aZ r hr,dR.ah]; exact hB.len r (by omega),
        fun r hr j v hv=>by rw [fM] at hr; rw [aZ r hr] at hv; exact hB.cell r (by omega) j v hv,
        fun h r hr v hv=>by rw [fM] at hr; rw [aZ r hr] at hv; exact (mi (dR.flat h)).1 r (by omega) v hv,
        fun r hr v hv=>by rw [fM] at hr; rw [aZ r hr] at hv; exact hB.one r (by omega) v hv,
        fun _ _=>by obtain ⟨cur,tt,q1,q2,q3⟩:=hB.own (aj.cX ho).1 (aj.cX ho).2; exact ⟨cur,tt,q1,q2,by rw [fM]; omega⟩,(fun r h=>by rw [(aj.cX dR.own).2] at h; cases h),hB.live⟩
    have Pk:n+s.m≤c'→∀ ak,ak id=some l→au ak (.slice (some ⟨id,row,none⟩) (n+s.m) c) (.slice (some A) (n+s.m) c'):=by
     intro cP ak cC;rcases hA with ⟨rfl,fJ⟩ | ⟨h0,n9⟩
     ·exact .slice _ _ _ _ _ l cC kM cP fJ
     ·have kg:s.m=0:=by omega
      subst n9;rw [h0,kg];exact .void _ _ _ _ kM
    have grow:(n+s.m)*te.bytes≤140737488355328→c' < n+s.m→∀ O,O.length=n*i.size→(∀ (j:Nat) u,O[j]?=some u→w.cell? (A.add j)=some u) →
      (Builtin.append_ #[t,t] ty #[x',y']).run P w=.ok (.slice (some ⟨w.heap.size,0,none⟩) (n+s.m) (grownCap w (n+s.m) c' e)) (w.drew.alloc (tR (O++L).toArray z (grownCap w (n+s.m) c' e - (n+s.m)) e)):=by
     intro hB cP O hO1 hO2;rw [ck,kh];exact AN (P:=P) (w:=w) (ty:=ty) hu iE hz hO1 (fun a ha=>by cases ha; exact hO2) (fun h=>by cases h) hL jN ki Dv cP (by rw [ni]; exact hB) (small _ hB)
    -- a block that stays
    have Dw:row+n=b.n→n+s.m≤c'→(wH b s fun b'=>jl H id (some b') fun H'=>k (.slice (some ⟨id,row,none⟩) (n+s.m) c) tmps H') →
      ∃ v v' ak t' H' w',k v t' H'∧au ak v v'∧bw F ak t' H' a w'∧(Builtin.append_ #[t,t] ty #[x',y']).run P w=.ok v' w'∧ν.le ak:=fun zY cP h=>by
     obtain ⟨b',h,ho,dR⟩:=AO h;obtain ⟨al,h⟩:=lT h;obtain ⟨w2,bE,ij,js,pj,nR⟩:=Gh b' _ ho dR zY (Nat.le_refl _) cP;refine ⟨_,_,ν,_,_,w2,h,Pk cP ν hl,⟨hi.tm,(let ⟨_,_,uD,_⟩:=hB.own (aj.cX ho).1 (aj.cX ho).2; hi.df.eh uD nR),?_,fun j hj=>hi.fr j (by simpa using hj),js,fun j bj lj hj n8 cZ=>?_,hi.mono⟩,bE,ν.le_refl⟩
     ·refine hi.hp.eh (id:=id) (fun _ _=>rfl) (fun j bj hj aI=>?_) (fun bj hj=>?_)
      ·rw [List.getElem?_set_ne (Ne.symm aI)] at hj;refine ⟨bj,hj,rfl,fun lj cZ qQ=>qQ.same (nR _ ?_) pj⟩
       exact Ne.symm (hi.hp.sep id j b bj l lj hb hj (Ne.symm aI) (aj.cX ho).1 hl cZ)
      ·rw [List.getElem?_set_self al] at hj;cases hj;exact ⟨l,hl,ij,fun j lj bj aI hj cZ=>Ne.symm (hi.hp.sep id j b bj l lj hb hj (Ne.symm aI) (aj.cX ho).1 hl cZ)⟩
     ·by_cases e':j=id
      ·subst e'; rw [hl] at cZ; cases cZ; exact hi.own j b l hb (aj.cX ho).1 hl
      ·rw [List.getElem?_set_ne (Ne.symm e')] at hj; exact hi.own j bj lj hj n8 cZ
    -- a new block
    have Dx:row+n≤b.n→(n+s.m)*te.bytes≤140737488355328→c' < n+s.m→(CC b row n s fun b'=>jm H fun aK=>oR H (some b') fun H'=>k (.slice (some ⟨aK,0,none⟩) (n+s.m) aO) tmps H') →
      ∃ v v' ak t' H' w',k v t' H'∧au ak v v'∧bw F ak t' H' a w'∧(Builtin.append_ #[t,t] ty #[x',y']).run P w=.ok v' w'∧ν.le ak:=fun hle lJ cP h=>by
     obtain ⟨b',h,dR⟩:=KX h;have h:=lU h;obtain ⟨O,hO,qS⟩:=hold hle;have bE:=grow lJ cP O (by rw [hO.len,gr,dq]) qS
     have oZ:ν H.length=none:=hi.fr _ (Nat.le_refl _);have kH:=Nu.jX (l:=⟨w.heap.size,0,b.ah,grownCap w (n+s.m) c' e⟩) oZ;have ij:=vW (hO.mono kH) (hC.mono kH) dR (fun h=>⟨fun r hr v hv=>(mi h).1 (row+r) (by omega) v hv,(mi h).2⟩) (w:=w) jq (iH:=c') (e:=e)
     have dH:=grownCap_ge w (n+s.m) c' e;have cA:au (ν.add H.length ⟨w.heap.size,0,b.ah,grownCap w (n+s.m) c' e⟩) (.slice (some ⟨H.length,0,none⟩) (n+s.m) aO) (.slice (some ⟨w.heap.size,0,none⟩) (n+s.m) (grownCap w (n+s.m) c' e)):=by
      have:=au.slice (ν:=ν.add H.length ⟨w.heap.size,0,b.ah,grownCap w (n+s.m) c' e⟩) H.length 0 (n+s.m) aO (grownCap w (n+s.m) c' e) _ Nu.add_same (.inr rfl) dH (by simp)
      simpa [Loc.at] using this
     have hq:=mL oZ ij (vS w _ _ _ _) (Nat.le_refl _) cA;obtain ⟨H',h1,J⟩:=hi.quiet hq (k:=fun H'=>k _ tmps H') h
     exact ⟨_,_,_,_,_,_,h1,cA,J,bE,kH⟩
    -- a block that is put in place of the old one
    have HO:∀ b1:aj,b.nP=true→Ext b1 b.ah b.row n s.get s.m (b.oT && s.j7)→c=aO→row=0→E.base≤id→n≤b.n→(n+s.m)*te.bytes≤140737488355328 →
      (y9 id b1 fun b'=>∃ aa,∀ a:Nat→Value,uB a id aa 0 tmps fun za=>xe id H fun H1=>jl H1 id (some b') fun H'=>k (.slice (some ⟨id,0,none⟩) (n+s.m) aO) za H') →
      ∃ v v' ak t' H' w',k v t' H'∧au ak v v'∧bw F ak t' H' a w'∧(Builtin.append_ #[t,t] ty #[x',y']).run P w=.ok v' w':=fun b1 ho dR dp abV CD fM lJ sX=>by
     subst abV;obtain ⟨b',h,ho1,Qe⟩:=KV sX;obtain ⟨aa,h⟩:=h;obtain ⟨af,IM⟩:=Nm hi.tm;obtain ⟨t',h,jt⟩:=EK (h af) ν _ hi.tm (fun j y hy ak=>by rw [Nat.zero_add]; exact IM j y hy ak)
     obtain ⟨H1,h,kf,Dy⟩:=EL h;obtain ⟨al,h⟩:=lT h;by_cases cP:n+s.m≤c'
     ·obtain ⟨w2,bE,ij,js,pj,nR⟩:=Gh b1 _ ho dR (Nat.zero_add n) fM cP;have ij:=Qe ν ν l w2 (fun _ _=>rfl) ij
      have hv:=Pk cP ν hl;rw [dp] at hv;refine ⟨_,_,ν,_,_,w2,h,hv,⟨jt ν (fun _ _=>rfl),(let ⟨_,_,uD,_⟩:=hB.own (aj.cX ho).1 (aj.cX ho).2; hi.df.eh uD nR),?_,fun j hj=>hi.fr j (by simpa [kf] using hj),js,fun j bj lj hj n8 cZ=>?_,hi.mono⟩,bE⟩
      ·refine hi.hp.eh (id:=id) (fun _ _=>rfl) (fun j bj hj aI=>?_) (fun bj hj=>?_)
       ·rw [List.getElem?_set_ne (Ne.symm aI)] at hj;obtain ⟨b0,kj,vj,sX⟩:=Dy j bj hj;refine ⟨b0,kj,vj,fun lj cZ qQ=>sX ν ν lj w2 (fun _ _=>rfl) (qQ.same (nR _ ?_) pj)⟩
        exact Ne.symm (hi.hp.sep id j b b0 l lj hb kj (Ne.symm aI) (aj.cX ho).1 hl cZ)
       ·rw [List.getElem?_set_self al] at hj;cases hj;exact ⟨l,hl,ij,fun j lj bj aI hj cZ=>Ne.symm (hi.hp.sep id j b bj l lj hb hj (Ne.symm aI) (aj.cX ho).1 hl cZ)⟩
      ·by_cases e':j=id
       ·subst e'; rw [hl] at cZ; cases cZ; exact hi.own j b l hb (aj.cX ho).1 hl
       ·rw [List.getElem?_set_ne (Ne.symm e')] at hj;obtain ⟨b0,kj,vj,_⟩:=Dy j bj hj;exact hi.own j b0 lj kj (by rw [← vj]; exact n8) cZ
     ·have cP:c' < n+s.m:=by omega
      obtain ⟨O,hO,qS⟩:=hold (by omega)
      have bE:=grow lJ cP O (by rw [hO.len,gr,dq]) qS
      have dH:=grownCap_ge w (n+s.m) c' e;have gL:ν.off (ν.add id ⟨w.heap.size,0,b.ah,grownCap w (n+s.m) c' e⟩) id:=fun j hj=>Nu.iM hj
      have HP:=vS w (O++L).toArray z (grownCap w (n+s.m) c' e - (n+s.m)) e;have IN:CR ν b.ah b.row n O:=hO.congr (fun r hr=>by simp)
      have ij:bN ν ⟨w.heap.size,0,b.ah,grownCap w (n+s.m) c' e⟩ b1 _:=vW IN hC dR (fun h=>⟨fun r hr v hv=>(mi h).1 r (by omega) v hv,(mi h).2⟩) (w:=w) jq (iH:=c') (e:=e)
      have hF:F.ν.le (ν.add id ⟨w.heap.size,0,b.ah,grownCap w (n+s.m) c' e⟩):=by
       intro j lj hj;have aI:j≠id:=by
        intro e';subst e';rw [F.fresh j (by have:=bM.n0; omega)] at hj
        cases hj
       rw [Nu.iM aI]; exact hi.mono j lj hj
      have cA:au (ν.add id ⟨w.heap.size,0,b.ah,grownCap w (n+s.m) c' e⟩) (.slice (some ⟨id,0,none⟩) (n+s.m) aO) (.slice (some ⟨w.heap.size,0,none⟩) (n+s.m) (grownCap w (n+s.m) c' e)):=by
       have:=au.slice (ν:=ν.add id ⟨w.heap.size,0,b.ah,grownCap w (n+s.m) c' e⟩) id 0 (n+s.m) aO (grownCap w (n+s.m) c' e) _ Nu.add_same (.inr rfl) dH (by simp)
       simpa [Loc.at] using this
      have qD:id < H.length:=by rw [← kf]; exact al
      refine ⟨_,_,ν.add id ⟨w.heap.size,0,b.ah,grownCap w (n+s.m) c' e⟩,_,_,_,h,cA,⟨jt _ gL,hi.df.below HP,?_,fun j hj=>?_,hi.kp.below HP,fun j bj lj hj n8 cZ=>?_,hF⟩,bE⟩
      ·refine hi.hp.eh (id:=id) gL (fun j bj hj aI=>?_) (fun bj hj=>?_)
       ·rw [List.getElem?_set_ne (Ne.symm aI)] at hj;obtain ⟨b0,kj,vj,sX⟩:=Dy j bj hj;exact ⟨b0,kj,vj,fun lj cZ qQ=>sX ν _ lj _ gL (qQ.below HP)⟩
       ·rw [List.getElem?_set_self al] at hj;cases hj;refine ⟨_,Nu.add_same,Qe ν _ _ _ gL ij,fun j lj bj aI hj cZ=>?_⟩
        obtain ⟨lj',e1,e2⟩:=hi.hp.aJ j bj hj;rw [cZ] at e1; cases e1;have:=e2.live;simp only;omega
      ·have hj:H.length≤j:=by simpa [kf] using hj
       rw [Nu.iM (by omega)]; exact hi.fr j hj
      ·by_cases e':j=id
       ·subst e';rw [Nu.add_same] at cZ;cases cZ;exact .inr hi.kp.size
       ·rw [List.getElem?_set_ne (Ne.symm e')] at hj;obtain ⟨b0,kj,vj,_⟩:=Dy j bj hj;rw [Nu.iM e'] at cZ;exact hi.own j b0 lj kj (by rw [← vj]; exact n8) cZ
    split at h
    ·rename_i dp;have dp:c≠aO:=of_decide_eq_false dp;have hc:c'=c:=kM.resolve_right dp;cases sD:Nat.ble (n+s.m) c with
     | true =>
      have cP:=Nat.le_of_ble_eq_true sD;obtain ⟨zY,h⟩:=BP h sD;obtain ⟨v,v',ak,t',H',w',h1,J,h3,h4,h5⟩:=Dw zY (by omega) h
      exact ⟨v,v',ak,t',H',w',h1,J,h3,h4,fun _=>h5⟩
     | false =>
      have cP:c < n+s.m:=by
       rcases Nat.lt_or_ge c (n+s.m) with h' | h'
       ·exact h'
       ·rw [Nat.ble_eq_true_of_le h'] at sD; cases sD
      obtain ⟨⟨hle,lJ⟩,h⟩:=Bw h sD;obtain ⟨v,v',ak,t',H',w',h1,J,h3,h4,h5⟩:=Dx hle lJ (by omega) h
      exact ⟨v,v',ak,t',H',w',h1,J,h3,h4,fun _=>h5⟩
    ·rename_i dp;have dp:c=aO:=of_decide_eq_true dp;have nx:Bz (.slice (some ⟨id,row,none⟩) n c)=true→False:=fun hx=>by rw [dp] at hx; simp [Bz] at hx
     split at h
     ·have zZ:row=0:=by
       cases row with
       | zero=>rfl
       | succ r=>exact h.elim
      clear Dw Dx;subst zZ;obtain ⟨⟨CD,⟨fM,ho⟩,lJ⟩,h⟩:=h;obtain ⟨b1,h,dR⟩:=KX h;obtain ⟨v,v',ak,t',H',w',h1,J,h3,h4⟩:=HO b1 ho (by simpa using dR) dp rfl CD fM lJ h
      exact ⟨v,v',ak,t',H',w',h1,J,h3,h4,fun hx=>(nx hx).elim⟩
     ·split at h
      ·have zZ:row=0:=by
        cases row with
        | zero=>rfl
        | succ r=>exact h.elim
       clear Dw Dx;subst zZ;obtain ⟨⟨CD,fM,lJ⟩,h⟩:=h;obtain ⟨b1,h,ho,dR⟩:=AO h;obtain ⟨v,v',ak,t',H',w',h1,J,h3,h4⟩:=HO b1 ho (by rw [fM]; exact dR) dp rfl CD (Nat.le_of_eq fM) lJ h
       exact ⟨v,v',ak,t',H',w',h1,J,h3,h4,fun hx=>(nx hx).elim⟩
      ·have zZ:row=0:=by
        cases row with
        | zero=>rfl
        | succ r=>exact h.elim
       clear Dw Dx HO;subst zZ;obtain ⟨⟨fM,lJ⟩,h⟩:=h;obtain ⟨b',h,ho,dR⟩:=AO h;obtain ⟨al,h⟩:=lT h;have h:=lU h;have fN:bw F ν tmps (H.set id none) a w:=by
        have hle:aA.le (H.set id none) H:=fun j bj hj=>by
         by_cases e':j=id
         ·subst e'; rw [List.getElem?_set_self al] at hj; cases hj
         ·rw [List.getElem?_set_ne (Ne.symm e')] at hj; exact hj
        exact ⟨hi.tm,hi.df,hi.hp.rX hle,fun j hj=>hi.fr j (by simpa using hj),hi.kp,fun j bj lj hj n8 cZ=>hi.own j bj lj (hle j bj hj) n8 cZ,hi.mono⟩
       have oZ:ν (H.set id none).length=none:=fN.fr _ (Nat.le_refl _);have iH:∀ j bj,(H.set id none)[j]?=some (some bj)→j≠id∧H[j]?=some (some bj):=fun j bj hj=>by
        by_cases e':j=id
        ·subst e'; rw [List.getElem?_set_self al] at hj; cases hj
        ·rw [List.getElem?_set_ne (Ne.symm e')] at hj; exact ⟨e',hj⟩
       by_cases cP:n+s.m≤c'
       ·obtain ⟨w2,bE,ij,js,pj,nR⟩:=Gh b' _ ho dR (by rw [fM]; simp) (Nat.le_refl _) cP
        have h:=yc h;have kH:=Nu.jX (l:=l) oZ;have yJ:∀ j bj,(H.set id none++[some b'])[j]?=some (some bj)→(j < (H.set id none).length∧j≠id∧H[j]?=some (some bj))∨(j=(H.set id none).length∧bj=b'):=fun j bj hj=>by
         rw [List.getElem?_append] at hj
         split at hj
         ·rename_i HQ;exact .inl ⟨HQ,iH j bj hj⟩
         ·rename_i dH;have:j - (H.set id none).length=0:=by
           rcases Nat.lt_or_ge (j - (H.set id none).length) 1 with h' | h'
           ·omega
           ·rw [List.getElem?_eq_none (by simpa using h')] at hj; cases hj
          rw [this] at hj;cases hj;exact .inr ⟨by omega,rfl⟩
        have hv:au (ν.add (H.set id none).length l) (.slice (some ⟨(H.set id none).length,0,none⟩) (n+s.m) aO) (.slice (some A) (n+s.m) c'):=by
         rcases hA with ⟨rfl,fJ⟩ | ⟨h0,n9⟩
         ·exact .slice _ _ _ _ _ l Nu.add_same (.inr rfl) cP fJ
         ·have kg:s.m=0:=by omega
          subst n9;rw [h0,kg];exact .void _ _ _ _ (.inr rfl)
        refine ⟨_,_,ν.add (H.set id none).length l,_,_,w2,h,hv,⟨hi.tm.mono kH,(let ⟨_,_,uD,_⟩:=hB.own (aj.cX ho).1 (aj.cX ho).2; hi.df.eh uD nR),⟨fun j bj hj=>?_,fun i j bi bj li lj h1 J aI IH e1 e2=>?_⟩,fun j hj=>?_,js,fun j bj lj hj n8 cZ=>?_,Nu.le_trans hi.mono kH⟩,bE,fun hx=>(nx hx).elim⟩
        ·rcases yJ j bj hj with ⟨q1,q2,q3⟩ | ⟨q1,q2⟩
         ·obtain ⟨lj,e1,e2⟩:=hi.hp.aJ j bj q3;refine ⟨lj,kH _ _ e1,(e2.same (nR _ ?_) pj).mono kH⟩;exact Ne.symm (hi.hp.sep id j b bj l lj hb q3 (Ne.symm q2) (aj.cX ho).1 hl e1)
         ·subst q1; subst q2;exact ⟨l,Nu.add_same,ij.mono kH⟩
        ·rcases yJ i bi h1 with ⟨q1,q2,q3⟩ | ⟨q1,q2⟩
         ·rw [Nu.iM (by omega)] at e1
          rcases yJ j bj J with ⟨p1,p2,p3⟩ | ⟨p1,p2⟩
          ·rw [Nu.iM (by omega)] at e2
           exact hi.hp.sep i j bi bj li lj q3 p3 aI IH e1 e2
          ·subst p1;rw [Nu.add_same] at e2; cases e2;exact Ne.symm (hi.hp.sep id i b bi l li hb q3 (Ne.symm q2) (aj.cX ho).1 hl e1)
         ·subst q1;rw [Nu.add_same] at e1; cases e1;rcases yJ j bj J with ⟨p1,p2,p3⟩ | ⟨p1,p2⟩
          ·rw [Nu.iM (by omega)] at e2
           exact hi.hp.sep id j b bj l lj hb p3 (Ne.symm p2) (aj.cX ho).1 hl e2
          ·exact absurd p1.symm aI
        ·have hj:H.length+1≤j:=by simpa using hj
         rw [Nu.iM (by simp; omega)]; exact hi.fr j (by omega)
        ·rcases yJ j bj hj with ⟨q1,q2,q3⟩ | ⟨q1,q2⟩
         ·rw [Nu.iM (by omega)] at cZ
          exact hi.own j bj lj q3 n8 cZ
         ·subst q1;rw [Nu.add_same] at cZ; cases cZ;exact hi.own id b l hb (aj.cX ho).1 hl
       ·obtain ⟨O,hO,qS⟩:=hold (by omega)
        have bE:=grow lJ (by omega) O (by rw [hO.len,gr,dq]) qS
        have kH:=Nu.jX (l:=⟨w.heap.size,0,b.ah,grownCap w (n+s.m) c' e⟩) oZ;have IN:CR ν b.ah b.row n O:=hO.congr (fun r hr=>by simp)
        have HR:Ext b' b.ah b.row n s.get s.m (b.oT && s.j7):=by rw [fM]; exact dR
        have ij:=vW (IN.mono kH) (hC.mono kH) HR (fun h=>⟨fun r hr v hv=>(mi h).1 r (by omega) v hv,(mi h).2⟩) (w:=w) jq (iH:=c') (e:=e)
        have dH:=grownCap_ge w (n+s.m) c' e;have cA:au (ν.add (H.set id none).length ⟨w.heap.size,0,b.ah,grownCap w (n+s.m) c' e⟩) (.slice (some ⟨(H.set id none).length,0,none⟩) (n+s.m) aO) (.slice (some ⟨w.heap.size,0,none⟩) (n+s.m) (grownCap w (n+s.m) c' e)):=by
         have:=au.slice (ν:=ν.add (H.set id none).length ⟨w.heap.size,0,b.ah,grownCap w (n+s.m) c' e⟩) (H.set id none).length 0 (n+s.m) aO (grownCap w (n+s.m) c' e) _ Nu.add_same (.inr rfl) dH (by simp)
         simpa [Loc.at] using this
        have hq:=mL oZ ij (vS w _ _ _ _) (Nat.le_refl _) cA;obtain ⟨H',h1,J⟩:=fN.quiet hq (k:=fun H'=>k _ tmps H') h
        exact ⟨_,_,_,_,_,_,h1,cA,J,bE,fun hx=>(nx hx).elim⟩
   ·exact h.elim
  ·rename_i id row b0 n c;obtain ⟨b,hb,h⟩:=gu J;clear J
   split at h
   ·rename_i dq;have dq:b.ah=te.size:=Nat.eq_of_beq_eq_true dq
    split at h
    ·rename_i N ah get m news _;have dq:ah=te.size:=dq;obtain ⟨⟨iX,hN⟩,h⟩:=h;obtain ⟨al,h⟩:=lT h;obtain ⟨l,hl,hB⟩:=hi.hp.aJ id _ hb;rw [aB] at h;have IK:CR ν ah news m L:=by rw [dq]; exact hC
     have vk:∀ r,r < m→∀ v∈news r,cH v=true:=qC rfl;obtain ⟨h1,J⟩:=hi.ib (P:=P) hb hl (q:=row+n) (m:=m) (by omega) IK vk
     have zX:y'=.slice oy m cy:=kh;have IP:L.length=m*i.size:=hL;have Pm:oy=none→m=0:=ki;rcases hx.WB with ⟨l',c',cC,h3,h4,h5,dp,e⟩ | ⟨h3,h4,dp,bb,e⟩
     ·rw [hl] at cC; cases cC;subst dp;refine ⟨_,_,ν,_,_,_,h,.lI _ _ _ _ c' l hl h3 (by omega) h5,J,?_,fun _=>ν.le_refl⟩
      rw [e,zX];refine rC (P:=P) hu iE IP jN Pm (by omega) (fun A' sW=>?_) (fun h=>by cases h)
      cases sW;have e2:(l.at row 0).add (n*i.size)=l.at (row+n) 0:=by
       rw [Loc.jC]; unfold Loc.at; congr 1;rw [show l.ah=ah from hB.ah,gr,Nat.add_mul,dq]; omega
      rw [e2]; exact h1
     ·have kg:m=0:=by omega
      subst dp;subst h3;subst kg;subst h4;have xO:L=[]:=List.eq_nil_of_length_eq_zero (by rw [IP]; simp)
      subst xO;refine ⟨_,_,ν,_,_,w,h,.kE _ _ bb,J,?_,fun _=>ν.le_refl⟩
      rw [e,zX];exact rC (P:=P) hu iE IP jN Pm (by omega) (fun A' sW=>rfl) (fun h=>by cases h)
    ·exact h.elim
   ·exact h.elim
  ·exact J.elim
 ·exact J.elim
theorem RF (hE:EnvOk P E) (bM:kL F E) {ν:Nu} {tmps:List Value} {H:aA} {a:Act} {w:World} (hi:bw F ν tmps H a w) {t:TypeId} {x y:Operand} {k:Value→List Value→aA→Prop}
  (h:Nn E tmps H t x y k) (ty:TypeId):∃ v v' ak t' H' w',k v t' H'∧au ak v v'∧bw F ak t' H' a w'∧(Builtin.append_ #[t,t] ty #[a.eval x,a.eval y]).run P w=.ok v' w':=by
 obtain ⟨xv,J,hx⟩:=kq h (hi.l8 x);clear h;obtain ⟨yv,h,hy⟩:=kq J (hi.l8 y);obtain ⟨v,v',ak,t',H',w',h1,J,h3,h4,_⟩:=Kx hE bM hi hx hy h ty;exact ⟨v,v',ak,t',H',w',h1,J,h3,h4⟩
end
open Go Go.RowKit
def xA:List Nat→Nat→Nat→Option Nat
 | [],_,_=>none
 | a::l,id,k=>match Nat.beq a id with
  | true=>some k
  | false=>xA l id (k+1)
theorem LG:∀ {l:List Nat} {id k j:Nat},xA l id k=some j→k≤j∧l[j - k]?=some id
 | [],id,k,j,h=>by cases h
 | a::l,id,k,j,h=>by
  unfold xA at h
  split at h
  ·rename_i e;cases h;exact ⟨Nat.le_refl _,by simp [Nat.eq_of_beq_eq_true e]⟩
  ·obtain ⟨h1,J⟩:=LG h;refine ⟨by omega,?_⟩
   rw [show j - k=(j - (k+1))+1 by omega,List.getElem?_cons_succ]; exact J
def gN (σ:List Nat):Nat→Value→Option Value
 | 0,_=>none
 | k+1,v=>match v with
  | .bool b=>some (.bool b)
  | .int q n=>some (.int q n)
  | .string s=>some (.string s)
  | .pointer none=>some (.pointer none)
  | .pointer (some ⟨id,row,sp⟩)=>match xA σ id 0 with | some j=>some (.pointer (some ⟨j,row,sp⟩)) | none=>some (.chan none)
  | .slice none n c=>some (.slice none n c)
  | .slice (some ⟨id,row,sp⟩) n c=>match xA σ id 0 with | some j=>some (.slice (some ⟨j,row,sp⟩) n c) | none=>some (.chan none)
  | .nilFunc=>some .nilFunc
  | .chan none=>some (.chan none)
  | .agg ⟨l⟩=>match l.foldr (fun v acc=>match gN σ k v,acc with | some x,some xs=>some (x::xs) | _,_=>none) (some []) with | some l'=>some (.agg ⟨l'⟩) | none=>none
  | .tuple ⟨l⟩=>match l.foldr (fun v acc=>match gN σ k v,acc with | some x,some xs=>some (x::xs) | _,_=>none) (some []) with | some l'=>some (.tuple ⟨l'⟩) | none=>none
  | .func fn ⟨l⟩ ⟨m⟩=>match l.foldr (fun v acc=>match gN σ k v,acc with | some x,some xs=>some (x::xs) | _,_=>none) (some []),m.foldr (fun v acc=>match gN σ k v,acc with | some x,some xs=>some (x::xs) | _,_=>none) (some []) with
   | some l',some m'=>some (.func fn ⟨l'⟩ ⟨m'⟩) | _,_=>none
  | _=>none
def m7 (σ:List Nat) (k:Nat) (l:List Value):Option (List Value):=l.foldr (fun v acc=>match gN σ k v,acc with | some x,some xs=>some (x::xs) | _,_=>none) (some [])
theorem Fb {σ:List Nat} {m:Nat} {x:Value} {xs l:List Value} (h:m7 σ m (x::xs)=some l):∃ y ys,l=y::ys∧gN σ m x=some y∧m7 σ m xs=some ys:=by
 unfold m7 at h;rw [List.foldr_cons] at h
 split at h
 ·rename_i y ys h1 J;exact ⟨y,ys,(Option.some.inj h).symm,h1,J⟩
 ·cases h
theorem yp {σ:List Nat} {m:Nat} {ν ak:Nu} (h:∀ v v2 r,gN σ m v=some v2→au ν v r→au ak v2 r):∀ {xs l rs:List Value},m7 σ m xs=some l→bg ν xs rs→bg ak l rs
 | [],l,rs,h1,J=>by
  have:l=[]:=by simp [m7] at h1; exact h1
  rw [this,J.iL]; exact .nil _
 | x::xs,l,rs,h1,J=>by
  obtain ⟨y,ys,rfl,e1,e2⟩:=Fb h1;obtain ⟨r,b8,rfl,k1,k2⟩:=J.jd;exact .cons (h _ _ _ e1 k1) (yp h e2 k2)
theorem GN {σ:List Nat} {id j:Nat} {ν:Nu} (h:xA σ id 0=some j):(ν.comp σ) j=ν id:=by
 have:=(LG h).2;rw [Nat.sub_zero] at this;simp [Nu.comp,this]
theorem MC {σ:List Nat} {ν:Nu}:∀ (m:Nat) (v v2 r:Value),gN σ m v=some v2→au ν v r→au (ν.comp σ) v2 r:=by
 intro m
 induction m with
 | zero=>intro v v2 r h; simp [gN] at h
 | succ m ih =>
  intro v v2 r h hr;cases hr with
  | bool b=>cases h; exact .bool b
  | int q n=>cases h; exact .int q n
  | str s=>cases h; exact .str s
  | me=>cases h; exact .me
  | ptr id row sp l hl =>
   unfold gN at h
   dsimp only at h
   split at h
   ·rename_i j hj;cases h;exact .ptr j row sp l (by rw [GN hj]; exact hl)
   ·cases h; exact .dead _ rfl
  | iD=>cases h; exact .iD
  | slice id row n c c' l hl hc hn hr =>
   unfold gN at h
   dsimp only at h
   split at h
   ·rename_i j hj;cases h;exact .slice j row n c c' l (by rw [GN hj]; exact hl) hc hn hr
   ·cases h; exact .dead _ rfl
  | void id row c a hc =>
   unfold gN at h
   dsimp only at h
   split at h
   ·cases h; exact .void _ row c a hc
   ·cases h; exact .dead _ rfl
  | lI id row m' n c' l hl hm hn hr =>
   unfold gN at h
   dsimp only at h
   split at h
   ·rename_i j hj;cases h;exact .lI j row m' n c' l (by rw [GN hj]; exact hl) hm hn hr
   ·cases h; exact .dead _ rfl
  | kE id row a =>
   unfold gN at h
   dsimp only at h
   split at h
   ·cases h; exact .kE _ row a
   ·cases h; exact .dead _ rfl
  | mf=>cases h; exact .mf
  | func fn xs ys nh c9 h1 J h3 h4 =>
   unfold gN at h
   dsimp only at h
   split at h
   ·rename_i l1 l2 e1 e2;cases h;have t1:=yp ih e1 ⟨h1,J⟩;have t2:=yp ih e2 ⟨h3,h4⟩;exact .func _ _ _ _ _ t1.1 t1.2 t2.1 t2.2
   ·cases h
  | agg xs ys h1 J =>
   unfold gN at h
   dsimp only at h
   split at h
   ·rename_i l1 e1;cases h;have t1:=yp ih e1 ⟨h1,J⟩;exact .agg _ _ t1.1 t1.2
   ·cases h
  | tuple xs ys h1 J =>
   unfold gN at h
   dsimp only at h
   split at h
   ·rename_i l1 e1;cases h;have t1:=yp ih e1 ⟨h1,J⟩;exact .tuple _ _ t1.1 t1.2
   ·cases h
  | dead w hw=>cases h; exact .dead _ (by assumption)
theorem Va {σ:List Nat} {m:Nat} {v v2:Value} (h:gN σ m v=some v2) (h1:v.oneCell'=true):v2.oneCell'=true:=by
 cases m with
 | zero=>simp [gN] at h
 | succ m =>
  unfold gN at h
  split at h
  all_goals first
   | (exfalso; simp [Value.oneCell'] at h1; done)
   | (cases h; rfl)
   | (split at h <;> first | (cases h; rfl) | cases h)
   | cases h
theorem FH {σ:List Nat} {m:Nat} {p:Value→Prop} (hp:∀ v v2,gN σ m v=some v2→p v→p v2):∀ {xs l:List Value},m7 σ m xs=some l→(∀ v∈xs,p v)→(l.length=xs.length∧∀ v∈l,p v)
 | [],l,h,_=>by
  have:l=[]:=by simp [m7] at h; exact h
  subst this;exact ⟨rfl,fun v hv=>by simp at hv⟩
 | x::xs,l,h,hx=>by
  obtain ⟨y,ys,rfl,e1,e2⟩:=Fb h;obtain ⟨h1,J⟩:=FH hp e2 (fun v hv=>hx v (by simp [hv]))
  refine ⟨by simp [h1],fun v hv=>?_⟩
  rcases List.mem_cons.1 hv with e | e
  ·rw [e]; exact hp x y e1 (hx x (by simp))
  ·exact J v e
def zD (a:Nat→Value) (σ aa:List Nat):Nat→List Value→(List Value→Prop)→Prop
 | _,[],k=>k []
 | i,v::l,k=>match IG i aa with
  | true=>zw (gN σ 3 v) fun v'=>zD a σ aa (i+1) l fun l'=>k (v'::l')
  | false=>zD a σ aa (i+1) l fun l'=>k (a i::l')
theorem Fc {a:Nat→Value} {σ aa:List Nat}:∀ {t:List Value} {i:Nat} {k:List Value→Prop},zD a σ aa i t k→∀ (ν:Nu) r,bg ν t r→(∀ (j:Nat) (y:Value),r[j]?=some y→∀ ak:Nu,au ak (a (i+j)) y)→∃ t',k t'∧bg (ν.comp σ) t' r
 | [],i,k,h,ν,r,hr,ha=>⟨[],h,by rw [hr.iL]; exact .nil _⟩
 | v::l,i,k,h,ν,r,hr,ha=>by
  obtain ⟨y,ys,rfl,h1,J⟩:=hr.jd;obtain ⟨hx,ha⟩:=MB ha;unfold zD at h
  split at h
  ·obtain ⟨v',e,h⟩:=E9 h;obtain ⟨l',h3,h4⟩:=Fc h ν ys J ha;exact ⟨_,h3,.cons (MC 3 _ _ _ e h1) h4⟩
  ·obtain ⟨l',h3,h4⟩:=Fc h ν ys J ha;exact ⟨_,h3,.cons (hx _) h4⟩
def Gi (σ:List Nat):List (List Value)→(List (List Value)→Prop)→Prop
 | [],k=>k []
 | r::l,k=>zw (m7 σ 3 r) fun r'=>Gi σ l fun l'=>k (r'::l')
theorem J8 {σ:List Nat}:∀ {l:List (List Value)} {k:List (List Value)→Prop},Gi σ l k→∃ l',k l'∧l'.length=l.length∧∀ (i:Nat) r',l'[i]?=some r'→∃ r,l[i]?=some r∧m7 σ 3 r=some r'
 | [],k,h=>⟨[],h,rfl,fun i r hr=>by simp at hr⟩
 | r::l,k,h=>by
  obtain ⟨r',e,h⟩:=E9 h;obtain ⟨l',h,h1,J⟩:=J8 h;refine ⟨_,h,by simp [h1],fun i q hq=>?_⟩
  cases i with
  | zero=>simp at hq; subst hq; exact ⟨r,rfl,e⟩
  | succ i=>simpa using J i q (by simpa using hq)
def Pn (σ:List Nat) (b:aj) (k:aj→Prop):Prop :=
 match b with
 | .flat o n e g=>k (.flat o n e g)
 | .aS o e rows=>Gi σ rows fun iQ=>k (.aS o e iQ)
 | .cc r=>k (.cc r)
theorem T7 {σ:List Nat} {b:aj} {k:aj→Prop} (h:Pn σ b k):∃ b',k b'∧b'.own=b.own∧∀ (ν:Nu) (l:Loc) (w:World),bN ν l b w→bN (ν.comp σ) l b' w:=by
 cases b with
 | flat o n e g =>
  exact ⟨_,h,rfl,fun ν l w hB=>hB.FG (hB.plain rfl)⟩
 | cc r=>exact ⟨_,h,rfl,fun ν l w hB=>hB.FG (fun r hr=>absurd hr (Nat.not_lt_zero r))⟩
 | aS o e rows =>
  obtain ⟨iQ,h,h1,J⟩:=J8 h;refine ⟨_,h,rfl,fun ν l w hB=>?_⟩
  have aZ:∀ r,r < iQ.length→∃ q,(aj.aS o e rows).row r=q∧m7 σ 3 q=some ((aj.aS o e iQ).row r)∧r < rows.length:=by
   intro r hr;obtain ⟨q,h3,h4⟩:=J r _ (List.getElem?_eq_getElem hr);refine ⟨q,by simp [aj.row,List.getD,h3],?_,by omega⟩
   simpa [aj.row,List.getD,List.getElem?_eq_getElem hr] using h4
  -- cell by cell, against the real cells of the row
  have real:∀ (xs:List Value) (P:Nat→Value→Prop),(∀ (j:Nat) v,xs[j]?=some v→∃ v',P j v'∧au ν v v')→∀ l,m7 σ 3 xs=some l→∀ (j:Nat) v,l[j]?=some v→∃ v',P j v'∧au (ν.comp σ) v v':=by
   intro xs
   induction xs with
   | nil =>
    intro P _ l hl j v hv;have:l=[]:=by simp [m7] at hl; exact hl
    rw [this] at hv; simp at hv
   | cons x xs ih =>
    intro P hP l hl j v hv;obtain ⟨y,ys,rfl,e1,e2⟩:=Fb hl;cases j with
    | zero =>
     simp at hv; subst hv;obtain ⟨v',h3,h4⟩:=hP 0 x rfl;exact ⟨v',h3,MC 3 _ _ _ e1 h4⟩
    | succ j =>
     exact ih (fun j=>P (j+1)) (fun j v hv=>hP (j+1) v (by simpa using hv)) ys e2 j v (by simpa using hv)
  refine ⟨hB.ah,fun r hr=>?_,fun r hr j v hv=>?_,fun h=>by simp [aj.iN] at h,fun r hr v hv=>?_,fun ho _=>?_,(fun r h=>nomatch h),hB.live⟩
  ·obtain ⟨q,h3,h4,h5⟩:=aZ r hr;have:=(FH (p:=fun _=>True) (fun _ _ _ _=>trivial) h4 (fun _ _=>trivial)).1
   rw [this,← h3]; exact hB.len r h5
  ·obtain ⟨q,h3,h4,h5⟩:=aZ r hr;exact real q (fun j v'=>w.cell? (l.at r j)=some v') (fun j v hv=>hB.cell r h5 j v (by rw [h3]; exact hv)) _ h4 j v hv
  ·obtain ⟨q,h3,h4,h5⟩:=aZ r hr;exact (FH (p:=fun v=>v.oneCell'=true) (fun _ _ h h'=>Va h h') h4 (fun v hv=>hB.one r h5 v (by rw [h3]; exact hv))).2 v hv
  ·obtain ⟨cur,t,q1,q2,q3⟩:=hB.own ho rfl;exact ⟨cur,t,q1,q2,by simp only [aj.n] at q3 ⊢; omega⟩
def uE (H:aA):Nat→(Option aj→Prop)→Prop:=fun id k=>match H,id with
 | [],_=>k none
 | b::_,0=>k b
 | _::H,n+1=>uE H n k
theorem KZ:∀ {H:aA} {id:Nat} {k:Option aj→Prop},uE H id k→∃ b,k b∧∀ c,b=some c→H[id]?=some (some c)
 | [],_,k,h=>by
  have h:k none:=by unfold uE at h; exact h
  exact ⟨none,h,fun c hc=>by cases hc⟩
 | b::_,0,k,h=>by
  have h:k b:=by unfold uE at h; exact h
  exact ⟨b,h,fun c hc=>by rw [hc]; rfl⟩
 | _::H,n+1,k,h=>by
  have h:uE H n k:=by unfold uE at h; exact h
  obtain ⟨b,h1,J⟩:=KZ h;exact ⟨b,h1,fun c hc=>by simpa using J c hc⟩
def C2 (σ:List Nat) (H:aA):List Nat→(aA→Prop)→Prop
 | [],k=>k []
 | s::l,k=>uE H s fun b=>match b with
  | none=>C2 σ H l fun H'=>k (none::H')
  | some b=>Pn σ b fun b'=>C2 σ H l fun H'=>k (some b'::H')
theorem Fe {σ:List Nat} {H:aA}:∀ {l:List Nat} {k:aA→Prop},C2 σ H l k→∃ H',k H'∧H'.length=l.length∧∀ (j:Nat) b',H'[j]?=some (some b')→∃ s b,l[j]?=some s∧H[s]?=some (some b)∧b'.own=b.own ∧
  ∀ (ν:Nu) (lc:Loc) (w:World),bN ν lc b w→bN (ν.comp σ) lc b' w
 | [],k,h=>⟨[],h,rfl,fun j b hj=>by simp at hj⟩
 | s::l,k,h=>by
  obtain ⟨b,h,hb⟩:=KZ h;cases b with
  | none =>
   obtain ⟨H',h1,J,h3⟩:=Fe (l:=l) h;refine ⟨_,h1,by simp [J],fun j b' hj=>?_⟩
   cases j with
   | zero=>simp at hj
   | succ j=>simpa using h3 j b' (by simpa using hj)
  | some b =>
   obtain ⟨b1,h,ho,hr⟩:=T7 h;obtain ⟨H',h1,J,h3⟩:=Fe (l:=l) h;refine ⟨_,h1,by simp [J],fun j b' hj=>?_⟩
   cases j with
   | zero=>simp at hj; subst hj; exact ⟨s,b,rfl,hb b rfl,ho,hr⟩
   | succ j=>simpa using h3 j b' (by simpa using hj)
def CE (a:Nat):List Nat→Bool
 | []=>true
 | b::l=>match Nat.beq a b with
  | true=>false
  | false=>CE a l
theorem K0 {a:Nat}:∀ {l:List Nat},CE a l=true→a ∉ l
 | [],_=>by simp
 | b::l,h=>by
  unfold CE at h
  split at h
  ·cases h
  ·rename_i e;rw [List.mem_cons,not_or];exact ⟨Nat.ne_of_beq_eq_false e,K0 h⟩
def C3:List Nat→Bool
 | []=>true
 | a::l=>match CE a l with
  | true=>C3 l
  | false=>false
theorem LH:∀ {l:List Nat},C3 l=true→l.Nodup
 | [],_=>by simp
 | a::l,h=>by
  unfold C3 at h
  split at h
  ·rename_i e; exact List.nodup_cons.2 ⟨K0 e,LH h⟩
  ·cases h
def preB (base:Nat):Nat→List Nat→Bool
 | k,[]=>Nat.ble base k
 | k,a::l=>match Nat.ble base k with
  | true=>true
  | false=>match Nat.beq a k with
   | true=>preB base (k+1) l
   | false=>false
theorem LI {base:Nat}:∀ {l:List Nat} {k:Nat},preB base k l=true→∀ j,k+j < base→l[j]?=some (k+j)
 | [],k,h,j,hj=>by
  have:=Nat.le_of_ble_eq_true h;omega
 | a::l,k,h,j,hj=>by
  unfold preB at h
  split at h
  ·rename_i e; have:=Nat.le_of_ble_eq_true e; omega
  ·split at h
   ·rename_i e;have e:=Nat.eq_of_beq_eq_true e;cases j with
    | zero=>simp [e]
    | succ j =>
     have:=LI h j (by omega)
     rw [List.getElem?_cons_succ,this]; congr 1; omega
   ·cases h
def GO (base:Nat) (σ:List Nat):Bool:=match preB base 0 σ with
 | true=>C3 σ
 | false=>false
theorem R9 {base:Nat} {σ:List Nat} (h:GO base σ=true):(∀ j,j < base→σ[j]?=some j)∧σ.Nodup:=by
 unfold GO at h
 split at h
 ·rename_i e;exact ⟨fun j hj=>by have:=LI e j (by omega); simpa using this,LH h⟩
 ·cases h
def HS (E:Env) (σ aa:List Nat) (t:List Value) (H:aA) (k:SK):Prop :=
 match GO E.base σ with
 | true=>∀ a:Nat→Value,zD a σ aa 0 t fun t'=>C2 σ H σ fun H'=>k t' H'
 | false=>False
theorem T8 {E:Env} {F:Fr} (bM:kL F E) {σ aa:List Nat} {ν:Nu} {t:List Value} {H:aA} {a:Act} {w:World} {k:SK} (hi:bw F ν t H a w) (h:HS E σ aa t H k) :
  ∃ t' H',k t' H'∧bw F (ν.comp σ) t' H' a w:=by
 unfold HS at h
 split at h
 ·rename_i hb;obtain ⟨z5,dF⟩:=R9 hb;obtain ⟨af,IM⟩:=Nm hi.tm;obtain ⟨t',h,ht⟩:=Fc (h af) ν _ hi.tm (fun j y hy ak=>by rw [Nat.zero_add]; exact IM j y hy ak)
  obtain ⟨H',h,kf,hH⟩:=Fe h;have mV:∀ (j s:Nat),σ[j]?=some s→(ν.comp σ) j=ν s:=fun j s hj=>by simp [Nu.comp,hj]
  refine ⟨t',H',h,⟨ht,hi.df,⟨fun j b' hj=>?_,fun i j bi bj li lj aR gh aI ho e1 e2=>?_⟩,fun j hj=>?_,hi.kp,fun j b' l hj ho hl=>?_,fun id l bm=>?_⟩⟩
  ·obtain ⟨s,b,h1,J,h3,h4⟩:=hH j b' hj;obtain ⟨l,h5,h6⟩:=hi.hp.aJ s b J;exact ⟨l,by rw [mV j s h1]; exact h5,h4 ν l w h6⟩
  ·obtain ⟨s,b,h1,J,h3,h4⟩:=hH i bi aR;obtain ⟨s',b',fc,jO,sY,qT⟩:=hH j bj gh;rw [mV i s h1] at e1;rw [mV j s' fc] at e2;refine hi.hp.sep s s' b b' li lj J jO (fun e=>aI ?_) (by rw [← h3]; exact ho) e1 e2
   subst e;exact (List.getElem?_inj (List.getElem?_eq_some_iff.1 h1).1 dF).1 (h1.trans fc.symm)
  ·rw [kf] at hj;simp [Nu.comp,List.getElem?_eq_none hj]
  ·obtain ⟨s,b,h1,J,h3,h4⟩:=hH j b' hj;rw [mV j s h1] at hl;exact hi.own s b l J (by rw [← h3]; exact ho) hl
  ·have al:id < F.n0:=by
    rcases Nat.lt_or_ge id F.n0 with h | h
    ·exact h
    ·rw [F.fresh id h] at bm; cases bm
   rw [mV id id (z5 id (by have:=bM.n0; omega))]
   exact hi.mono id l bm
 ·exact h.elim
def HT (E:Env) (t:List Value) (H:aA) (k:SK):Prop:=k t H∨∃ σ aa,HS E σ aa t H k
theorem LJ {E:Env} {F:Fr} (bM:kL F E) {ν:Nu} {t:List Value} {H:aA} {a:Act} {w:World} {k:SK} (hi:bw F ν t H a w) (h:HT E t H k) :
  ∃ ak t' H',k t' H'∧bw F ak t' H' a w:=by
 rcases h with h | ⟨σ,aa,h⟩
 ·exact ⟨ν,t,H,h,hi⟩
 ·obtain ⟨t',H',h1,J⟩:=T8 bM hi h;exact ⟨_,t',H',h1,J⟩
inductive bB:List (Option Value)→List Value→Prop
 | nil:bB [] []
 | aa {v:Value} {ps:List (Option Value)} {vs:List Value} (h:bB ps vs):bB (some v::ps) (v::vs)
 | skip {v:Value} {ps:List (Option Value)} {vs:List Value} (h:bB ps vs):bB (none::ps) (v::vs)
def qf (a:Nat→Value):Nat→List (Option Value)→List Value
 | _,[]=>[]
 | i,some v::ps=>v::qf a (i+1) ps
 | i,none::ps=>a i::qf a (i+1) ps
def aG (n:Nat) (ps:List (Option Value)):List (Option Value):=match n with
 | 0=>ps
 | n+1=>none::aG n ps
def zs (a:Nat→Value) (i n:Nat) (l:List Value):List Value:=match n with
 | 0=>l
 | n+1=>a i::zs a (i+1) n l
theorem bB.sk:∀ (n:Nat) {ps:List (Option Value)} {vs:List Value},bB ps (vs.drop n)→Nat.ble n vs.length=true→bB (aG n ps) vs
 | 0,_,_,h,_=>h
 | n+1,_,[],_,h=>by simp at h
 | n+1,_,v::vs,h,hn=>.skip (bB.sk n (vs:=vs) h (by simpa using hn))
theorem bI {ps:List (Option Value)} {vs:List Value} (h:bB ps vs):∃ a:Nat→Value,vs=qf a 0 ps:=by
 have key:∀ (ps:List (Option Value)) (vs:List Value),bB ps vs→∀ i,∃ a:Nat→Value,vs=qf a i ps:=by
  intro ps vs h
  induction h with
  | nil=>exact fun i=>⟨fun _=>undef,rfl⟩
  | aa h ih=>
   intro i;obtain ⟨a,ha⟩:=ih (i+1);exact ⟨a,by rw [ha]; rfl⟩
  | @skip v ps vs h ih =>
   intro i;obtain ⟨a,ha⟩:=ih (i+1);refine ⟨fun j=>if j=i then v else a j,?_⟩
   have e:∀ (ps:List (Option Value)) (k:Nat),i < k→qf (fun j=>if j=i then v else a j) k ps=qf a k ps:=by
    intro ps
    induction ps with
    | nil=>intros; rfl
    | cons p ps ih =>
     intro k hk;cases p with
     | none=>simp only [qf,ih (k+1) (by omega),if_neg (show k≠i by omega)]
     | some p=>simp only [qf,ih (k+1) (by omega)]
   simp only [qf,e ps (i+1) (by omega),ha,if_true]
 exact key ps vs h 0
open Go Go.RowKit
def OK (E:Env) (o:Oper) (tmps:List Value) (H:aA) (k:SK) (q:Prop):Prop :=
 match o.op with
 | .store t x y=>Cl E tmps H t x y fun t' H'=>dm t' o.dst undef fun vi=>k vi H'
 | .call c=>match c.callee with
  | .builtin .append=>match c.args.toList,c.argTypes.toList with
   | [x,y],[t,t']=>match Nat.beq t t' with
    | true=>Nn E tmps H t x y fun v t1 H1=>dm t1 o.dst v fun t2=>k t2 H1
    | false=>q
   | _,_=>False
  | .builtin .clear=>match c.args.toList,c.argTypes.toList with
   | [x],[t]=>N8 E tmps H t x fun H1=>dm tmps o.dst (.tuple #[]) fun t2=>k t2 H1
   | _,_=>False
  | .builtin .copy=>match c.args.toList,c.argTypes.toList with
   | [x,y],[t,_]=>bU tmps x fun xv=>bU tmps y fun yv=>Gg E H t xv yv fun v H1=>dm tmps o.dst v fun t2=>k t2 H1
   | _,_=>False
  | .value f=>bU tmps f fun fv=>match fv with
   | .func (.func g) a b=>match E.Ψ g with
    | some G=>pX tmps c.args.toList fun vs=>qA a.toList vs fun l=>qA l b.toList fun args=>G args H fun v H'=>dm tmps o.dst v fun t'=>k t' H'
    | none=>q
   | .func (.yield l) a b=>match a.toList,b.toList,E.ys with
    | [],[],(l',G)::_=>l'=l∧pX tmps c.args.toList fun vs=>G vs H fun v H'=>dm tmps o.dst v fun t'=>k t' H'
    | _,_,_=>False
   | _=>False
  | _=>q
 | _=>q
def zc (E:Env) (o:Oper) (tmps:List Value) (H:aA) (k:SK):Prop :=
 OK E o tmps H k (jm H fun aK=>kK E o.op tmps H aK fun v nb=>dm tmps o.dst v fun t'=>uV H nb fun H'=>k t' H')
def xh (E:Env) (ops:List Oper) (o:Oper) (tmps:List Value) (H:aA) (k:SK):Prop :=
 match o.guard with
 | none=>zc E o tmps H k
 | some (j,want)=>match (ops[j]?).bind (·.dst) with
  | some d=>qz tmps d fun v=>match v with
   | .bool b=>match want with
    | true=>br b (zc E o tmps H k) (dm tmps o.dst undef fun t'=>k t' H)
    | false=>br b (dm tmps o.dst undef fun t'=>k t' H) (zc E o tmps H k)
   | .tuple _=>dm tmps o.dst undef fun t'=>k t' H
   | _=>False
  | none=>False
def m8 (E:Env) (ops:List Oper):List Oper→List Value→aA→SK→Prop
 | [],t,H,k=>k t H
 | [o],t,H,k=>xh E ops o t H k
 | o::p::l,t,H,k=>xh E ops o t H fun t' H'=>m8 E ops (p::l) t' H' k
theorem LK {E:Env} {ops l:List Oper} {o:Oper} {t:List Value} {H:aA} {k:SK} (h:m8 E ops (o::l) t H k):xh E ops o t H fun t' H'=>m8 E ops l t' H' k:=by
 cases l with
 | nil=>exact h
 | cons p l=>exact h
section
variable {P:Program} {E:Env} {r:Option Nat} {n:Nat} {F:Fr}
def uk (ν:Nu) (H:aA) (x:Nat):Prop:=∃ id c l,H[id]?=some (some c)∧c.own=true∧ν id=some l∧x=l.aJ
theorem bw.called {ν ak:Nu} {tmps:List Value} {H H':aA} {a:Act} {w w':World} (hi:bw F ν tmps H a w) (hle:ν.le ak) (z6:bQ ak H' w') (zE:∀ id,H'.length≤id→ak id=none)
  (sZ:Kept (uk ν H) w w') (j8:∀ id b l,H'[id]?=some (some b)→b.own=true→ak id=some l→uk ν H l.aJ∨w.heap.size≤l.aJ):bw F ak tmps H' a w':=by
 have hO:∀ x,uk ν H x→F.O x∨F.W.heap.size≤x:=by
  rintro x ⟨id,c,l,h1,J,h3,rfl⟩
  exact hi.own id c l h1 J h3
 refine ⟨hi.tm.mono hle,Bh hi.df fun D hD=>?_,z6,zE,hi.kp.then sZ hO,fun id b l h5 h6 h7=>(j8 id b l h5 h6 h7).elim (hO _) (fun h=>.inr (Nat.le_trans hi.kp.size h)),Nu.le_trans hi.mono hle⟩
 refine (sZ.aJ D (Array.getElem?_eq_some_iff.1 hD).1 ?_).trans hD
 rintro ⟨id,c,l,h1,J,h3,rfl⟩
 obtain ⟨l',h4,hB⟩:=hi.hp.aJ id c h1;rw [h3] at h4; cases h4;cases hr:c.rc with
 | none =>
  obtain ⟨cur,t,h5,_⟩:=hB.own J hr;rw [h5] at hD; cases hD
 | some r =>
  have:=hB.lr r hr;rw [this] at hD; cases hD
theorem K1 (hE:jJ P E) (bM:kL F E) {o:Oper} {ν:Nu} {tmps:List Value} {H:aA} {a:Act} {w:World} (hi:bw F ν tmps H a w) {k:SK}
  (h:zc E o tmps H k) {next:Act→World→Prop} {Q:Exit→Act→World→Prop}
  (hk:∀ ν t' H' a' w',bw F ν t' H' a' w'→k t' H'→next a' w'):o.wpIn (WF r) n P a w next Q:=by
 have quiet:(jm H fun aK=>kK E o.op tmps H aK fun v nb=>dm tmps o.dst v fun t'=>uV H nb fun H'=>k t' H')→o.wpIn (WF r) n P a w next Q:=by
  intro h;have h:=lU h;obtain ⟨v,nb,qU,hq⟩:=Bg (P:=P) hE.toEnvOk h;refine hq o ν a w r n rfl (fun x _=>hi.l8 x) hi.hp (hi.fr _ (Nat.le_refl _)) next Q (fun v' w' ak hp=>?_)
  have r4:∀ (k':aA→Prop),uV H nb k'→∃ H',k' H'∧bw F ak tmps H' a w':=fun k' IF=>hi.quiet hp IF
  -- first the new block, then the slot
  cases hd:o.dst with
  | none =>
   rw [hd] at qU;obtain ⟨H',h1,J⟩:=r4 _ qU;exact hk _ _ _ _ _ J h1
  | some d =>
   rw [hd] at qU;obtain ⟨h1,J⟩:=oz qU;obtain ⟨H',h3,h4⟩:=r4 _ J;refine hk ak (tmps.set d v) H' _ w' ⟨?_,h4.df,h4.hp,h4.fr,h4.kp,h4.own,h4.mono⟩ h3;rw [rJ];exact h4.tm.set hp.val d
 unfold zc OK at h
 split at h
 ·rename_i t x y ho;exact R6 hE.toEnvOk ho hi h hk
 ·rename_i c ho
  split at h
  ·rename_i hc
   split at h
   ·rename_i x y t t' hx ht
    split at h
    ·rename_i hb;have hb:t=t':=Nat.eq_of_beq_eq_true hb;subst hb;obtain ⟨v,v',ak,t1,H1,w1,h,hv,aR,bE⟩:=RF hE.toEnvOk bM hi h o.type;obtain ⟨t2,h,gW⟩:=aR.dst hv h;have hx:c.args=#[x,y]:=Array.ext' hx;have ht:c.argTypes=#[t,t]:=Array.ext' ht;exact jy (by simp [ho]) (by simp [execOp,ho,resolve,hc,hx,ht,invoke,builtin,bE]) next Q (hk _ _ _ _ _ gW h)
    ·exact quiet h
   ·exact h.elim
  ·rename_i hc
   split at h
   ·rename_i x t hx ht;obtain ⟨H1,w1,h,aR,bE⟩:=R8 hE.toEnvOk hi h o.type;obtain ⟨t2,h,gW⟩:=aR.dst (.tuple [] [] rfl (fun i x y hx _=>by simp at hx)) h
    have hx:c.args=#[x]:=Array.ext' hx;have ht:c.argTypes=#[t]:=Array.ext' ht;exact jy (by simp [ho]) (by simp [execOp,ho,resolve,hc,hx,ht,invoke,builtin,bE]) next Q (hk _ _ _ _ _ gW h)
   ·exact h.elim
  ·rename_i hc
   split at h
   ·rename_i x y t t2 hx ht;obtain ⟨xv,J,mw⟩:=kq h (hi.l8 x);clear h;obtain ⟨yv,h,my⟩:=kq J (hi.l8 y);obtain ⟨v,H1,w1,h,hv,aR,bE⟩:=KY hE.toEnvOk hi mw my h t2 o.type;obtain ⟨t2,h,gW⟩:=aR.dst hv h;have hx:c.args=#[x,y]:=Array.ext' hx;have ht:c.argTypes=#[t,_]:=Array.ext' ht;exact jy (by simp [ho]) (by simp [execOp,ho,resolve,hc,hx,ht,invoke,builtin,bE]) next Q (hk _ _ _ _ _ gW h)
   ·exact h.elim
  ·rename_i f hc;have h0:=h;obtain ⟨fv,J,hf⟩:=kq h (hi.l8 f);clear h
   split at J
   ·rename_i g xa ya
    split at J
    ·rename_i G hG;obtain ⟨vs,h,fm⟩:=Ev J (fun z _=>hi.l8 z)
     clear J;have J:=v8 (v8 h);clear h;have bf:=hE.ft g G hG;obtain ⟨ys,c9,jM,h3,h4⟩:=hf.rN;have nL:=(h3.append fm).append h4;refine ⟨fun _ _=>trivial,?_⟩
     have bE:(execOp a.eval o).run P w=.ok (.enter g ⟨(ys++c.args.toList.map a.eval)++c9⟩) w:=by
      simp only [execOp,ho,resolve,hc,jM,Deferred.ofValue,Sem.run_bind,Sem.run_pure,Result.andThen_ok,invoke,bf.enters]
      congr 2
      apply Array.ext';simp
     rw [Oper.semAt_eq _ _ _ (by simp [ho]),bE]
     refine ⟨fun h=>by simp [WF,Fence.wide] at h,?_⟩
     have y6:=bf.calls _ H _ J ν _ w (n - 1) (uk ν H) nL hi.hp hi.fr (fun id b l h5 h6 h7=>⟨id,b,l,h5,h6,h7,rfl⟩)
     have yI:CallsIn (WF r) (n - 1) P g ⟨(ys++c.args.toList.map a.eval)++c9⟩ w _:=y6;refine yI.mono ?_
     rintro e w' ⟨v,v',ak,H',rfl,h,hv,hle,z6,zE,sZ,j8⟩
     have aR:bw F ak tmps H' a w':=hi.called hle z6 zE sZ j8;obtain ⟨t',h,gW⟩:=aR.dst hv h;exact hk _ _ _ _ _ gW h
    ·exact quiet J
   ·rename_i l xa ya
    split at J
    ·rename_i l' G rest vl z7 Dz;obtain ⟨rfl,J⟩:=J;obtain ⟨vs,J,fm⟩:=Ev J (fun z _=>hi.l8 z)
     obtain ⟨ys,c9,jM,h3,h4⟩:=hf.rN;rw [vl] at h3; rw [z7] at h4;have e1:=h3.iL;have e2:=h4.iL;subst e1; subst e2;obtain ⟨fn,tm,Qf,body,hy,ZA⟩:=hE.ys l' G rest Dz _ H _ J ν _ w (n - 1) (uk ν H) (Nu.le_trans bM.nu hi.mono) fm hi.hp hi.fr (fun id b l h5 h6 h7=>⟨id,b,l,h5,h6,h7,rfl⟩)
     refine ⟨fun _ _=>trivial,?_⟩
     have bE:(execOp a.eval o).run P w=.ok (.round l' fn tm Qf body) w:=by
      simp only [execOp,ho,resolve,hc,jM,Deferred.ofValue,Sem.run_bind,Sem.run_pure,Result.andThen_ok,invoke];have e:(⟨List.map a.eval c.args.toList⟩:Array Value)=Array.map a.eval c.args:=Array.ext' (by simp)
      rw [e] at hy
      simpa using hy
     rw [Oper.semAt_eq _ _ _ (by simp [ho]),bE]
     refine ⟨fun h=>by simp [WF,Fence.wide] at h,?_⟩
     have WH:RoundIn (WF r) (n - 1) P l' fn tm Qf body w _:=ZA;refine WH.mono ?_
     rintro e w' ⟨v,v',ak,H',rfl,h,hv,hle,z6,zE,sZ,j8⟩
     have aR:bw F ak tmps H' a w':=hi.called hle z6 zE sZ j8;obtain ⟨t',h,gW⟩:=aR.dst hv h;exact hk _ _ _ _ _ gW h
    ·exact J.elim
   ·exact J.elim
  ·exact quiet h
 ·exact quiet h
theorem yf {ops:Array Oper} {tmps:Array Value} {j:Nat} {d:Tmp} (hd:(ops[j]?).bind (·.dst)=some d):yielded ops tmps j=match tmps[d]? with | some (.bool b)=>some b | _=>none:=by
 unfold yielded;rw [hd]
 rfl
theorem EN (hE:jJ P E) (bM:kL F E) {ops:Array Oper} {o:Oper} {ν:Nu} {tmps:List Value} {H:aA} {a:Act} {w:World} (hi:bw F ν tmps H a w) {k:SK}
  (h:xh E ops.toList o tmps H k) {next:Act→World→Prop} {Q:Exit→Act→World→Prop}
  (hk:∀ ν t' H' a' w',bw F ν t' H' a' w'→k t' H'→next a' w') :
  if Region.wanted o (yielded ops a.tmps) then o.wpIn (WF r) n P a w next Q else (∀ f,o.about P w a.eval=some f→(WF r).fn f)∧next (a.put o.dst undef) w:=by
 unfold xh at h;have skip:(dm tmps o.dst undef fun t'=>k t' H)→(∀ f,o.about P w a.eval=some f→(WF r).fn f)∧next (a.put o.dst undef) w:=fun h=>by
  obtain ⟨t',h1,J⟩:=hi.dst (.undef ν) h;exact ⟨fun _ _=>trivial,hk _ _ _ _ _ J h1⟩
 split at h
 ·rename_i hg;have:Region.wanted o (yielded ops a.tmps)=true:=by simp [Region.wanted,hg]
  rw [if_pos this];exact K1 hE bM hi h hk
 ·rename_i j want hg
  split at h
  ·rename_i d hd;have cV:(ops[j]?).bind (·.dst)=some d:=by simpa using hd
   obtain ⟨v,hv,h⟩:=ox h;obtain ⟨v',n6,hr⟩:=hi.tm.get hv;have adx:a.tmps[d]?=some v':=by simpa using n6
   have hy:=yf (tmps:=a.tmps) cV;rw [adx] at hy
   split at h
   ·rename_i b;have:=hr.jV;subst this;have hw:Region.wanted o (yielded ops a.tmps)=(b == want):=by
     simp only [Region.wanted,hg,hy];cases b <;> cases want <;> rfl
    rw [hw];cases want <;> cases b <;> first | exact K1 hE bM hi h hk | exact skip h
   ·rename_i vs;obtain ⟨ys,rfl,_⟩:=au.nC (xs:=vs.toList) hr;have hw:Region.wanted o (yielded ops a.tmps)=false:=by
     simp only [Region.wanted,hg,hy]
     rfl
    rw [hw];simp only [Bool.false_eq_true,if_false];exact skip h
   ·exact h.elim
  ·exact h.elim
theorem LM (hE:jJ P E) (bM:kL F E) {ops:Array Oper} {Q:Exit→Act→World→Prop}:∀ {l:List Oper} {idx:List Nat} {ν:Nu} {tmps:List Value} {H:aA} {a:Act} {w:World} {k:SK},
  idx.map (ops[·]?)=l.map some→bw F ν tmps H a w→m8 E ops.toList l tmps H k→(∀ ν t' H' a' w',bw F ν t' H' a' w'→k t' H'→Q .normal a' w')→wpOpsIn (WF r) n P ops Q idx a w
 | [],idx,ν,tmps,H,a,w,k,he,hi,h,hk=>by
  have:idx=[]:=by cases idx with
   | nil=>rfl
   | cons=>simp at he
  subst this;exact hk _ _ _ _ _ hi h
 | o::l,idx,ν,tmps,H,a,w,k,he,hi,h,hk=>by
  cases idx with
  | nil=>simp at he
  | cons i idx =>
   simp only [List.map_cons,List.cons.injEq] at he;simp only [wpOpsIn,he.1];exact EN hE bM hi (LK h) (fun ν t' H' a' w' aR h'=>LM hE bM he.2 aR h' hk)
theorem RG (hE:jJ P E) (bM:kL F E) {ops:Array Oper} {Q:Exit→Act→World→Prop} {id:Nat} {ν:Nu} {tmps:List Value} {H:aA} {a:Act} {w:World} {k:SK}
  (hi:bw F ν tmps H a w) (h:m8 E ops.toList ops.toList tmps H k) (hk:∀ ν t' H' a' w',bw F ν t' H' a' w'→k t' H'→Q .normal a' w'):(Code.region id ops false).wpIn (WF r) n P Q a w:=by
 refine wpIn_region (LM hE bM ?_ hi h hk);apply List.ext_getElem?;intro i;simp only [List.getElem?_map,List.getElem?_range,Array.getElem?_toList];by_cases al:i < ops.size
 ·simp [al]
 ·simp [al]
end
open Go Go.RowKit
abbrev XK:=Nat→List Value→aA→Prop
def BS (body:List Value→aA→SK→Prop):Nat→List Value→aA→Prop
 | 0,_,_=>False
 | m+1,t,H=>body t H (BS body m)
def Hj:List Value→List Nat→List Value→(List Value→Prop)→Prop
 | t,[],[],k=>k t
 | t,p::ps,x::xs,k=>xu t p x fun t'=>Hj t' ps xs k
 | _,_,_,_=>False
theorem K2:∀ {t:List Value} {ps:List Nat} {xs:List Value} {k:List Value→Prop},Hj t ps xs k→ps.length=xs.length∧∃ t1,k t1∧∀ (ν:Nu) (a:Array Value) (as:List Value),bg ν t a.toList→bg ν xs as→bg ν t1 ((ps.zip as).foldl (fun t (p,v)=>t.setIfInBounds p v) a).toList
 | t,[],[],k,h=>⟨rfl,t,h,fun ν a as ha hx=>ha⟩
 | t,p::ps,x::xs,k,h=>by
  obtain ⟨al,h⟩:=oz h;obtain ⟨h1,t1,J,h3⟩:=K2 h;refine ⟨by simp [h1],t1,J,fun ν a as ha hx=>?_⟩
  obtain ⟨y,ys,rfl,k1,k2⟩:=hx.jd;refine h3 ν (a.setIfInBounds p y) ys ?_ k2;rw [Array.toList_setIfInBounds];exact ha.set k1 p
 | _,[],_::_,_,h=>h.elim
 | _,_::_,[],_,h=>h.elim
def CF (H:aA) (id:Nat) (k:Loop→Prop):Prop :=
 gA H id fun b=>match b with
  | .cc r=>k r
  | _=>False
def CG (R:LoopState→Option Code→Loop) (γ:Nat) (jump:Option Code) (K:Value→aA→Prop) (H:aA):Prop :=
 CF H γ fun r=>r=R .busy none∧jl H γ (some (.cc (R (match jump with | none=>.ready | some _=>.done) jump))) fun H'=>K (.bool (match jump with | none=>true | some _=>false)) H'
def ZB (R:LoopState→Option Code→Loop) (γ:Nat) (t:List Value) (kn:SK) (kx:XK) (kr:SK) (H:aA):Prop :=
 CF H γ fun r=>jl H γ none fun H'=>match r.state,r.pending with
  | .busy,_=>False
  | _,none=>kn t H'
  | _,some (.exit i)=>kx i t H'
  | _,some .ret=>kr t H'
  | _,_=>False
def vc:Env→(Env→List Oper→List Value→aA→SK→Prop)→Code→List Value→aA→SK→XK→SK→Prop
 | _,_,.skip,t,H,kn,_,_=>kn t H
 | E,_,.region _ ops false,t,H,kn,_,_=>m8 E ops.toList ops.toList t H kn
 | E,D,.region _ ops true,t,H,kn,_,_=>D E ops.toList t H kn
 | E,D,.seq a b,t,H,kn,kx,kr=>vc E D a t H (fun t H=>vc E D b t H kn kx kr) kx kr
 | E,D,.cond c x y,t,H,kn,kx,kr=>bU t c fun v=>match v with
  | .bool b=>br b (vc E D x t H kn kx kr) (vc E D y t H kn kx kr)
  | _=>False
 | E,D,.block id c,t,H,kn,kx,kr=>vc E D c t H kn (fun i t H=>match Nat.beq i id with | true=>kn t H | false=>kx i t H) kr
 | _,_,.exit id,t,H,_,kx,_=>kx id t H
 | _,_,.ret,t,H,_,_,kr=>kr t H
 | E,D,.loop c,t,H,_,kx,kr =>
  (∃ I:Nat→List Value→aA→Prop,(HT E t H fun t H=>∃ n,I n t H)∧∀ n t H,I n t H→vc E D c t H (fun t H=>HT E t H fun t H=>∃ m,m < n∧I m t H) kx kr) ∨
  (∃ m,BS (fun t H k=>vc E D c t H k kx kr) m t H)
 | E,D,.rangeFunc g ps assign body,t,H,kn,kx,kr=>match E.rd with
  | true=>False
  | false=>bU t g fun gv=>match gv with
   | .func (.func f) a b=>match a.toList,E.It f with
    | [],some I=>∀ (l:Nat) (nu:Nu) (fn:FuncId) (tm:Array Value) (df:Nat),jm H fun γ=>oR H (some (.cc ⟨.ready,none,fn,tm,ps,assign,body,df⟩)) fun H1 =>
     I l (fun args H K=>CF H γ fun r=>r=⟨.ready,none,fn,tm,ps,assign,body,df⟩∧Hj t ps.toList args fun t1=>jm H fun n0 =>
       vc { E with base:=n0,rd:=true } D assign t1 H (fun t2 H2=>CF H2 γ fun r2=>r2=⟨.ready,none,fn,tm,ps,assign,body,df⟩∧jl H2 γ (some (.cc ⟨.busy,none,fn,tm,ps,assign,body,df⟩)) fun H3 =>
         vc { E with base:=n0,rd:=true } D body t2 H3 (fun _ H4=>CG (fun s p=>⟨s,p,fn,tm,ps,assign,body,df⟩) γ none K H4) (fun i _ H4=>CG (fun s p=>⟨s,p,fn,tm,ps,assign,body,df⟩) γ (some (.exit i)) K H4)
          (fun _ H4=>CG (fun s p=>⟨s,p,fn,tm,ps,assign,body,df⟩) γ (some .ret) K H4))
        (fun _ _ _=>False) (fun _ _=>False))
      nu (.func (.yield l) #[] #[]::b.toList) H1 fun _ H2=>ZB (fun s p=>⟨s,p,fn,tm,ps,assign,body,df⟩) γ t kn kx kr H2
    | _,_=>False
   | _=>False
 | _,_,_,_,_,_,_,_=>False
def wu (E:Env) (H:aA) (tmps:List Value):List ResultVar→(List Value→Prop)→Prop
 | [],k=>k []
 | .tmp t::l,k=>qz tmps t fun v=>wu E H tmps l fun vs=>k (v::vs)
 | .cell a t::l,k=>qz tmps a fun av=>match av with
  | .pointer (some ⟨id,row,sp⟩)=>cJ E.tt t fun ti=>gA H id fun b=>HG b row fun cs=>uy cs (sp.getD 0) ti.size fun us=>wu E H tmps l fun vs=>k (valOf ti.agg us::vs)
  | _=>False
def C4 (vs:List Value) (k:Value→Prop):Prop :=
 match vs with
 | [v]=>k v
 | vs=>k (.tuple ⟨vs⟩)
def wV:Value→Bool
 | .bool _ | .int _ _ | .string _ | .pointer none | .nilFunc=>true
 | .agg cs=>jA cs.toList
 | .func _ a b=>a.toList.isEmpty && b.toList.isEmpty
 | _=>false
def tL:List Value→Bool
 | []=>true
 | v::l=>wV v && tL l
def Cm:Value→Bool
 | .tuple vs=>tL vs.toList
 | .func _ a b=>tL a.toList && tL b.toList
 | v=>wV v
theorem bg.LN {ν:Nu}:∀ {l:List Value},jA l=true→bg ν l l
 | [],_=>.nil ν
 | v::l,h=>by
  simp only [jA,Bool.and_eq_true] at h;exact .cons (au.jT h.1) (bg.LN h.2)
theorem Ky {v:Value} (h:wV v=true):(∀ ν,au ν v v)∧∀ ν w,au ν v w→w=v:=by
 cases v with
 | bool b=>exact ⟨fun ν=>.bool b,fun ν w hw=>hw.jV⟩
 | int k n=>exact ⟨fun ν=>.int k n,fun ν w hw=>hw.fG⟩
 | string s=>exact ⟨fun ν=>.str s,fun ν w hw=>hw.rT⟩
 | pointer a =>
  cases a with
  | none=>exact ⟨fun ν=>.me,fun ν w hw=>by cases hw; rfl⟩
  | some a=>simp [wV] at h
 | nilFunc=>exact ⟨fun ν=>.mf,fun ν w hw=>by cases hw; rfl⟩
 | agg cs =>
  have h':jA cs.toList=true:=h;refine ⟨fun ν=>?_,fun ν w hw=>?_⟩
  ·have:=bg.LN (ν:=ν) h';exact .agg _ _ this.1 this.2
  ·obtain ⟨ys,rfl,hy⟩:=au.uh (xs:=cs.toList) hw;rw [bg.jU (x4 h') hy]
 | func fn a b =>
  simp only [wV,Bool.and_eq_true,List.isEmpty_iff] at h;refine ⟨fun ν=>?_,fun ν w hw=>?_⟩
  ·have e1:a=⟨[]⟩:=Array.ext' h.1;have e2:b=⟨[]⟩:=Array.ext' h.2;subst e1; subst e2;exact .func fn [] [] [] [] rfl (fun i x y hx _=>by simp at hx) rfl (fun i x y hx _=>by simp at hx)
  ·obtain ⟨ys,c9,rfl,h1,J⟩:=hw.rN;rw [h.1] at h1; rw [h.2] at J;rw [h1.iL,J.iL];rw [Array.ext' (xs:=a) (ys:=⟨[]⟩) h.1,Array.ext' (xs:=b) (ys:=⟨[]⟩) h.2]
 | _=>simp [wV] at h
theorem AI:∀ {l:List Value},tL l=true→(∀ ν,bg ν l l)∧∀ ν m,bg ν l m→m=l
 | [],_=>⟨fun ν=>.nil ν,fun ν m hm=>hm.iL⟩
 | v::l,h=>by
  simp only [tL,Bool.and_eq_true] at h;obtain ⟨h1,J⟩:=Ky h.1;obtain ⟨h3,h4⟩:=AI h.2;refine ⟨fun ν=>.cons (h1 ν) (h3 ν),fun ν m hm=>?_⟩
  obtain ⟨y,ys,rfl,k1,k2⟩:=hm.jd;rw [J ν y k1,h4 ν ys k2]
theorem AV {v:Value} (h:Cm v=true):(∀ ν,au ν v v)∧∀ ν w,au ν v w→w=v:=by
 cases v with
 | tuple vs =>
  have h':tL vs.toList=true:=h;obtain ⟨h1,J⟩:=AI h';refine ⟨fun ν=>.tuple _ _ (h1 ν).1 (h1 ν).2,fun ν w hw=>?_⟩
  obtain ⟨ys,rfl,hy⟩:=au.nC (xs:=vs.toList) hw;rw [J ν ys hy]
 | func fn a b =>
  simp only [Cm,Bool.and_eq_true] at h;obtain ⟨h1,J⟩:=AI h.1;obtain ⟨h3,h4⟩:=AI h.2;refine ⟨fun ν=>.func fn _ _ _ _ (h1 ν).1 (h1 ν).2 (h3 ν).1 (h3 ν).2,fun ν w hw=>?_⟩
  obtain ⟨ys,c9,rfl,k1,k2⟩:=hw.rN;rw [J ν ys k1,h4 ν c9 k2]
 | _=>exact Ky h
def Bi:List Value→Bool
 | []=>true
 | v::l=>Cm v && Bi l
theorem D7:∀ {l:List Value},Bi l=true→(∀ ν,bg ν l l)∧∀ ν m,bg ν l m→m=l
 | [],_=>⟨fun ν=>.nil ν,fun ν m hm=>hm.iL⟩
 | v::l,h=>by
  simp only [Bi,Bool.and_eq_true] at h;obtain ⟨h1,J⟩:=AV h.1;obtain ⟨h3,h4⟩:=D7 h.2;refine ⟨fun ν=>.cons (h1 ν) (h3 ν),fun ν m hm=>?_⟩
  obtain ⟨y,ys,rfl,k1,k2⟩:=hm.jd;rw [J ν y k1,h4 ν ys k2]
def nj (P:Program) (D:Env→List Oper→List Value→aA→SK→Prop):Prop :=
 ∀ (E:Env),jJ P E→∀ (r:Option Nat) (n:Nat) (F:Fr),kL F E→∀ (ops:Array Oper) (Q:Exit→Act→World→Prop) (id:Nat) (ν:Nu) (tmps:List Value) (H:aA) (a:Act) (w:World) (k:SK),
  bw F ν tmps H a w→D E ops.toList tmps H k→(∀ ν t' H' a' w',bw F ν t' H' a' w'→k t' H'→Q .normal a' w')→(Code.region id ops true).wpIn (WF r) n P Q a w
section
variable {P:Program} {E:Env} {r:Option Nat} {n:Nat} {F:Fr} {D:Env→List Oper→List Value→aA→SK→Prop}
theorem bw.No {F:Fr} {ν:Nu} {t:List Value} {H:aA} {a:Act} {w:World} (hi:bw F ν t H a w) {γ:Nat} {r:Loop} {l:Loc} (r':Loop) (hb:H[γ]?=some (some (.cc r))) (hl:ν γ=some l) :
  bw F ν t (H.set γ (some (.cc r'))) a (w.putObj l.aJ (.loop r')):=by
 have al:γ < H.length:=(List.getElem?_eq_some_iff.1 hb).1;obtain ⟨l',cC,hB⟩:=hi.hp.aJ γ _ hb;rw [hl] at cC; cases cC;have C5:=hB.lr r rfl;have hw:l.aJ < w.heap.size:=(Array.getElem?_eq_some_iff.1 C5).1;have c6:∀ (id:Nat) (b:aj),(H.set γ (some (.cc r')))[id]?=some (some b)→(id=γ∧b=.cc r')∨(id≠γ∧H[id]?=some (some b)):=fun id b h=>by
  by_cases e:id=γ
  ·subst e; rw [List.getElem?_set_self al] at h; cases h; exact .inl ⟨rfl,rfl⟩
  ·rw [List.getElem?_set_ne (Ne.symm e)] at h; exact .inr ⟨e,h⟩
 refine ⟨hi.tm,Bh hi.df fun D hD=>(World.putObj_heap_other (fun e=>by rw [e,C5] at hD; cases hD)).trans hD,⟨fun id b h=>?_,fun i j bi bj li lj h1 J aI ho e1 e2=>?_⟩,fun id bm=>hi.fr id (by simpa using bm),
  hi.kp.then (O':=fun x=>x=l.aJ) ⟨rfl,rfl,rfl,by simp,fun b h1 J=>World.putObj_heap_other J⟩ (fun b bA=>by subst bA; exact hi.own γ _ _ hb rfl hl),fun id b l' h ho cC=>?_,hi.mono⟩
 ·rcases c6 id b h with ⟨rfl,rfl⟩ | ⟨aI,h⟩
  ·exact ⟨l,hl,hB.ah,fun r hr=>absurd hr (Nat.not_lt_zero r),fun r hr=>absurd hr (Nat.not_lt_zero r),(fun h=>nomatch h),fun r hr=>absurd hr (Nat.not_lt_zero r),(fun _ h=>nomatch h),fun r hr=>by cases hr; exact World.putObj_heap_same hw,by simpa using hw⟩
  ·obtain ⟨l',cC,hB'⟩:=hi.hp.aJ id b h;exact ⟨l',cC,hB'.same (World.putObj_heap_other (Ne.symm (hi.hp.sep γ id _ b l l' hb h (Ne.symm aI) rfl hl cC))) (by simp)⟩
 ·rcases c6 i bi h1 with ⟨rfl,rfl⟩ | ⟨hni,g1⟩ <;> rcases c6 j bj J with ⟨rfl,rfl⟩ | ⟨hnj,g2⟩
  ·exact absurd rfl aI
  ·exact hi.hp.sep _ j _ bj li lj hb g2 aI rfl e1 e2
  ·exact hi.hp.sep i _ bi _ li lj g1 hb aI ho e1 e2
  ·exact hi.hp.sep i j bi bj li lj g1 g2 aI ho e1 e2
 ·rcases c6 id b h with ⟨rfl,rfl⟩ | ⟨aI,h⟩
  ·exact hi.own _ _ _ hb rfl cC
  ·exact hi.own id b l' h ho cC
theorem Vb (hD:nj P D):∀ (c:Code) {E:Env} {r:Option Nat} {n:Nat} {F:Fr},jJ P E→kL F E→(E.rd=false→r=none)→∀ {ν:Nu} {t:List Value} {H:aA} {a:Act} {w:World} {kn:SK} {kx:XK} {kr:SK} {Q:Exit→Act→World→Prop},
  bw F ν t H a w→vc E D c t H kn kx kr→(∀ ν t H a w,bw F ν t H a w→kn t H→Q .normal a w)→(∀ i ν t H a w,bw F ν t H a w→kx i t H→Q (.exit i) a w) →
  (∀ ν t H a w,bw F ν t H a w→kr t H→Q .ret a w)→c.wpIn (WF r) n P Q a w:=by
 intro c
 induction c with
 | skip=>exact fun hE bM fp=>fun hi h hn _ _=>wpIn_skip (hn _ _ _ _ _ hi h)
 | region id ops d =>
  intro E r n F hE bM fp ν t H a w kn kx kr Q hi h hn _ _;cases d with
  | false=>exact RG hE bM hi h hn
  | true=>exact hD E hE r n F bM ops Q id ν t H a w kn hi h hn
 | seq x y IQ IS =>
  intro E r n F hE bM fp ν t H a w kn kx kr Q hi h hn hx hr;exact wpIn_seq (IQ hE bM fp hi h (fun ν t H a w aR h'=>IS hE bM fp aR h' hn hx hr) hx hr)
 | cond c x y IQ IS =>
  intro E r n F hE bM fp ν t H a w kn kx kr Q hi h hn hx hr;obtain ⟨v,h,hv⟩:=kq h (hi.l8 c)
  split at h
  ·rename_i b;have hb:=hv.jV;exact wpIn_cond_split hb (fun e=>IQ hE bM fp hi (BP h e) hn hx hr) (fun e=>IS hE bM fp hi (Bw h e) hn hx hr)
  ·exact h.elim
 | block id c ih =>
  intro E r n F hE bM fp ν t H a w kn kx kr Q hi h hn hx hr;refine wpIn_block (ih hE bM fp hi h hn (fun i ν t H a w aR h'=>?_) hr)
  simp only [Exit.inBlock]
  split at h'
  ·rename_i e;rw [if_pos (Nat.eq_of_beq_eq_true e)]; exact hn _ _ _ _ _ aR h'
  ·rename_i e;rw [if_neg (Nat.ne_of_beq_eq_false e)]; exact hx _ _ _ _ _ _ aR h'
 | loop c ih =>
  intro E r n F hE bM fp ν t H a w kn kx kr Q hi h hn hx hr;rcases h with ⟨I,h00,uF⟩ | ⟨m,hm⟩
  ·-- by an invariant
   obtain ⟨ν,t,H,⟨m0,h0⟩,hi⟩:=LJ bM hi h00;have key:∀ (m:Nat) ν t H a w,bw F ν t H a w→I m t H→∀ (b:Frame) (k:List Item) (cs:List Frame),b.roundOf=(WF r).round→(WF r).fn b.fn→(WF r).room (cs.length+1+n) →
     ∃ e a' w',Q e a' w'∧ArrivesIn (Machine.fenced P (WF r)) P (lone (b.atR a (.code c::.inLoop c::k)) cs w) b k cs e a' w':=by
    intro m
    induction m using Nat.strongRecOn with
    | _ m IT =>
     intro ν t H a w hi hI b k cs nk hb cP;have:=ih hE bM fp (Q:=fun e a w=>match e with | .normal=>∃ m' ν t H,m' < m∧bw F ν t H a w∧I m' t H | e=>Q e a w) hi (uF m t H hI)
      (fun ν t H a w aR h'=>let ⟨qV,t2,H2,⟨m',al,z8⟩,gW⟩:=LJ bM aR h'; ⟨m',qV,t2,H2,al,gW,z8⟩) hx hr b (.inLoop c::k) cs nk hb cP
     obtain ⟨e,mj,ml,hq,jL⟩:=this;cases e with
     | normal =>
      obtain ⟨m',ak,t',H',al,aR,z8⟩:=hq;obtain ⟨HU,HV,HW,Hk,Gj⟩:=IT m' al ak t' H' mj ml aR z8 b k cs nk hb cP;exact ⟨HU,HV,HW,Hk,.of_steps (StepsIn.trans jL (.one (fenced_calm hb cP rfl) stepR_inLoop)) Gj⟩
     | exit id=>exact ⟨_,mj,ml,hq,.pass (x:=.inLoop c) rfl (fun _ _=>.inl (by simp)) jL⟩
     | goto l=>exact ⟨_,mj,ml,hq,.pass (x:=.inLoop c) rfl (fun _ _=>.inl (by simp)) jL⟩
     | ret=>exact ⟨_,mj,ml,hq,.pass (x:=.inLoop c) rfl (fun _ _=>.inl (by simp)) jL⟩
     | panic ch=>exact ⟨_,mj,ml,hq,.pass (x:=.inLoop c) rfl (fun _ _=>.inl (by simp)) jL⟩
     | outgrown=>exact ⟨_,mj,ml,hq,.pass (x:=.inLoop c) rfl (fun _ _=>.inl (by simp)) jL⟩
   intro b k cs nk hb cP;obtain ⟨e,a',w',hq,jL⟩:=key m0 ν t H a w hi h0 b k cs nk hb cP;exact ⟨e,a',w',hq,.of_steps (.one (fenced_calm hb cP rfl) stepR_loop) jL⟩
  ·-- round by round
   have key:∀ (m:Nat) ν t H a w,bw F ν t H a w→BS (fun t H k=>vc E D c t H k kx kr) m t H→∀ (b:Frame) (k:List Item) (cs:List Frame),b.roundOf=(WF r).round→(WF r).fn b.fn→(WF r).room (cs.length+1+n) →
     ∃ e a' w',Q e a' w'∧ArrivesIn (Machine.fenced P (WF r)) P (lone (b.atR a (.code c::.inLoop c::k)) cs w) b k cs e a' w':=by
    intro m
    induction m with
    | zero=>exact fun ν t H a w _ h=>h.elim
    | succ m IT =>
     intro ν t H a w hi hI b k cs nk hb cP;have:=ih hE bM fp (Q:=fun e a w=>match e with | .normal=>∃ ν t H,bw F ν t H a w∧BS (fun t H k=>vc E D c t H k kx kr) m t H | e=>Q e a w) hi hI
      (fun ν t H a w aR h'=>⟨ν,t,H,aR,h'⟩) hx hr b (.inLoop c::k) cs nk hb cP
     obtain ⟨e,mj,ml,hq,jL⟩:=this;cases e with
     | normal =>
      obtain ⟨ak,t',H',aR,z8⟩:=hq;obtain ⟨HU,HV,HW,Hk,Gj⟩:=IT ak t' H' mj ml aR z8 b k cs nk hb cP;exact ⟨HU,HV,HW,Hk,.of_steps (StepsIn.trans jL (.one (fenced_calm hb cP rfl) stepR_inLoop)) Gj⟩
     | exit id=>exact ⟨_,mj,ml,hq,.pass (x:=.inLoop c) rfl (fun _ _=>.inl (by simp)) jL⟩
     | goto l=>exact ⟨_,mj,ml,hq,.pass (x:=.inLoop c) rfl (fun _ _=>.inl (by simp)) jL⟩
     | ret=>exact ⟨_,mj,ml,hq,.pass (x:=.inLoop c) rfl (fun _ _=>.inl (by simp)) jL⟩
     | panic ch=>exact ⟨_,mj,ml,hq,.pass (x:=.inLoop c) rfl (fun _ _=>.inl (by simp)) jL⟩
     | outgrown=>exact ⟨_,mj,ml,hq,.pass (x:=.inLoop c) rfl (fun _ _=>.inl (by simp)) jL⟩
   intro b k cs nk hb cP;obtain ⟨e,a',w',hq,jL⟩:=key m ν t H a w hi hm b k cs nk hb cP;exact ⟨e,a',w',hq,.of_steps (.one (fenced_calm hb cP rfl) stepR_loop) jL⟩
 | exit id=>exact fun hE bM fp=>fun hi h _ hx _=>wpIn_exit (hx _ _ _ _ _ _ hi h)
 | ret=>exact fun hE bM fp=>fun hi h _ _ hr=>wpIn_ret (hr _ _ _ _ _ hi h)
 | rangeFunc g ps assign body iha ihb =>
  intro E r n F hE bM fp ν t H a w kn kx kr Q hi h hn hx hr;unfold vc at h
  split at h
  ·exact h.elim
  rename_i ady;obtain rfl:=fp ady;obtain ⟨gv,h,hg⟩:=kq h (hi.l8 g)
  split at h
  ·rename_i f xa ya
   split at h
   ·rename_i I vl hI;obtain ⟨zs,IU,dH,hz,oa⟩:=hg.rN;rw [vl] at hz;have o9:=hz.iL;subst o9;have Qg:=hE.IE f I hI;refine wpIn_rangeFunc ?_;intro fn hfn;obtain ⟨W1,z9⟩:∃ W1,W1=(w.alloc (.deferred (some []))).alloc (.loop { state:=.ready,pending:=none,fn,tmps:=a.tmps,params:=ps,assign,body,defers:=w.heap.size }):=⟨_,rfl⟩;refine ⟨w.heap.size+1,[{ target:=.collected w.heap.size,args:=#[] }],W1,{ target:=.fn (.func f) ⟨IU⟩,args:=#[.func (.yield (w.heap.size+1)) #[] #[]] },W1,f,
     #[.func (.yield (w.heap.size+1)) #[] #[]]++⟨IU⟩,W1,by rw [z9]; exact run_enterLoop_outer _ _ _ _ _,?_,fun _ _=>trivial,?_,fun h=>by simp [WF,Fence.wide] at h,?_⟩
    ·simp only [resolve,dH];simp [go_sem]
    ·simp [invoke,go_sem,Qg.enters]
    -- the record's block
    have mU:ν H.length=none:=hi.fr _ (Nat.le_refl _);obtain ⟨dQ,uW⟩:∃ dQ,dQ=ν.add H.length ⟨w.heap.size+1,0,0,0⟩:=⟨_,rfl⟩;have sG:ν.le dQ:=by rw [uW]; exact Nu.jX mU
    have h:=yc (lU (h (w.heap.size+1) dQ fn a.tmps w.heap.size));have HX:Below w.heap.size w W1:=by
     rw [z9]; exact ((Below.refl _ w).alloc (Nat.le_refl _) _).alloc (by simp) _
    have bc:W1.heap.size=w.heap.size+2:=by rw [z9]; simp
    have C5:W1.heap[w.heap.size+1]?=some (.loop { state:=.ready,pending:=none,fn,tmps:=a.tmps,params:=ps,assign,body,defers:=w.heap.size }):=by
     rw [z9]; have:=World.alloc_heap_new (w.alloc (.deferred (some []))) (.loop { state:=.ready,pending:=none,fn,tmps:=a.tmps,params:=ps,assign,body,defers:=w.heap.size }); rwa [World.size_alloc] at this
    have abW:W1.heap[w.heap.size]?=some (.deferred (some [])):=by
     rw [z9]; exact (Below.heap_alloc _ _ _ (by simp)).trans (World.alloc_heap_new w _)
    have kf:bQ dQ (H++[some (.cc { state:=.ready,pending:=none,fn,tmps:=a.tmps,params:=ps,assign,body,defers:=w.heap.size })]) W1:=by
     rw [uW];refine hi.hp.push (b:=.cc { state:=.ready,pending:=none,fn,tmps:=a.tmps,params:=ps,assign,body,defers:=w.heap.size }) HX mU _ (fun j c hj=>?_) (by simp) ⟨rfl,fun r hr=>absurd hr (Nat.not_lt_zero r),fun r hr=>absurd hr (Nat.not_lt_zero r),(fun h=>nomatch h),fun r hr=>absurd hr (Nat.not_lt_zero r),(fun _ h=>nomatch h),fun r hr=>by cases hr; exact C5,by rw [bc]; simp⟩
     rw [List.getElem?_append] at hj
     split at hj
     ·rename_i al;exact .inr ⟨by omega,hj⟩
     ·rename_i dH;have:j - H.length=0:=by
       rcases Nat.eq_zero_or_pos (j - H.length) with e | e
       ·exact e
       ·rw [List.getElem?_eq_none (by simp; omega)] at hj; cases hj
      rw [this] at hj;simp at hj;exact .inl ⟨by omega,hj.symm⟩
    have adz:∀ id,(H++[some (aj.cc { state:=.ready,pending:=none,fn,tmps:=a.tmps,params:=ps,assign,body,defers:=w.heap.size })]).length≤id→dQ id=none:=fun id bm=>by
     rw [List.length_append] at bm;rw [uW,Nu.iM (by simp at bm; omega)]
     exact hi.fr id (by simp at bm; omega)
    have nL:bg dQ (.func (.yield (w.heap.size+1)) #[] #[]::ya.toList) (#[Value.func (.yield (w.heap.size+1)) #[] #[]]++(⟨IU⟩:Array Value)).toList:=by
     simp only [Array.toList_append];exact .cons (.func _ [] [] [] [] rfl (fun i x y hx _=>by simp at hx) rfl (fun i x y hx _=>by simp at hx)) (oa.mono sG)
    have xP:dQ H.length=some ⟨w.heap.size+1,0,0,0⟩:=by rw [uW]; exact Nu.add_same
    refine (Qg.calls _ _ dQ ?_ _ _ _ h dQ _ W1 (n - 1) (uk dQ (H++[some (.cc { state:=.ready,pending:=none,fn,tmps:=a.tmps,params:=ps,assign,body,defers:=w.heap.size })])) (fun _ _ h=>h) nL kf adz (fun id b l h1 J h3=>⟨id,b,l,h1,J,h3,rfl⟩)).mono ?_
    ·intro xs Hy K hG vm as wy m O HY nm Qh C6 abX;obtain ⟨by0,adA,hG⟩:=gu hG
     split at hG
     ·rename_i ry;obtain ⟨rfl,hG⟩:=hG;obtain ⟨ly,IW,hBy⟩:=Qh.aJ _ _ adA;have Po:=HY _ _ xP;rw [IW] at Po; cases Po;have abY:=hBy.lr _ rfl;obtain ⟨hlen,t1,hG,ht1⟩:=K2 hG;have hG:=lU hG;have C7:(⟨as⟩:Array Value).size=ps.size:=by
       have:=nm.1;simp at this ⊢
       simpa [this] using hlen.symm
      refine ⟨fn,_,assign,body,run_yield abY C7,roundIn_of_wpIn trivial ?_⟩;have Qi:jJ P { E with base:=Hy.length,rd:=true }:=⟨⟨hE.ty,hE.eq,hE.fn,hE.ft⟩,hE.IE,hE.ys⟩
      have Qj:kL ⟨wy,O,vm,Hy.length,C6⟩ { E with base:=Hy.length,rd:=true }:=⟨Nat.le_refl _,Nu.le_trans bM.nu (Nu.le_trans hi.mono (Nu.le_trans sG HY))⟩
      have gW:bw ⟨wy,O,vm,Hy.length,C6⟩ vm t1 Hy { tmps:=(ps.zip ⟨as⟩).foldl (fun tmps (t,a)=>tmps.setIfInBounds t a) a.tmps,defers:=[] } wy:=by
       refine ⟨?_,Marks.nil _ _,Qh,C6,Kept.refl wy,fun id b l h1 J h3=>.inl (abX id b l h1 J h3),vm.le_refl⟩
       have:=ht1 vm a.tmps as (hi.tm.mono (Nu.le_trans sG HY)) nm;rw [← Array.foldl_toList]
       simpa using this
      refine iha (r:=some (w.heap.size+1)) Qi Qj (fun h=>by cases h) gW hG ?_ (fun _ _ _ _ _ _ _ h=>h.elim) (fun _ _ _ _ _ _ h=>h.elim)
      intro ν5 t5 H5 a5 w5 IX h5;obtain ⟨b5,Qk,h5⟩:=gu h5
      split at h5
      ·rename_i r5;obtain ⟨rfl,h5⟩:=h5;obtain ⟨aer,h5⟩:=lT h5;obtain ⟨l5,Ql,hB5⟩:=IX.hp.aJ _ _ Qk;have Pp:=IX.mono _ _ IW;rw [Ql] at Pp; cases Pp;have abZ:=hB5.lr _ rfl;refine ⟨_,run_beginRound abZ rfl,?_⟩;have hi6:=IX.No { state:=.busy,pending:=none,fn,tmps:=a.tmps,params:=ps,assign,body,defers:=w.heap.size } Qk Ql;have fin:∀ (jump:Option Code) IY t7 H7 a7 w7,bw ⟨wy,O,vm,Hy.length,C6⟩ IY t7 H7 a7 w7→CG (fun s p=>⟨s,p,fn,a.tmps,ps,assign,body,w.heap.size⟩) H.length jump K H7 →
         ∃ v w',(Instr.endRound (w.heap.size+1) jump).run P w7=.ok v w'∧GL K vm O wy (.returned v) w':=by
        intro jump IY t7 H7 a7 w7 IZ h7;obtain ⟨b7,Qm,h7⟩:=gu h7
        split at h7
        ·rename_i r7;obtain ⟨rfl,h7⟩:=h7;obtain ⟨aes,h7⟩:=lT h7;obtain ⟨l7,Qn,hB7⟩:=IZ.hp.aJ _ _ Qm;have Pq:=IZ.mono _ _ IW;rw [Qn] at Pq; cases Pq;have ab0:=hB7.lr _ rfl;have he:=run_endRound (P:=P) jump ab0;refine ⟨_,_,he,?_⟩;have Aa:=IZ.No { state:=if jump.isNone then .ready else .done,pending:=jump,fn,tmps:=a.tmps,params:=ps,assign,body,defers:=w.heap.size } Qm Qn
         refine ⟨.bool jump.isNone,_,IY,_,rfl,?_,.bool _,Aa.mono,Aa.hp,Aa.fr,Aa.kp,Aa.own⟩;cases jump <;> exact h7
        ·exact h7.elim
       refine ihb (r:=some (w.heap.size+1)) Qi Qj (fun h=>by cases h) hi6 h5 (fun ν t H a w hi h=>fin none _ _ _ _ _ hi h) (fun i ν t H a w hi h=>fin (some (.exit i)) _ _ _ _ _ hi h) (fun ν t H a w hi h=>fin (some .ret) _ _ _ _ _ hi h)
      ·exact h5.elim
     ·exact hG.elim
    ·rintro e w3 ⟨v,v',ν3,H3,rfl,h3,I0,HZ,DA,adB,Pr,ab1⟩
     obtain ⟨b3,s3,h3⟩:=gu h3
     split at h3
     ·rename_i r3;obtain ⟨adC,h3⟩:=lT h3;obtain ⟨l3,Qo,hB3⟩:=DA.aJ _ _ s3;have Ps:=HZ _ _ xP;rw [Qo] at Ps; cases Ps;have Hl:w3.heap[w.heap.size+1]?=some (.loop r3):=hB3.lr r3 rfl;have al:w.heap.size+1 < w3.heap.size:=(Array.getElem?_eq_some_iff.1 Hl).1;have DC:bw F ν3 t (H3.set H.length none) { a with defers:=[{ target:=.collected w.heap.size,args:=#[] }]++a.defers } (w3.putObj (w.heap.size+1) (.loop { r3 with state:=.exhausted })):=by
       have Hm:∀ x,uk dQ (H++[some (.cc { state:=.ready,pending:=none,fn,tmps:=a.tmps,params:=ps,assign,body,defers:=w.heap.size })]) x→(F.O x∨F.W.heap.size≤x)∧W1.heap[x]?≠some (.deferred (some [])):=by
        rintro x ⟨id,c,l,h1,J,h3,rfl⟩
        obtain ⟨l',h4,hB⟩:=kf.aJ id c h1;rw [h3] at h4; cases h4;refine ⟨?_,fun hd=>?_⟩
        ·by_cases bm:id < H.length
         ·rw [List.getElem?_append_left bm] at h1;rw [uW,Nu.iM (by omega)] at h3
          exact hi.own id c l h1 J h3
         ·have:id=H.length:=by
           have:=(List.getElem?_eq_some_iff.1 h1).1;simp at this; omega
          subst this;rw [xP] at h3; cases h3;exact .inr (by have:=hi.kp.size; show _≤w.heap.size+1; omega)
        ·cases hr:c.rc with
         | none=>obtain ⟨cur,tt,h5,_⟩:=hB.own J hr; rw [h5] at hd; cases hd
         | some r=>rw [hB.lr r hr] at hd; cases hd
       have OL:∀ D:Nat,W1.heap[D]?=some (Obj.deferred (some []))→(w3.putObj (w.heap.size+1) (.loop { r3 with state:=.exhausted })).heap[D]?=some (Obj.deferred (some [])):=fun D hD=>by
        have I3:=(Pr.aJ D (Array.getElem?_eq_some_iff.1 hD).1 (fun h=>(Hm D h).2 hD)).trans hD
        exact (World.putObj_heap_other (fun e=>by rw [e,Hl] at I3; cases I3)).trans I3
       have c6:∀ (id:Nat) (b:aj),(H3.set H.length none)[id]?=some (some b)→id≠H.length∧H3[id]?=some (some b):=fun id b hb=>by
        by_cases e:id=H.length
        ·subst e; rw [List.getElem?_set_self adC] at hb; cases hb
        ·rw [List.getElem?_set_ne (Ne.symm e)] at hb; exact ⟨e,hb⟩
       refine ⟨hi.tm.mono (Nu.le_trans sG HZ),?_,⟨fun id b hb=>?_,fun i j bi bj li lj h1 J=>?_⟩,fun id bm=>adB id (by simpa using bm),?_,fun id b l hb ho hl=>?_,Nu.le_trans hi.mono (Nu.le_trans sG HZ)⟩
       ·refine ⟨List.nodup_cons.2 ⟨fun hm=>?_,hi.df.1⟩,fun d hd=>?_⟩
        ·obtain ⟨D,e,_,hD⟩:=hi.df.2 _ hm;have:=(Array.getElem?_eq_some_iff.1 hD).1;cases e;omega
        ·rcases List.mem_cons.1 hd with rfl | hd
         ·exact ⟨_,rfl,hi.kp.size,OL _ abW⟩
         ·obtain ⟨D,e,h0,hD⟩:=hi.df.2 d hd;exact ⟨D,e,h0,OL D ((HX.block D (Array.getElem?_eq_some_iff.1 hD).1).trans hD)⟩
       ·obtain ⟨aI,hb⟩:=c6 id b hb;obtain ⟨l,hl,hB⟩:=DA.aJ id b hb;have HN:=DA.sep _ id _ b _ l s3 hb (Ne.symm aI) rfl Qo hl;exact ⟨l,hl,hB.same (World.putObj_heap_other (Ne.symm HN)) (by simp)⟩
       ·exact DA.sep i j bi bj li lj (c6 i bi h1).2 (c6 j bj J).2
       ·refine (hi.kp.below HX).then (Pr.then (O':=fun x=>x=w.heap.size+1) ⟨rfl,rfl,rfl,by simp,fun b h1 J=>World.putObj_heap_other J⟩ (fun b hb=>.inl (by subst hb; exact ⟨H.length,.cc { state:=.ready,pending:=none,fn,tmps:=a.tmps,params:=ps,assign,body,defers:=w.heap.size },_,by simp,rfl,xP,rfl⟩))) (fun b hb=>(Hm b hb).1)
       ·rcases ab1 id b l (c6 id b hb).2 ho hl with h | h
        ·exact (Hm _ h).1
        ·exact .inr (by have:=hi.kp.size; omega)
      by_cases OM:r3.state=.busy
      ·rw [OM] at h3; exact h3.elim
      ·have he:=run_endLoop (P:=P) Hl OM;generalize w3.putObj (w.heap.size+1) (.loop { r3 with state:=.exhausted })=w4 at DC he
       refine ⟨r3.pending,w4,he,?_⟩;clear he;have pick:∀ {X:Prop},(match r3.state,r3.pending with
        | .busy,_=>False
        | _,none=>kn t (H3.set H.length none)
        | _,some (.exit i)=>kx i t (H3.set H.length none)
        | _,some .ret=>kr t (H3.set H.length none)
        | _,_=>False)→(∀ s,(match (generalizing:=false) s,r3.pending with
        | LoopState.busy,_=>False
        | _,none=>kn t (H3.set H.length none)
        | _,some (.exit i)=>kx i t (H3.set H.length none)
        | _,some .ret=>kr t (H3.set H.length none)
        | _,_=>False)→X)→X:=fun h k=>k _ h
       refine pick h3 fun s h3=>?_
       cases hp:r3.pending with
       | none =>
        rw [hp] at h3;cases s <;> first | exact h3.elim | exact hn _ _ _ _ _ DC h3
       | some c =>
        rw [hp] at h3;cases c <;> cases s <;> first | exact h3.elim | exact wpIn_exit (hx _ _ _ _ _ _ DC h3) | exact wpIn_ret (hr _ _ _ _ _ DC h3)
     ·exact h3.elim
   ·exact h.elim
  ·exact h.elim
 | _=>exact fun _ _ _=>fun _ h _ _ _=>h.elim
def zd (tmps:Array Value):ResultVar→Sem Value
 | .tmp t=>pure (tmps.getD t undef)
 | .cell x t=>do loadVar t (← asAddr (tmps.getD x undef))
theorem SE (fn:Func) (tmps:Array Value):results fn tmps=(do let vs ← fn.results.mapM (zd tmps); pure (if h:vs.size=1 then vs[0] else .tuple vs)):=rfl
theorem SF (a:Addr):asAddr (.pointer (some a))=pure a:=rfl
theorem D8 (hE:jJ P E) {ν:Nu} {tmps:List Value} {H:aA} {a:Act} {w:World} (hi:bw F ν tmps H a w):∀ {l:List ResultVar} {k:List Value→Prop},wu E H tmps l k →
  ∃ vs fL,k vs∧bg ν vs fL∧(l.mapM (zd a.tmps)).run P w=.ok fL w
 | [],k,h=>⟨[],[],h,.nil ν,rfl⟩
 | .tmp t::l,k,h=>by
  obtain ⟨v,hv,h⟩:=ox h;obtain ⟨v',n6,hr⟩:=hi.tm.get hv;obtain ⟨vs,fL,h1,J,h3⟩:=D8 hE hi h;have e:a.tmps.getD t undef=v':=by
   have:a.tmps[t]?=some v':=by simpa using n6
   simp [this]
  exact ⟨v::vs,v'::fL,h1,.cons hr J,by simp only [List.mapM_cons,zd,Sem.run_bind,Sem.run_pure,Result.andThen_ok,h3,e]⟩
 | .cell x t::l,k,h=>by
  obtain ⟨v,hv,h⟩:=ox h;obtain ⟨v',n6,hr⟩:=hi.tm.get hv
  split at h
  ·rename_i id row sp;obtain ⟨ti,ht,h⟩:=cN h;obtain ⟨b,hb,h⟩:=gu h;obtain ⟨aZ,h⟩:=Lz h;obtain ⟨us,h,hl,sR⟩:=x9 h;obtain ⟨lc,dG,hB⟩:=hi.hp.aJ id b hb;obtain ⟨lc',Pt,he⟩:=hr.oJ;rw [dG] at Pt; cases Pt;obtain ⟨us',h1,J,h3⟩:=KR hB aZ hl sR;obtain ⟨vs,fL,k1,k2,k3⟩:=D8 hE hi h;have e:a.tmps.getD x undef=v':=by
    have:a.tmps[x]?=some v':=by simpa using n6
    simp [this]
   refine ⟨_,_::fL,k1,.cons (E5 h1) k2,?_⟩;simp only [List.mapM_cons,zd,Sem.run_bind,Result.andThen_ok,e,he,SF,Sem.run_pure,J4 (hE.ty _ _ ht) J h3,k3]
  ·exact h.elim
structure nS (n0:Nat) (w w':World):Prop where
 os:w'.os=w.os
 tape:w'.tape=w.tape
 output:w'.output=w.output
 size:w'.heap.size=w.heap.size
 low:∀ q:Nat,q < n0→w'.heap[q]?=w.heap[q]?
 same:∀ (q:Nat) (o:Obj),(∀ c,o≠.deferred c)→w.heap[q]?=some o→w'.heap[q]?=some o
theorem nS.refl (n0:Nat) (w:World):nS n0 w w:=⟨rfl,rfl,rfl,rfl,fun _ _=>rfl,fun _ _ _ h=>h⟩
theorem nS.trans {n0:Nat} {w w' Qp:World} (h:nS n0 w w') (k:nS n0 w' Qp):nS n0 w Qp :=
 ⟨k.os.trans h.os,k.tape.trans h.tape,k.output.trans h.output,k.size.trans h.size,fun q hq=>(k.low q hq).trans (h.low q hq),fun q o ho hq=>k.same q o ho (h.same q o ho hq)⟩
theorem Vc {n0 D:Nat} {w:World} (hD:w.heap[D]?=some (Obj.deferred (some []))) (h0:n0≤D):nS n0 w (w.putObj D (.deferred none)) :=
 ⟨rfl,rfl,rfl,by simp,fun q hq=>World.putObj_heap_other (by omega),fun q o ho hq=>(World.putObj_heap_other (fun e=>by subst e; rw [hD] at hq; cases hq; exact ho _ rfl)).trans hq⟩
theorem J9 {fn:Func} {tmps:Array Value} {R:Ending→World→Prop} {n0:Nat}:∀ (ds:List Deferred) (w:World),Marks n0 ds w→(∀ w',nS n0 w w'→∃ v,(results fn tmps).run P w'=.ok v w'∧R (.returned v) w')→LeavesInM Fence.wide n P fn tmps R ds .returning w
 | [],w,_,h=>h w (nS.refl n0 w)
 | d::ds,w,hm,h=>by
  obtain ⟨D,rfl,h0,hD⟩:=hm.2 d (List.mem_cons_self ..);have mz:=List.nodup_cons.1 hm.1;refine ⟨by simp,.inl ⟨D,w.putObj D (.deferred none),rfl,run_takeDeferred hD,?_⟩⟩
  refine J9 ds _ ⟨mz.2,fun e he=>?_⟩ fun w' I5=>h w' ((Vc hD h0).trans I5)
  obtain ⟨D',rfl,h1,Ab⟩:=hm.2 e (List.mem_cons_of_mem _ he);exact ⟨D',rfl,h1,(World.putObj_heap_other (fun e2=>mz.1 (by rw [← e2]; exact he))).trans Ab⟩
theorem bN.shut {ν:Nu} {l:Loc} {b:aj} {n0:Nat} {w w':World} (h:bN ν l b w) (hs:nS n0 w w'):bN ν l b w':=by
 refine ⟨h.ah,h.len,fun r hr j v hv=>?_,h.plain,h.one,fun ho hc=>?_,fun r hr=>hs.same _ _ (fun c=>by simp) (h.lr r hr),by rw [hs.size]; exact h.live⟩
 ·obtain ⟨v',h1,J⟩:=h.cell r hr j v hv;refine ⟨v',?_,J⟩;have h3:=h1;unfold World.cell? at h3;cases ho:w.heap[(l.at r j).block]? with
  | none=>simp [ho] at h3
  | some o =>
   have:∀ c,o≠Obj.deferred c:=fun c e=>by subst e; simp [ho] at h3
   rw [World.cell?_of_block (a:=l.at r j) ((hs.same _ _ this ho).trans ho.symm)];exact h1
 ·obtain ⟨cur,t,h1,J⟩:=h.own ho hc;exact ⟨cur,t,hs.same _ _ (fun c=>by simp) h1,J⟩
theorem bQ.shut {ν:Nu} {H:aA} {n0:Nat} {w w':World} (h:bQ ν H w) (hs:nS n0 w w'):bQ ν H w' :=
 ⟨fun id b hi=>let ⟨l,h1,J⟩:=h.aJ id b hi; ⟨l,h1,J.shut hs⟩,h.sep⟩
def cl (E:Env) (D:Env→List Oper→List Value→aA→SK→Prop) (fn:Func) (args:List Value) (H:aA) (K:Value→aA→Prop):Prop :=
 match fn.body with
 | some c=>jm H fun n0=>qA args (List.replicate (fn.ntmps - args.length) undef) fun t0 =>
  vc { E with base:=n0 } D c t0 H (fun t H=>wu { E with base:=n0 } H t fn.results.toList fun vs=>C4 vs fun v=>K v H) (fun _ _ _=>False) (fun t H=>wu { E with base:=n0 } H t fn.results.toList fun vs=>C4 vs fun v=>K v H)
 | none=>False
theorem jJ.at {E:Env} (hE:jJ P E) (n0:Nat):jJ P { E with base:=n0 }:=⟨⟨hE.ty,hE.eq,hE.fn,hE.ft⟩,hE.IE,hE.ys⟩
theorem yq (hE:jJ P E) (hD:nj P D) {f:FuncId} {fn:Func} (hf:P.funcs[f]?=some fn) {args as:List Value} {H:aA} {ν:Nu} {w:World} {O:Nat→Prop} {K:Value→aA→Prop} {n:Nat}
  (h:cl E D fn args H K) (ha:bg ν args as) (hH:bQ ν H w) (gi:∀ id,H.length≤id→ν id=none)
  (j8:∀ id b l,H[id]?=some (some b)→b.own=true→ν id=some l→O l.aJ) (hnu:E.nu.le ν) {R:Ending→World→Prop}
  (hR:∀ ak v v' t H' a w',bw ⟨w,O,ν,H.length,gi⟩ ak t H' a w'→K v H'→au ak v v'→R (.returned v') w'):CallsIn Fence.wide n P f ⟨as⟩ w R:=by
 unfold cl at h
 split at h
 ·rename_i c hc;have h:=v8 (lU h);refine callsIn_of_wp_marks hf hc trivial ?_;have hi:bw ⟨w,O,ν,H.length,gi⟩ ν (args++List.replicate (fn.ntmps - args.length) undef) H { tmps:=(⟨as⟩:Array Value)++Array.replicate (fn.ntmps - (⟨as⟩:Array Value).size) undef,defers:=[] } w:=by
   refine ⟨?_,Marks.nil _ _,hH,gi,Kept.refl w,fun id b l h1 J h3=>.inl (j8 id b l h1 J h3),ν.le_refl⟩
   have e:((⟨as⟩:Array Value)++Array.replicate (fn.ntmps - (⟨as⟩:Array Value).size) undef).toList=as++List.replicate (fn.ntmps - args.length) undef:=by
    simp [ha.1]
   rw [e];refine ha.append ⟨rfl,fun i x y hx hy=>?_⟩
   rw [hx] at hy; cases hy;have:=List.mem_of_getElem? hx;simp at this;rw [this.2]; exact .undef ν
  have Qq:=hE.at H.length;have fin:∀ ak t H' a w',bw ⟨w,O,ν,H.length,gi⟩ ak t H' a w'→(wu { E with base:=H.length } H' t fn.results.toList fun vs=>C4 vs fun v=>K v H')→LeavesInM Fence.wide n P fn a.tmps R a.defers .returning w':=by
   intro ak t H' a w' fN h';refine J9 a.defers w' fN.df fun w2 hs=>?_
   have aR:bw ⟨w,O,ν,H.length,gi⟩ ak t H' { tmps:=a.tmps,defers:=[] } w2 :=
    ⟨fN.tm,Marks.nil _ _,fN.hp.shut hs,fN.fr,⟨hs.os.trans fN.kp.os,hs.tape.trans fN.kp.tape,hs.output.trans fN.kp.output,by rw [hs.size]; exact fN.kp.size,fun b h1 J=>(hs.low b h1).trans (fN.kp.aJ b h1 J)⟩,fN.own,fN.mono⟩
   obtain ⟨vs,fL,h1,J,h3⟩:=D8 Qq aR h';have adD:(fn.results.mapM (zd a.tmps)).run P w2=.ok ⟨fL⟩ w2:=by
    rw [Array.mapM_eq_mapM_toList];simp only [Sem.run_map,h3,Result.andThen_ok]
   rw [SE];simp only [Sem.run_bind,adD,Result.andThen_ok,Sem.run_pure];refine ⟨_,rfl,?_⟩;unfold C4 at h1
   split at h1
   ·rename_i v;obtain ⟨y,ys,rfl,k1,k2⟩:=J.jd;rw [k2.iL];exact hR _ _ _ _ _ _ _ aR h1 k1
   ·rename_i aI;have hlen:¬ ((⟨fL⟩:Array Value).size=1):=by
     intro e;have:vs.length=1:=by rw [J.1]; exact e
     obtain ⟨v,rfl⟩:=List.length_eq_one_iff.1 this;exact aI v rfl
    rw [dif_neg hlen];exact hR _ _ _ _ _ _ _ aR h1 (.tuple _ _ J.1 J.2)
  exact Vb hD c (r:=none) (F:=⟨w,O,ν,H.length,gi⟩) Qq ⟨Nat.le_refl _,hnu⟩ (fun _=>rfl) hi h (fun ν t H a w' aR h'=>fin ν t H a w' aR h') (fun _ _ _ _ _ _ _ h'=>h'.elim) (fun ν t H a w' aR h'=>fin ν t H a w' aR h')
 ·exact h.elim
theorem BT {E:Env} {ν:Nu} (h:E.nu=fun _=>none):E.nu.le ν:=by rw [h]; exact fun _ _ h=>nomatch h
theorem bk {S:bF} (hE:EnvOk P E) (hD:nj P D) {f:FuncId} {fn:Func} (hf:P.funcs[f]?=some fn) (n5:∀ args w,(callFunc f args).run P w=.ok (.enter f args) w)
  (ha:∀ i,Bi (S.args i)=true) (hv:∀ i,Cm (S.val i)=true) (h:∀ i,S.pre i→cl E D fn (S.args i) [] fun v _=>v=S.val i)
  (hI:gG P E:=by exact gG.none rfl) (hy:E.ys=[]:=by rfl) (hu:E.nu=(fun _=>none):=by rfl):bh P f S:=by
 refine ⟨n5,fun i hp ν as w n has=>?_⟩
 have e:=(D7 (ha i)).2 ν as has;subst e;refine yq (O:=fun _=>False) (ν:=fun _=>none) (hE.x hI hy) hD hf (h i hp) ((D7 (ha i)).1 _) ⟨fun id b hb=>by simp at hb,fun i j bi bj li lj hi=>by simp at hi⟩ (fun _ _=>rfl) (fun id b l hb=>by simp at hb) (BT hu) ?_
 rintro ak v v' t H a w' hi rfl hr
 exact ⟨v',rfl,by rw [(AV (hv i)).2 _ _ hr]; exact (AV (hv i)).1 ν,⟨hi.kp.os,hi.kp.tape,hi.kp.output,hi.kp.size,fun k hk=>hi.kp.aJ k hk (fun h=>h)⟩⟩
theorem ji (hE:EnvOk P E) (hD:nj P D) {f:FuncId} {fn:Func} (hf:P.funcs[f]?=some fn) (n5:∀ args w,(callFunc f args).run P w=.ok (.enter f args) w)
  (hI:gG P E:=by exact gG.none rfl) (hy:E.ys=[]:=by rfl) (hu:E.nu=(fun _=>none):=by rfl):gf P f (cl E D fn):=by
 refine ⟨n5,fun args H K h ν as w n O ha hH gi j8=>yq (hE.x hI hy) hD hf h ha hH gi j8 (BT hu) ?_⟩
 intro ak v v' t H' a w' hi hk hv;exact ⟨v,v',ak,H',rfl,hk,hv,hi.mono,hi.hp,hi.fr,hi.kp,hi.own⟩
theorem ON (hE:EnvOk P E) (hD:nj P D) {f:FuncId} {fn:Func} (hf:P.funcs[f]?=some fn) (n5:∀ args w,(callFunc f args).run P w=.ok (.enter f args) w)
  (hI:gG P E:=by exact gG.none rfl):zv P f (fun l G nu=>cl { E with ys:=[(l,G)],nu:=nu } D fn):=by
 refine ⟨n5,fun l G bn hY args H K h ν as w n O hle ha hH gi j8=>?_⟩
 refine yq (E:={ E with ys:=[(l,G)],nu:=bn }) ⟨⟨hE.ty,hE.eq,hE.fn,hE.ft⟩,hI,fun l' G' r e=>by cases e; exact hY⟩ hD hf h ha hH gi j8 hle ?_
 intro ak v v' t H' a w' hi hk hv;exact ⟨v,v',ak,H',rfl,hk,hv,hi.mono,hi.hp,hi.fr,hi.kp,hi.own⟩
end
open Go Go.RowKit
def Ff:Value→Bool
 | .bool _ | .int _ _ | .string _ | .pointer none | .nilFunc=>true
 | .slice none 0 0=>true
 | _=>false
theorem Rt {v:Value} (h:Ff v=true):(∀ ν,au ν v v)∧v.oneCell'=true:=by
 unfold Ff at h
 split at h
 ·exact ⟨fun ν=>.bool _,rfl⟩
 ·exact ⟨fun ν=>.int _ _,rfl⟩
 ·exact ⟨fun ν=>.str _,rfl⟩
 ·exact ⟨fun ν=>.me,rfl⟩
 ·exact ⟨fun ν=>.mf,rfl⟩
 ·exact ⟨fun ν=>.iD,rfl⟩
 ·cases h
def A8:List Value→Bool
 | []=>true
 | v::l=>Ff v && A8 l
theorem JV:∀ {l:List Value},A8 l=true→(∀ ν,bg ν l l)∧∀ v∈l,v.oneCell'=true
 | [],_=>⟨fun ν=>.nil ν,fun v hv=>by simp at hv⟩
 | v::l,h=>by
  simp only [A8,Bool.and_eq_true] at h;obtain ⟨h1,J⟩:=Rt h.1;obtain ⟨h3,h4⟩:=JV h.2;exact ⟨fun ν=>.cons (h1 ν) (h3 ν),fun u hu=>by
   rcases List.mem_cons.1 hu with e | e
   ·rw [e]; exact J
   ·exact h4 u e⟩
def wI (P:Program):List Field→List (Nat × Nat × Bool)→Bool
 | [],[]=>true
 | f::l,x::m=>Nat.beq f.offset x.1 && Nat.ble 1 x.2.1 && (match P.info? f.type with | some i=>Nat.beq i.size x.2.1 | none=>false) &&
  (match P.underlying f.type with | some d=>(ui d == x.2.2) | none=>false) && wI P l m
 | _,_=>false
theorem Ka {P:Program}:∀ {l:List Field} {m:List (Nat × Nat × Bool)},wI P l m=true→l.length=m.length∧∀ (i:Nat) f x,l[i]?=some f→m[i]?=some x→yD P f x
 | [],[],_=>⟨rfl,fun i f x h=>by simp at h⟩
 | f::l,x::m,h=>by
  simp only [wI,Bool.and_eq_true] at h;obtain ⟨⟨⟨⟨h1,J⟩,h3⟩,h4⟩,h5⟩:=h;obtain ⟨k1,k2⟩:=Ka h5;refine ⟨by simp [k1],fun i g y hg hy=>?_⟩
  cases i with
  | zero =>
   simp at hg hy;subst hg; subst hy;refine ⟨Nat.eq_of_beq_eq_true h1,Nat.le_of_ble_eq_true J,?_,?_⟩
   ·split at h3
    ·exact ⟨_,by assumption,Nat.eq_of_beq_eq_true h3⟩
    ·cases h3
   ·split at h4
    ·exact ⟨_,by assumption,by simpa using h4⟩
    ·cases h4
  | succ i=>exact k2 i g y (by simpa using hg) (by simpa using hy)
 | [],_::_,h=>by simp [wI] at h
 | _::_,[],h=>by simp [wI] at h
def Hn (P:Program) (t:TypeId) (k:TK):Bool :=
 match k,P.underlying t with
 | .int q,some (.int q')=>decide (q=q')
 | .bool,some .bool=>true
 | .str,some .string=>true
 | .struct fs,some (.struct fields)=>wI P fields.toList fs
 | .slice e,some (.slice e')=>Nat.beq e e'
 | .array n e,some (.array n' e')=>Nat.beq n n' && Nat.beq e e'
 | .other,some d=>!ui d
 | _,_=>false
theorem SG {P:Program} {t:TypeId} {k:TK} (h:Hn P t k=true):∃ d,P.underlying t=some d∧Dm P k d:=by
 unfold Hn at h
 split at h
 ·exact ⟨_,by assumption,by rw [of_decide_eq_true h]; rfl⟩
 ·exact ⟨_,by assumption,rfl⟩
 ·exact ⟨_,by assumption,rfl⟩
 ·obtain ⟨h1,J⟩:=Ka h;exact ⟨_,by assumption,_,rfl,by simpa using h1,fun i f x hf hx=>J i f x (by simpa using hf) hx⟩
 ·exact ⟨_,by assumption,by rw [Nat.eq_of_beq_eq_true h]; rfl⟩
 ·simp only [Bool.and_eq_true] at h;exact ⟨_,by assumption,by rw [Nat.eq_of_beq_eq_true h.1,Nat.eq_of_beq_eq_true h.2]; rfl⟩
 ·exact ⟨_,by assumption,by simpa [Dm] using h⟩
 ·cases h
def N9 (ti:TI):Bool:=A8 ti.zero && Nat.beq ti.zero.length ti.size && Nat.ble 1 ti.size && Nat.ble 1 ti.bytes
theorem aM {P:Program} {t:TypeId} {ti:TI} (h1:(P.info? t).map (fun i=>(i.size,i.bytes,i.zero.map fun z=>z.cells.toList))=some (ti.size,ti.bytes,some ti.zero)) (J:Hn P t ti.kind=true) (h3:N9 ti=true):aD P t ti:=by
 obtain ⟨i,hi,he⟩:=Option.map_eq_some_iff.1 h1;simp only [Prod.mk.injEq] at he;obtain ⟨e1,e2,e3⟩:=he;obtain ⟨z,hz,oa⟩:=Option.map_eq_some_iff.1 e3;simp only [N9,Bool.and_eq_true] at h3;obtain ⟨⟨⟨k1,k2⟩,k3⟩,k4⟩:=h3;obtain ⟨k5,k6⟩:=JV k1;exact ⟨⟨i,hi,e1,e2,z,hz,Array.ext' oa⟩,SG J,k5,Nat.eq_of_beq_eq_true k2,k6,Nat.le_of_ble_eq_true k3,Nat.le_of_ble_eq_true k4⟩
inductive ET where
 | bool | int (k:IntKind) | str
 | struct (fs:List (Nat × ET))      -- each field's size and shape
open Go Go.RowKit
def iB:List Operand→List Tmp
 | []=>[]
 | .tmp t::l=>t::iB l
 | _::l=>iB l
theorem pI {t:Tmp}:∀ {l:List Operand},Operand.tmp t∈l→t∈iB l
 | .tmp u::l,h=>by
  rcases List.mem_cons.1 h with e | e
  ·cases e; simp [iB]
  ·simp [iB,pI e]
 | .const v::l,h=>by
  rcases List.mem_cons.1 h with e | e
  ·cases e
  ·simpa [iB] using pI e
 | .global v::l,h=>by
  rcases List.mem_cons.1 h with e | e
  ·cases e
  ·simpa [iB] using pI e
 | .func v::l,h=>by
  rcases List.mem_cons.1 h with e | e
  ·cases e
  ·simpa [iB] using pI e
def jb (ops:List Oper) (o:Oper):List Tmp :=
 iB o.op.operands.toList++(match o.guard with | some (j,_)=>(match (ops[j]?).bind (·.dst) with | some d=>[d] | none=>[]) | none=>[])
def BU (ops:List Oper) (aU:List (List Nat)):Bool :=
 (List.range ops.length).all fun j=>match ops[j]? with
  | some o=>(aU.getD j []).all fun i=>i < j && o.after.toList.any fun e=>Region.binds .any e && (e.on == i || ((aU.getD e.on []).contains i && decide (e.on < j)))
  | none=>true
def Cn (ops:List Oper) (m:Nat) (aU:List (List Nat)):Bool :=
 decide (m≤ops.length) && BU ops aU &&
 (List.range ops.length).all (fun j=>match ops[j]? with
  | some o=>o.after.toList.all fun e=>!Region.binds .any e || decide (e.on < j)
  | none=>true) &&
 (List.range m).all (fun j=>match ops[j]? with
  | some o=>(List.range m).all fun i=>i == j || match ops[i]? with
   | some p=>match p.dst with
    | some d=>(o.dst != some d) && (!(jb ops o).contains d || (aU.getD j []).contains i || (aU.getD i []).contains j)
    | none=>true
   | none=>true
  | none=>true) &&
 (List.range ops.length).all (fun j=>decide (j < m) || (List.range j).all fun i=>(aU.getD j []).contains i)
def kW:List (Option aj)→Nat→List Nat→(List (Option aj)→Prop)→Prop
 | [],_,_,k=>k []
 | b::S,i,mask,k=>match mask with
  | m::ms=>match Nat.beq m i with
   | true=>kW S (i+1) ms fun S'=>k (b::S')
   | false=>kW S (i+1) (m::ms) fun S'=>k (none::S')
  | []=>kW S (i+1) [] fun S'=>k (none::S')
def np:aA→List (Option aj)→(aA→Prop)→Prop
 | [],S,k=>k S
 | b::H,S,k=>np H S fun G=>k (b::G)
theorem tS:∀ {H:aA} {S:List (Option aj)} {k:aA→Prop},np H S k→k (H++S)
 | [],_,_,h=>h
 | _::H,S,k,h=>tS (H:=H) h
def jk:List (Option aj)→Option aj→(List (Option aj)→Prop)→Prop
 | [],b,k=>k [b]
 | c::S,b,k=>jk S b fun S'=>k (c::S')
theorem tI:∀ {S:List (Option aj)} {b:Option aj} {k:List (Option aj)→Prop},jk S b k→k (S++[b])
 | [],_,_,h=>h
 | _::S,b,k,h=>tI (S:=S) h
def kX (E:Env) (ops:List Oper) (H:aA) (n0:Nat):List Oper→List (List Nat)→Nat→List Value→List (Option aj)→(List Value→List (Option aj)→Prop)→Prop
 | [],_,_,t,S,k=>k t S
 | o::l,mask::aU,j,t,S,k =>
  match o.guard with
  | none=>kW S 0 mask fun Sm=>np H Sm fun G=>kK E o.op t G (n0+j) fun v nb=>dm t o.dst v fun t'=>jk S nb fun S'=>kX E ops H n0 l aU (j+1) t' S' k
  | some (g,want)=>match (ops[g]?).bind (·.dst) with
   | some d=>qz t d fun v=>match v with
    | .bool b=>br (b == want)
      (kW S 0 mask fun Sm=>np H Sm fun G=>kK E o.op t G (n0+j) fun v nb=>dm t o.dst v fun t'=>jk S nb fun S'=>kX E ops H n0 l aU (j+1) t' S' k)
      (dm t o.dst undef fun t'=>jk S none fun S'=>kX E ops H n0 l aU (j+1) t' S' k)
    | .tuple _=>dm t o.dst undef fun t'=>jk S none fun S'=>kX E ops H n0 l aU (j+1) t' S' k
    | _=>False
   | none=>False
 | _::_,[],_,_,_,_=>False
def uG:List Oper→Nat→(List Oper→List Oper→Prop)→Prop
 | l,0,k=>k [] l
 | [],_+1,_=>False
 | o::l,m+1,k=>uG l m fun a b=>k (o::a) b
theorem yg:∀ {l:List Oper} {m:Nat} {k:List Oper→List Oper→Prop},uG l m k→m≤l.length∧k (l.take m) (l.drop m)
 | l,0,_,h=>⟨by simp,by simpa [uG] using h⟩
 | [],_+1,_,h=>h.elim
 | o::l,m+1,k,h=>by
  obtain ⟨h1,J⟩:=yg (l:=l) h;exact ⟨by simp; omega,by simpa using J⟩
def OO (E:Env) (ops:List Oper) (t:List Value) (H:aA) (k:SK):Prop :=
 ∃ (m:Nat) (aU:List (List Nat)),Cn ops m aU=true∧jm H fun n0=>uG ops m fun hd tl=>kX E ops H n0 hd aU 0 t [] fun t' S=>np H S fun G=>m8 E ops tl t' G k
structure c4 where
 v:Value
 nb:Option aj
 run:Bool
def bR (ops:List Oper) (i:Nat):Option Tmp:=(ops[i]?).bind (·.dst)
def bd (ops:List Oper) (rs:List c4) (D:Nat→Bool) (t0:List Value):Nat→List Value
 | 0=>t0
 | i+1=>match D i,bR ops i,rs[i]? with
  | true,some d,some r=>(bd ops rs D t0 i).set d r.v
  | _,_,_=>bd ops rs D t0 i
def ky (rs:List c4) (D:Nat→Bool) (m:Nat):List (Option aj):=(List.range m).map fun i=>if D i then (rs[i]?).bind (·.nb) else none
section
variable {ops:List Oper} {rs:List c4} {t0:List Value}
theorem rB (D:Nat→Bool):∀ m,(bd ops rs D t0 m).length=t0.length
 | 0=>rfl
 | m+1=>by
  unfold bd
  split
  ·rw [List.length_set]; exact rB D m
  ·exact rB D m
def xi (ops:List Oper) (m:Nat):Prop:=∀ i j d,i < m→j < m→bR ops i=some d→bR ops j=some d→i=j
theorem wa (D:Nat→Bool) {d:Tmp}:∀ m,(∀ i,i < m→D i=true→bR ops i=some d→rs[i]?=none)→(bd ops rs D t0 m)[d]?=t0[d]?
 | 0,_=>rfl
 | m+1,h=>by
  unfold bd
  split
  ·rename_i d' r hD hd hr;have aI:d'≠d:=fun e=>by subst e; rw [h m (by omega) hD hd] at hr; cases hr
   rw [List.getElem?_set_ne aI];exact wa D m (fun i hi=>h i (by omega))
  ·exact wa D m (fun i hi=>h i (by omega))
theorem tT (D:Nat→Bool) {d:Tmp} {i:Nat} {r:c4} (hd:bR ops i=some d) (hr:rs[i]?=some r) (hD:D i=true) (al:d < t0.length) :
  ∀ m,i < m→xi ops m→(bd ops rs D t0 m)[d]?=some r.v
 | 0,h,_=>by omega
 | m+1,h,ha=>by
  by_cases e:i=m
  ·subst e;unfold bd;rw [hD,hd,hr]
   dsimp only
   rw [List.getElem?_set_self];rw [rB]; exact al
  ·have ih:=tT D hd hr hD al m (by omega) (fun a b c h1 J=>ha a b c (by omega) (by omega))
   unfold bd
   split
   ·rename_i d' r' Ab cV iG;have aI:d'≠d:=fun e'=>by subst e'; exact e (ha i m d' (by omega) (by omega) hd cV)
    rw [List.getElem?_set_ne aI]; exact ih
   ·exact ih
theorem yh {D D':Nat→Bool} {d:Tmp} {m:Nat} (ha:xi ops m) (al:∀ i d,i < m→bR ops i=some d→d < t0.length) (h:∀ i,i < m→bR ops i=some d→D i=D' i) :
  (bd ops rs D t0 m)[d]?=(bd ops rs D' t0 m)[d]?:=by
 by_cases hex:∃ i r,i < m∧bR ops i=some d∧D i=true∧rs[i]?=some r
 ·obtain ⟨i,r,hi,hd,hD,hr⟩:=hex;rw [tT D hd hr hD (al i d hi hd) m hi ha,tT D' hd hr (by rw [← h i hi hd]; exact hD) (al i d hi hd) m hi ha]
 ·rw [wa D m,wa D' m]
  ·intro i hi hD hd;cases hr:rs[i]? with
   | none=>rfl
   | some r=>exact absurd ⟨i,r,hi,hd,by rw [h i hi hd]; exact hD,hr⟩ hex
  ·intro i hi hD hd;cases hr:rs[i]? with
   | none=>rfl
   | some r=>exact absurd ⟨i,r,hi,hd,hD,hr⟩ hex
theorem K3 {D D':Nat→Bool} {m j:Nat} (ha:xi ops m) (al:∀ i d,i < m→bR ops i=some d→d < t0.length) (hj:j < m) (hDj:D j=false) (Ab:∀ i,D' i=(D i || i == j)) {r:c4} (hr:rs[j]?=some r) :
  bd ops rs D' t0 m=match bR ops j with | some d=>(bd ops rs D t0 m).set d r.v | none=>bd ops rs D t0 m:=by
 apply List.ext_getElem?;intro x;have Qr:∀ i,i≠j→D' i=D i:=fun i hi=>by rw [Ab i]; simp [hi]
 cases hd:bR ops j with
 | none =>
  dsimp only
  refine yh ha al (fun i hi fO=>Qr i (fun e=>?_))
  subst e; rw [hd] at fO; cases fO
 | some d =>
  dsimp only
  by_cases e:d=x
  ·subst e;have hl:=al j d hj hd;rw [List.getElem?_set_self (by rw [rB]; exact hl)]
   exact tT D' hd hr (by rw [Ab j]; simp) hl m hj ha
  ·rw [List.getElem?_set_ne e];refine yh ha al (fun i hi fO=>Qr i (fun e'=>?_))
   subst e'; rw [hd] at fO; cases fO; exact e rfl
theorem rE {D:Nat→Bool} {m i:Nat} {b:aj}:(ky rs D m)[i]?=some (some b)↔i < m∧D i=true∧(rs[i]?).bind (·.nb)=some b:=by
 unfold ky;rw [List.getElem?_map];by_cases h:i < m
 ·simp only [List.getElem?_range h,Option.map_some,Option.some.injEq];cases D i <;> simp [h]
 ·rw [List.getElem?_eq_none (by simp; omega)]
  simp [h]
theorem Kb (D:Nat→Bool) (m:Nat):(ky rs D m).length=m:=by simp [ky]
end
def lX:Op→Bool
 | .move _=>true
 | .extract _ _=>true
 | .binOp _ _ _ _ _=>true
 | .slice _ _ _ _ _=>true
 | _=>false
def lY:Op→Bool
 | .load _ _=>true
 | .indexAddr _ _ _=>true
 | .call c=>match c.callee with
  | .builtin .len=>true
  | _=>false
 | _=>false
structure oL (P:Program) (ops:List Oper) (t0:List Value) (H:aA) (aU:List (List Nat)) (rs:List c4) (j:Nat):Prop where
 ok:∃ o r,ops[j]?=some o∧rs[j]?=some r∧(∀ d,o.dst=some d→d < t0.length) ∧
  ((∃ G:aA,(∀ id b,G[id]?=some (some b)→(id < H.length∧H[id]?=some (some b))∨(∃ i,id=H.length+i∧i < j∧i∈aU.getD j []∧(rs[i]?).bind (·.nb)=some b)) ∧
    (∀ (ν:Nu) (a:Act) (w:World) (q:Option Nat) (n:Nat),(∀ x∈o.op.operands,fh ν (bd ops rs (fun i=>decide (i < j)) t0 j) a x)→bQ ν G w→ν (H.length+j)=none →
     ∀ next Q,(∀ v' w' ak,mT ν ak (H.length+j) w w' r.v v' r.nb→next (a.put o.dst v') w')→o.wpIn (WF q) n P a w next Q) ∧
    (o.guard=none∨∃ g want d b,o.guard=some (g,want)∧bR ops g=some d∧(bd ops rs (fun i=>decide (i < j)) t0 j)[d]?=some (.bool b)∧(b == want)=true)) ∨
    (r.v=undef∧r.nb=none∧∃ g want d v,o.guard=some (g,want)∧bR ops g=some d∧(bd ops rs (fun i=>decide (i < j)) t0 j)[d]?=some v∧((∃ b,v=.bool b∧(b == want)=false)∨∃ vs,v=.tuple vs)))
 mv:∀ o,ops[j]?=some o→(lX o.op || lY o.op)=true→o.guard=none→∃ r,rs[j]?=some r∧r.nb=none∧∃ G:aA,(∀ id b,G[id]?=some (some b)→(id < H.length∧H[id]?=some (some b))∨(∃ i,id=H.length+i∧i < j∧i∈aU.getD j []∧(rs[i]?).bind (·.nb)=some b)) ∧
  (lX o.op=true→∀ (bn:Nu) (w0:World),bQ bn G w0→p8 P bn o.op (bd ops rs (fun i=>decide (i < j)) t0 j) r.v)∧(lY o.op=true→∀ bn,nK P bn G o.op (bd ops rs (fun i=>decide (i < j)) t0 j) r.v)
theorem SH {P:Program} {E:Env} (hE:EnvOk P E) {op:Op} {tmps:List Value} {H:aA} {aK:Nat} {k:QK} (h:kK E op tmps H aK k) :
  ∃ v nb,k v nb∧(∀ (o:Oper) (ν:Nu) (a:Act) (w:World) (r:Option Nat) (n:Nat),o.op=op→(∀ x∈op.operands,fh ν tmps a x)→bQ ν H w→ν aK=none →
   ∀ next Q,(∀ v' w' ak,mT ν ak aK w w' v v' nb→next (a.put o.dst v') w')→o.wpIn (WF r) n P a w next Q) ∧
   (lX op=true→nb=none∧∀ (bn:Nu) (w0:World),bQ bn H w0→p8 P bn op tmps v)∧(lY op=true→nb=none∧∀ bn,nK P bn H op tmps v):=by
 have mk:lY op=false→∀ v,k v none→(∀ (bn:Nu) (w0:World),bQ bn H w0→p8 P bn op tmps v)→∃ v nb,k v nb∧(∀ (o:Oper) (ν:Nu) (a:Act) (w:World) (r:Option Nat) (n:Nat),o.op=op→(∀ x∈op.operands,fh ν tmps a x)→bQ ν H w→ν aK=none →
   ∀ next Q,(∀ v' w' ak,mT ν ak aK w w' v v' nb→next (a.put o.dst v') w')→o.wpIn (WF r) n P a w next Q) ∧
   (lX op=true→nb=none∧∀ (bn:Nu) (w0:World),bQ bn H w0→p8 P bn op tmps v)∧(lY op=true→nb=none∧∀ bn,nK P bn H op tmps v):=by
  intro ob v hk hp;refine ⟨v,none,hk,fun o ν a w r n ho ha hH hn next Q hN=>?_,fun _=>⟨rfl,hp⟩,fun h=>by rw [ob] at h; cases h⟩
  obtain ⟨u,k1,k2⟩:=(hp ν w hH).2 o ν a w ν.le_refl ho ha;exact jy (v':=u) (w':=w) (by rw [ho]; exact (hp ν w hH).1) k2 next Q (hN _ _ ν ⟨ν.le_refl,fun _ _=>rfl,k1,Below.refl _ _,fun _=>rfl,(fun b hb=>by cases hb)⟩)
 by_cases hp:lX op=true
 ·cases op with
  | move x =>
   have h':Cz tmps x k:=h;obtain ⟨v,hk,hv⟩:=cQ h';exact mk rfl v hk fun bn w0 _=>⟨by simp,fun o ν a w hle ho ha=>⟨a.eval x,hv ν a (ha x (by simp [Op.operands])),by simp [execOp,ho]⟩⟩
  | extract x i =>
   have h':FB tmps x i k:=h;obtain ⟨v0,h',hv⟩:=cQ h'
   split at h'
   ·rename_i vs;obtain ⟨u,h1,J⟩:=ox h';refine mk rfl u J fun bn w0 _=>⟨by simp,fun o ν a w hle ho ha=>?_⟩
    obtain ⟨ys,he,hy⟩:=au.nC (xs:=vs.toList) (hv ν a (ha x (by simp [Op.operands])))
    obtain ⟨u',h3,h4⟩:=hy.get h1;exact ⟨u',h4,by simp [execOp,ho,he,Instr.extract,h3]⟩
   ·exact h'.elim
  | binOp op t x y ty =>
   have h':CZ E.tt E.eqs tmps op t x y k:=h;obtain ⟨v,hk,hv⟩:=KS hE.ty hE.eq (ty:=ty) h';exact mk rfl v hk fun bn _ _=>hv bn
  | slice t x lo hi mx =>
   obtain ⟨v,hk,hv⟩:=J5 hE.ty h;exact mk rfl v hk hv
  | _=>cases hp
 ·have hv:sC P op tmps H k→∃ v nb,k v nb∧(∀ (o:Oper) (ν:Nu) (a:Act) (w:World) (r:Option Nat) (n:Nat),o.op=op→(∀ x∈op.operands,fh ν tmps a x)→bQ ν H w→ν aK=none →
   ∀ next Q,(∀ v' w' ak,mT ν ak aK w w' v v' nb→next (a.put o.dst v') w')→o.wpIn (WF r) n P a w next Q) ∧
   (lX op=true→nb=none∧∀ (bn:Nu) (w0:World),bQ bn H w0→p8 P bn op tmps v)∧(lY op=true→nb=none∧∀ bn,nK P bn H op tmps v):=fun ⟨v,hk,hv⟩ =>
   ⟨v,none,hk,fun o ν a w r n ho ha hH hn next Q hN=>by
    obtain ⟨u,k1,k2⟩:=(hv ν).2 o ν a w ν.le_refl ho ha hH;exact jy (v':=u) (w':=w) (by rw [ho]; exact (hv ν).1) k2 next Q (hN _ _ ν ⟨ν.le_refl,fun _ _=>rfl,k1,Below.refl _ _,fun _=>rfl,(fun b hb=>by cases hb)⟩),fun h=>absurd h hp,fun _=>⟨rfl,hv⟩⟩
  by_cases hh:lY op=true
  ·cases op with
   | load t x=>exact hv (Nj hE.ty h)
   | indexAddr t x i=>exact hv (J6 hE.ty h)
   | call c =>
    cases hc:c.callee with
    | builtin b =>
     cases b with
     | len =>
      unfold kK at h;simp only [hc] at h
      split at h
      ·rename_i x t hx ht;exact hv (N6 hE.ty hc (Array.ext' hx) (Array.ext' ht) h)
      ·exact h.elim
     | _=>simp [lY,hc] at hh
    | _=>simp [lY,hc] at hh
   | _=>cases hh
  ·obtain ⟨v,nb,hk,hq⟩:=Bg (P:=P) hE h;exact ⟨v,nb,hk,hq,fun h=>absurd h hp,fun h=>absurd h hh⟩
theorem vX:∀ {S:List (Option aj)} {i:Nat} {mask:List Nat} {k:List (Option aj)→Prop},kW S i mask k→∃ S',k S'∧S'.length=S.length∧∀ j b,S'[j]?=some (some b)→S[j]?=some (some b)∧(i+j)∈mask
 | [],i,mask,k,h=>⟨[],by simpa [kW] using h,rfl,fun j b hb=>by simp at hb⟩
 | c::S,i,[],k,h=>by
  obtain ⟨S',h1,J,h3⟩:=vX (S:=S) (i:=i+1) (mask:=[]) (by simpa [kW] using h)
  refine ⟨none::S',h1,by simp [J],fun j b hb=>?_⟩
  cases j with
  | zero=>simp at hb
  | succ j=>have:=h3 j b (by simpa using hb); simp at this
 | c::S,i,m::ms,k,h=>by
  unfold kW at h
  dsimp only at h
  split at h
  ·rename_i e;have e:=Nat.eq_of_beq_eq_true e;obtain ⟨S',h1,J,h3⟩:=vX (S:=S) h;refine ⟨c::S',h1,by simp [J],fun j b hb=>?_⟩
   cases j with
   | zero=>simp at hb; subst hb; exact ⟨by simp,by simp [e]⟩
   | succ j =>
    obtain ⟨k1,k2⟩:=h3 j b (by simpa using hb)
    exact ⟨by simpa using k1,by rw [show i+(j+1)=i+1+j by omega]; simp [k2]⟩
  ·obtain ⟨S',h1,J,h3⟩:=vX (S:=S) h;refine ⟨none::S',h1,by simp [J],fun j b hb=>?_⟩
   cases j with
   | zero=>simp at hb
   | succ j =>
    obtain ⟨k1,k2⟩:=h3 j b (by simpa using hb)
    exact ⟨by simpa using k1,by rw [show i+(j+1)=i+1+j by omega]; exact k2⟩
theorem EO {ops:List Oper} {rs:List c4} {D:Nat→Bool} {t0:List Value} {m:Nat}:bd ops rs D t0 (m+1)=(match D m,bR ops m,rs[m]? with
  | true,some d,some r=>(bd ops rs D t0 m).set d r.v
  | _,_,_=>bd ops rs D t0 m):=rfl
theorem tE {ops:List Oper} {rs b8:List c4} {D:Nat→Bool} {t0:List Value}:∀ {m:Nat},(∀ i,i < m→rs[i]?=b8[i]?)→bd ops rs D t0 m=bd ops b8 D t0 m
 | 0,_=>rfl
 | m+1,h=>by
  unfold bd;rw [h m (by omega),tE (m:=m) (fun i hi=>h i (by omega))]
theorem x5 {ops:List Oper} {rs:List c4} {D D':Nat→Bool} {t0:List Value}:∀ {m:Nat},(∀ i,i < m→D i=D' i)→bd ops rs D t0 m=bd ops rs D' t0 m
 | 0,_=>rfl
 | m+1,h=>by
  unfold bd;rw [h m (by omega),x5 (m:=m) (fun i hi=>h i (by omega))]
theorem wb {ops:List Oper} {rs:List c4} {D:Nat→Bool} {t0:List Value} {j:Nat}:∀ {m:Nat},j≤m→(∀ i,j≤i→i < m→D i=false)→bd ops rs D t0 m=bd ops rs D t0 j
 | 0,h,_=>by rw [Nat.le_zero.1 h]
 | m+1,h,hD=>by
  by_cases e:j=m+1
  ·rw [e]
  ·rw [EO,hD m (by omega) (by omega)]
   exact wb (m:=m) (by omega) (fun i h1 J=>hD i h1 (by omega))
theorem oL.more {P:Program} {ops:List Oper} {t0:List Value} {H:aA} {aU:List (List Nat)} {rs:List c4} {j:Nat} (h:oL P ops t0 H aU rs j) (hj:j < rs.length) (r:c4):oL P ops t0 H aU (rs++[r]) j:=by
 have he:∀ i,i≤j→(rs++[r])[i]?=rs[i]?:=fun i hi=>by rw [List.getElem?_append_left (by omega)]
 have hv:∀ D,bd ops (rs++[r]) D t0 j=bd ops rs D t0 j:=fun D=>tE (fun i hi=>he i (by omega))
 obtain ⟨o,q,h1,J,h3,h4⟩:=h.ok;refine ⟨⟨o,q,h1,by rw [he j (Nat.le_refl _)]; exact J,h3,?_⟩,fun o ho hx hg=>?_⟩
 rotate_left
 ·obtain ⟨r',k1,k2,k3⟩:=h.mv o ho hx hg;obtain ⟨G,g1,g2⟩:=k3;exact ⟨r',by rw [he j (Nat.le_refl _)]; exact k1,k2,G,fun id b hb=>(g1 id b hb).imp (fun x=>x) (fun ⟨i,q1,q2,q3,q4⟩=>⟨i,q1,q2,q3,by rw [he i (by omega)]; exact q4⟩),by rw [hv]; exact g2⟩
 rw [hv];rcases h4 with ⟨G,g1,g2,g3⟩ | h4
 ·exact .inl ⟨G,fun id b hb=>(g1 id b hb).imp (fun x=>x) (fun ⟨i,k1,k2,k3,k4⟩=>⟨i,k1,k2,k3,by rw [he i (by omega)]; exact k4⟩),g2,g3⟩
 ·exact .inr h4
theorem Fg {P:Program} {E:Env} (hE:EnvOk P E) {ops:List Oper} {t0:List Value} {H:aA} {aU:List (List Nat)} {k:List Value→List (Option aj)→Prop} :
  ∀ {l:List Oper} {ms:List (List Nat)} {j:Nat} {rs:List c4},rs.length=j→(∀ (i:Nat) o,l[i]?=some o→ops[j+i]?=some o)→(∀ i,i < l.length→ms.getD i []=aU.getD (j+i) []) →
  (∀ i,i < j→oL P ops t0 H aU rs i)→kX E ops H H.length l ms j (bd ops rs (fun i=>decide (i < j)) t0 j) (rs.map (·.nb)) k →
  ∃ b8:List c4,b8.length=j+l.length∧(∀ i,i < j+l.length→oL P ops t0 H aU b8 i)∧k (bd ops b8 (fun i=>decide (i < j+l.length)) t0 (j+l.length)) (b8.map (·.nb))
 | [],ms,j,rs,hl,_,_,bf,h=>⟨rs,hl,bf,h⟩
 | o::l,[],j,rs,hl,_,_,bf,h=>h.elim
 | o::l,mask::ms,j,rs,hl,ho,hm,bf,h=>by
  have oc:ops[j]?=some o:=by have:=ho 0 o rfl; simpa using this
  have CH:mask=aU.getD j []:=by have:=hm 0 (by simp); simpa using this
  -- the next step, whatever this one's result
  have next:∀ (r:c4) t',(t'=match o.dst with | some d=>(bd ops rs (fun i=>decide (i < j)) t0 j).set d r.v | none=>bd ops rs (fun i=>decide (i < j)) t0 j) →
    (oL P ops t0 H aU (rs++[r]) j)→kX E ops H H.length l ms (j+1) t' (rs.map (·.nb)++[r.nb]) k →
    ∃ b8:List c4,b8.length=j+(o::l).length∧(∀ i,i < j+(o::l).length→oL P ops t0 H aU b8 i)∧k (bd ops b8 (fun i=>decide (i < j+(o::l).length)) t0 (j+(o::l).length)) (b8.map (·.nb)):=by
   intro r t' jt hj h';have hv:bd ops (rs++[r]) (fun i=>decide (i < j+1)) t0 (j+1)=t':=by
    have hr:(rs++[r])[j]?=some r:=by rw [← hl]; simp
    have hd:bR ops j=o.dst:=by simp [bR,oc]
    have ze:bd ops (rs++[r]) (fun i=>decide (i < j+1)) t0 j=bd ops rs (fun i=>decide (i < j)) t0 j:=by
     rw [tE (b8:=rs) (fun i hi=>by rw [List.getElem?_append_left (by omega)])]
     exact x5 (fun i hi=>by simp; omega)
    have H0:decide (j < j+1)=true:=by simp
    rw [jt,EO,hr,hd,ze,H0];cases o.dst <;> rfl
   rw [← hv] at h';have h'':kX E ops H H.length l ms (j+1) (bd ops (rs++[r]) (fun i=>decide (i < j+1)) t0 (j+1)) ((rs++[r]).map (·.nb)) k:=by simpa using h'
   obtain ⟨b8,k1,k2,k3⟩:=Fg hE (l:=l) (ms:=ms) (j:=j+1) (rs:=rs++[r]) (by simp [hl]) (fun i p hp=>by have:=ho (i+1) p (by simpa using hp); rwa [show j+1+i=j+(i+1) by omega])
    (fun i hi=>by have:=hm (i+1) (by simp; omega); rw [show j+1+i=j+(i+1) by omega]; simpa using this)
    (fun i hi=>by
     by_cases e:i=j
     ·subst e; exact hj
     ·exact (bf i (by omega)).more (by omega) r) h''
   have e:j+1+l.length=j+(o::l).length:=by simp; omega
   rw [e] at k1 k2 k3;exact ⟨b8,k1,k2,k3⟩
  have od:∀ r:c4,bd ops (rs++[r]) (fun i=>decide (i < j)) t0 j=bd ops rs (fun i=>decide (i < j)) t0 j:=fun r=>tE (fun i hi=>by rw [List.getElem?_append_left (by omega)])
  have s6:∀ r:c4,(rs++[r])[j]?=some r:=fun r=>by rw [← hl]; simp
  have run:(o.guard=none∨∃ g want d b,o.guard=some (g,want)∧bR ops g=some d∧(bd ops rs (fun i=>decide (i < j)) t0 j)[d]?=some (.bool b)∧(b == want)=true) →
    (kW (rs.map (·.nb)) 0 mask fun Sm=>np H Sm fun G=>kK E o.op (bd ops rs (fun i=>decide (i < j)) t0 j) G (H.length+j) fun v nb=>dm (bd ops rs (fun i=>decide (i < j)) t0 j) o.dst v fun t'=>jk (rs.map (·.nb)) nb fun S'=>kX E ops H H.length l ms (j+1) t' S' k) →
    ∃ b8:List c4,b8.length=j+(o::l).length∧(∀ i,i < j+(o::l).length→oL P ops t0 H aU b8 i)∧k (bd ops b8 (fun i=>decide (i < j+(o::l).length)) t0 (j+(o::l).length)) (b8.map (·.nb)):=by
   intro hg h;obtain ⟨Sm,h1,J,h3⟩:=vX h;have h1:=tS h1;obtain ⟨v,nb,hk,hq,sU⟩:=SH (P:=P) hE h1;have lh:∃ t',(t'=match o.dst with | some d=>(bd ops rs (fun i=>decide (i < j)) t0 j).set d v | none=>bd ops rs (fun i=>decide (i < j)) t0 j)∧(∀ d,o.dst=some d→d < t0.length)∧(jk (rs.map (·.nb)) nb fun S'=>kX E ops H H.length l ms (j+1) t' S' k):=by
    cases hd:o.dst with
    | none=>rw [hd] at hk; exact ⟨_,rfl,(fun d hd=>by cases hd),hk⟩
    | some d =>
     rw [hd] at hk;obtain ⟨k1,k2⟩:=oz hk;rw [rB] at k1;exact ⟨_,rfl,(fun d' cV=>by cases cV; exact k1),k2⟩
   obtain ⟨t',e1,e2,e3⟩:=lh;refine next ⟨v,nb,true⟩ t' e1 ⟨⟨o,⟨v,nb,true⟩,oc,s6 _,e2,.inl ⟨H++Sm,fun id b hb=>?_,?_,?_⟩⟩,fun p hp hx Qs=>?_⟩ (tI e3)
   rotate_right
   ·rw [oc] at hp; cases hp;have k1:nb=none:=by
     rcases Bool.or_eq_true_iff.1 hx with hx | hx
     ·exact (sU.1 hx).1
     ·exact (sU.2 hx).1
    refine ⟨_,s6 _,k1,H++Sm,fun id b hb=>?_,fun hx=>by rw [od]; exact (sU.1 hx).2,fun hx=>by rw [od]; exact (sU.2 hx).2⟩
    rw [List.getElem?_append] at hb
    split at hb
    ·exact .inl ⟨by assumption,hb⟩
    ·rename_i dH;obtain ⟨q1,q2⟩:=h3 _ b hb;have al:id - H.length < rs.length:=by
      have:=(List.getElem?_eq_some_iff.1 q1).1
      simpa using this
     refine .inr ⟨id - H.length,by omega,by omega,by rw [← CH]; simpa using q2,?_⟩
     rw [List.getElem?_append_left al];rw [List.getElem?_map] at q1;cases hr:rs[id - H.length]? with
     | none=>rw [hr] at q1; cases q1
     | some r=>rw [hr] at q1; simpa using q1
   ·rw [List.getElem?_append] at hb
    split at hb
    ·exact .inl ⟨by assumption,hb⟩
    ·rename_i dH;obtain ⟨q1,q2⟩:=h3 _ b hb;have al:id - H.length < rs.length:=by
      have:=(List.getElem?_eq_some_iff.1 q1).1
      simpa using this
     refine .inr ⟨id - H.length,by omega,by omega,by rw [← CH]; simpa using q2,?_⟩
     rw [List.getElem?_append_left al];rw [List.getElem?_map] at q1;cases hr:rs[id - H.length]? with
     | none=>rw [hr] at q1; cases q1
     | some r=>rw [hr] at q1; simpa using q1
   ·rw [od];exact fun ν a w q n ha hH hn next Q hN=>hq o ν a w q n rfl ha hH hn next Q hN
   ·rw [od]; exact hg
  have skip:(∃ g want d v,o.guard=some (g,want)∧bR ops g=some d∧(bd ops rs (fun i=>decide (i < j)) t0 j)[d]?=some v∧((∃ b,v=.bool b∧(b == want)=false)∨∃ vs,v=.tuple vs)) →
    (dm (bd ops rs (fun i=>decide (i < j)) t0 j) o.dst undef fun t'=>jk (rs.map (·.nb)) none fun S'=>kX E ops H H.length l ms (j+1) t' S' k) →
    ∃ b8:List c4,b8.length=j+(o::l).length∧(∀ i,i < j+(o::l).length→oL P ops t0 H aU b8 i)∧k (bd ops b8 (fun i=>decide (i < j+(o::l).length)) t0 (j+(o::l).length)) (b8.map (·.nb)):=by
   intro hg hk;have lh:∃ t',(t'=match o.dst with | some d=>(bd ops rs (fun i=>decide (i < j)) t0 j).set d undef | none=>bd ops rs (fun i=>decide (i < j)) t0 j)∧(∀ d,o.dst=some d→d < t0.length)∧(jk (rs.map (·.nb)) none fun S'=>kX E ops H H.length l ms (j+1) t' S' k):=by
    cases hd:o.dst with
    | none=>rw [hd] at hk; exact ⟨_,rfl,(fun d hd=>by cases hd),hk⟩
    | some d =>
     rw [hd] at hk;obtain ⟨k1,k2⟩:=oz hk;rw [rB] at k1;exact ⟨_,rfl,(fun d' cV=>by cases cV; exact k1),k2⟩
   obtain ⟨t',e1,e2,e3⟩:=lh;refine next ⟨undef,none,false⟩ t' e1 ⟨⟨o,⟨undef,none,false⟩,oc,s6 _,e2,.inr ⟨rfl,rfl,by rw [od]; exact hg⟩⟩,fun p hp hx Qs=>?_⟩ (tI e3)
   rw [oc] at hp; cases hp;obtain ⟨g,want,d,v,k1,_⟩:=hg;rw [Qs] at k1; cases k1
  unfold kX at h
  split at h
  ·exact run (.inl (by assumption)) h
  ·rename_i g want hg
   split at h
   ·rename_i d hd;obtain ⟨v,hv,h⟩:=ox h
    split at h
    ·rename_i b;cases hb:(b == want) with
     | true=>exact run (.inr ⟨g,want,d,b,hg,hd,hv,hb⟩) (BP h hb)
     | false=>exact skip ⟨g,want,d,_,hg,hd,hv,.inl ⟨b,rfl,hb⟩⟩ (Bw h hb)
    ·exact skip ⟨g,want,d,_,hg,hd,hv,.inr ⟨_,rfl⟩⟩ h
    ·exact h.elim
   ·exact h.elim
open Go Go.RowKit
structure Order (ops:List Oper) (aU:List (List Nat)):Prop where
 mask:∀ j o,ops[j]?=some o→∀ i∈aU.getD j [],i < j∧∃ e∈o.after,Region.binds .any e=true∧(e.on=i∨(i∈aU.getD e.on []∧e.on < j))
 back:∀ j o,ops[j]?=some o→∀ e∈o.after,Region.binds .any e=true→e.on < j
structure ZC (ops:List Oper) (m:Nat) (aU:List (List Nat)):Prop extends Order ops aU where
 le:m≤ops.length
 apart:∀ j o i p d,j < m→i < m→i≠j→ops[j]?=some o→ops[i]?=some p→p.dst=some d→o.dst≠some d∧(d ∉ jb ops o∨i∈aU.getD j []∨j∈aU.getD i [])
 tail:∀ j,j < ops.length→m≤j→∀ i,i < j→i∈aU.getD j []
theorem Kz {ops:List Oper} {m:Nat} {aU:List (List Nat)} (h:Cn ops m aU=true):ZC ops m aU:=by
 unfold Cn at h;simp only [Bool.and_eq_true,decide_eq_true_eq] at h;obtain ⟨⟨⟨⟨h1,J⟩,h3⟩,h4⟩,h5⟩:=h;have lt:∀ {j:Nat} {o:Oper},ops[j]?=some o→j∈List.range ops.length:=fun hj=>List.mem_range.2 (List.getElem?_eq_some_iff.1 hj).1
 refine ⟨⟨fun j o hj i hi=>?_,fun j o hj e he hb=>?_⟩,h1,fun j o i p d hj hi aI ho hp hd=>?_,fun j hj hm i hi=>?_⟩
 ·unfold BU at J;have:=List.all_eq_true.1 J j (lt hj);rw [hj] at this;have:=List.all_eq_true.1 this i hi;simp only [Bool.and_eq_true,decide_eq_true_eq,List.any_eq_true,Bool.or_eq_true,beq_iff_eq,List.contains_iff_mem] at this;obtain ⟨k1,e,k2,k3,k4⟩:=this;exact ⟨k1,e,by simpa using k2,k3,k4⟩
 ·have:=List.all_eq_true.1 h3 j (lt hj);rw [hj] at this;have:=List.all_eq_true.1 this e (by simpa using he)
  simp only [hb,Bool.not_true,Bool.false_or,decide_eq_true_eq] at this;exact this
 ·have:=List.all_eq_true.1 h4 j (List.mem_range.2 hj);rw [ho] at this;have:=List.all_eq_true.1 this i (List.mem_range.2 hi);rw [hp] at this;have hb:(i == j)=false:=by simp [aI]
  rw [hb,Bool.false_or] at this
  dsimp only at this
  rw [hd] at this;simp only [Bool.and_eq_true,bne_iff_ne,Bool.or_eq_true,Bool.not_eq_true',List.contains_iff_mem,or_assoc] at this;refine ⟨this.1,this.2.imp (fun k=>?_) (fun k=>k)⟩
  intro gB;rw [List.contains_iff_mem.2 gB] at k;cases k
 ·have:=List.all_eq_true.1 h5 j (List.mem_range.2 hj);simp only [Bool.or_eq_true,decide_eq_true_eq,List.all_eq_true,List.mem_range,List.contains_iff_mem] at this;rcases this with h | h
  ·omega
  ·exact h i hi
def DB (aF:Array Bool):Nat→Bool:=fun i=>aF.getD i false
theorem Co {aF:Array Bool} {j:Nat} (hj:j < aF.size) (i:Nat):DB (aF.setIfInBounds j true) i=(DB aF i || i == j):=by
 unfold DB;by_cases e:j=i
 ·subst e; simp [hj]
 ·rw [getD_set_ne false e];have:(i == j)=false:=by simp; exact fun h=>e h.symm
  rw [this,Bool.or_false]
theorem tZ {aF:Array Bool} {i:Nat} (hi:i < aF.size) (d:Bool):aF.getD i d=DB aF i:=by
 unfold DB; simp [hi]
def oM (ops:List Oper) (D:Nat→Bool):Prop:=∀ j o,D j=true→ops[j]?=some o→∀ e∈o.after,Region.binds .any e=true→D e.on=true
theorem tF {ops:List Oper} {aU:List (List Nat)} (hc:Order ops aU) {D:Nat→Bool} (hD:oM ops D):∀ (j:Nat) o,ops[j]?=some o→(∀ e∈o.after,Region.binds .any e=true→D e.on=true)→∀ i∈aU.getD j [],D i=true:=by
 intro j
 induction j using Nat.strongRecOn with
 | _ j ih =>
  intro o ho he i hi;obtain ⟨_,e,h1,J,h3⟩:=hc.mask j o ho i hi;rcases h3 with rfl | ⟨h3,h4⟩
  ·exact he e h1 J
  ·have ke:=he e h1 J;cases oe:ops[e.on]? with
   | none=>rw [List.getElem?_eq_none_iff] at oe; have:=(List.getElem?_eq_some_iff.1 ho).1; omega
   | some p=>exact ih e.on h4 p oe (hD e.on p ke oe) i h3
def gp (D:Nat→Bool) (n:Nat):Nat:=((List.range n).filter fun i=>!D i).length
theorem AW (D:Nat→Bool) (n:Nat):gp D (n+1)=gp D n+if D n then 0 else 1:=by
 unfold gp;rw [List.range_succ,List.filter_append,List.length_append];cases hd:D n <;> simp [hd]
theorem A9 {D D':Nat→Bool} {j:Nat} (h:∀ i,D' i=(D i || i == j)) (hj:D j=false):∀ n,gp D' n+(if j < n then 1 else 0)=gp D n
 | 0=>by simp [gp]
 | n+1=>by
  have ih:=A9 h hj n;rw [AW,AW,h n];by_cases e:n=j
  ·subst e;simp only [Nat.lt_irrefl,if_false,Nat.add_zero] at ih;rw [hj]; simp; omega
  ·have:(n == j)=false:=by simp [e]
   rw [this,Bool.or_false];by_cases al:j < n
   ·have e1:(if j < n+1 then 1 else 0)=1:=if_pos (by omega)
    rw [if_pos al] at ih; rw [e1]; generalize (if D n=true then 0 else 1)=z; omega
   ·have e1:(if j < n+1 then 1 else 0)=0:=if_neg (by omega)
    rw [if_neg al] at ih; rw [e1]; generalize (if D n=true then 0 else 1)=z; omega
theorem EP {D:Nat→Bool} {n i:Nat} (hi:i < n) (hD:D i=false):0 < gp D n:=by
 unfold gp;exact List.length_pos_of_mem (List.mem_filter.2 ⟨List.mem_range.2 hi,by simp [hD]⟩)
theorem AL {ops:List Oper} {o:Oper} {g:Nat} {want:Bool} {d:Tmp} (hg:o.guard=some (g,want)) (hd:bR ops g=some d):d∈jb ops o:=by
 have cV:(ops[g]?).bind (fun x=>x.dst)=some d:=hd
 unfold jb;refine List.mem_append_right _ ?_;rw [hg]
 dsimp only
 rw [cV];simp
section
variable {P:Program} {E:Env} {r:Option Nat} {n:Nat} {F:Fr} {ops:Array Oper} {Q:Exit→Act→World→Prop} {m:Nat} {aU:List (List Nat)} {k:SK}
theorem AX (hc:Order ops.toList aU) {aF:Array Bool} (hs:aF.size=ops.size) {j:Nat} (hj:j < ops.size) (h0:DB aF j=false) (h1:∀ i,i < j→DB aF i=true):j∈Region.ready .any ops aF:=by
 rw [mem_ready];refine ⟨by rw [tZ (by omega)]; exact h0,ops[j],Array.getElem?_eq_getElem hj,fun e he hb=>?_⟩
 exact h1 _ (hc.back j ops[j] (by simp [hj]) e he hb)
theorem Fh (hE:jJ P E) (bM:kL F E) (hc:Order ops.toList aU) (ab2:∀ j,j < ops.toList.length→m≤j→∀ i,i < j→i∈aU.getD j []) (hk:∀ ν t' H' a' w',bw F ν t' H' a' w'→k t' H'→Q .normal a' w') :
  ∀ (fuel:Nat) (aF:Array Bool) (j0:Nat) (ν:Nu) (t:List Value) (H:aA) (a:Act) (w:World),aF.size=ops.size→(∀ i,DB aF i=decide (i < j0))→m≤j0→j0≤ops.size →
  bw F ν t H a w→m8 E ops.toList (ops.toList.drop j0) t H k→ops.size≤j0+fuel→wpAnyIn (WF r) n P .any ops Q fuel aF a w:=by
 intro fuel
 induction fuel with
 | zero =>
  intro aF j0 ν t H a w hs hD hm hle hi h hf;have e:j0=ops.size:=by omega
  subst e;rw [List.drop_eq_nil_of_le (by simp)] at h
  refine ⟨?_,hk _ _ _ _ _ hi h⟩;rw [List.eq_nil_iff_forall_not_mem];intro j hj;rw [mem_ready] at hj;obtain ⟨h1,o,ho,_⟩:=hj;have al:j < ops.size:=(Array.getElem?_eq_some_iff.1 ho).1;rw [tZ (by omega),hD j] at h1
  simp at h1; omega
 | succ fuel ih =>
  intro aF j0 ν t H a w hs hD hm hle hi h hf;by_cases e:j0=ops.size
  ·subst e;rw [List.drop_eq_nil_of_le (by simp)] at h
   refine ⟨fun _=>hk _ _ _ _ _ hi h,fun j hj=>?_⟩
   rw [mem_ready] at hj;obtain ⟨h1,o,ho,_⟩:=hj;have al:j < ops.size:=(Array.getElem?_eq_some_iff.1 ho).1;rw [tZ (by omega),hD j] at h1
   simp at h1; omega
  ·have al:j0 < ops.size:=by omega
   have hr:=AX hc hs al (by rw [hD]; simp) (fun i hi=>by rw [hD]; simpa using hi)
   refine ⟨fun hn=>?_,fun j hj=>?_⟩
   ·rw [hn] at hr; cases hr
   ·rw [mem_ready] at hj;obtain ⟨h1,o,ho,he⟩:=hj;have nq:j < ops.size:=(Array.getElem?_eq_some_iff.1 ho).1;rw [tZ (by omega),hD j] at h1
    have dH:j0≤j:=by simpa using h1
    have fV:ops.toList[j]?=some o:=by simpa using ho
    have kj:j=j0:=by
     rcases Nat.lt_or_ge j0 j with qD | aet
     ·have gB:=ab2 j (by simpa using nq) (by omega) j0 qD
      have eX:oM ops.toList (DB aF):=fun i p aR hp e' fY bA=>by
       rw [hD] at aR ⊢;have:=hc.back i p hp e' fY bA;simp at aR ⊢; omega
      have:=tF hc eX j o fV (fun e' fY bA=>he e' fY bA) j0 gB
      rw [hD] at this; simp at this
     ·omega
    subst kj;have Ho:ops.toList.drop j=o::ops.toList.drop (j+1):=by
     rw [List.drop_eq_getElem_cons (by simpa using nq)]
     congr 1
     have:=List.getElem?_eq_getElem (l:=ops.toList) (i:=j) (by simpa using nq)
     rw [fV] at this; exact (Option.some.inj this).symm
    rw [Ho] at h;unfold wpOpIn;rw [ho];refine EN hE bM hi (LK h) (fun ν t' H' a' w' aR h'=>?_)
    refine ih _ (j+1) ν t' H' a' w' (by simp [hs]) (fun i=>?_) (by omega) (by omega) aR h' (by omega)
    rw [Co (by omega),hD i]
    by_cases e':i=j
    ·subst e'; simp
    ·have:(i == j)=false:=by simp [e']
     rw [this,Bool.or_false];simp; omega
theorem Ee {D:Nat→Bool} {m:Nat} (hD:∀ i,D i=decide (i < m)):∀ q,m≤q→gp D q=q - m:=by
 intro q
 induction q with
 | zero=>intro h; simp [gp]
 | succ q ihq =>
  intro h;rw [AW,hD q];by_cases e:m=q+1
  ·subst e;have:∀ q',q'≤q+1→gp D q'=0:=by
    intro q'
    induction q' with
    | zero=>intro _; simp [gp]
    | succ q' ih'=>intro h'; rw [AW,ih' (by omega),hD q']; simp; omega
   rw [this q (by omega)]; simp
  ·rw [ihq (by omega)]
   have:¬ (q < m):=by omega
   simp [this]; omega
theorem Em {D:Nat→Bool} {i:Nat} (h:D i=false):∃ j,j≤i∧D j=false∧∀ q,q < j→D q=true:=by
 induction i using Nat.strongRecOn with
 | _ i ihi =>
  by_cases cS:∀ j,j < i→D j=true
  ·exact ⟨i,Nat.le_refl _,h,cS⟩
  ·have:∃ j,j < i∧D j=false:=by
    refine Classical.byContradiction fun aI=>cS fun j hj=>?_
    cases hd:D j with
    | true=>rfl
    | false=>exact absurd ⟨j,hj,hd⟩ aI
   obtain ⟨j,h3,h4⟩:=this;obtain ⟨q,k1,k2,k3⟩:=ihi j h3 h4;exact ⟨q,by omega,k2,k3⟩
theorem LO (hc:Order ops.toList aU) (uA:m≤ops.size)
  (yK:∀ j o i p d,j < m→i < m→i≠j→ops.toList[j]?=some o→ops.toList[i]?=some p→p.dst=some d→o.dst≠some d∧(d ∉ jb ops.toList o∨i∈aU.getD j []∨j∈aU.getD i []))
  {fl:List Nat} (CI:∀ j,j < ops.size→m≤j→∀ i,i < m→i ∉ fl→i∈aU.getD j [])
  {t0:List Value} {H:aA} {rs:List c4} (hh:∀ i,i < m→oL P ops.toList t0 H aU rs i)
  (o4:∀ (fuel:Nat) (aF:Array Bool) (ν:Nu) (a:Act) (w:World),aF.size=ops.size→oM ops.toList (DB aF)→(∀ i,DB aF i=true→i < m)→(∀ i,i < m→i ∉ fl→DB aF i=true) →
   bw F ν (bd ops.toList rs (DB aF) t0 m) (H++ky rs (DB aF) m) a w→gp (DB aF) ops.size≤fuel→wpAnyIn (WF r) n P .any ops Q fuel aF a w) :
  ∀ (fuel:Nat) (aF:Array Bool) (ν:Nu) (a:Act) (w:World),aF.size=ops.size→oM ops.toList (DB aF)→(∀ i,DB aF i=true→i < m) →
  bw F ν (bd ops.toList rs (DB aF) t0 m) (H++ky rs (DB aF) m) a w→(∀ i,i < m→DB aF i=false→ν (H.length+i)=none)→gp (DB aF) ops.size≤fuel →
  wpAnyIn (WF r) n P .any ops Q fuel aF a w:=by
 have lh:∀ i d,i < m→bR ops.toList i=some d→d < t0.length:=by
  intro i d hi hd;obtain ⟨o,q,h1,J,h3,_⟩:=(hh i hi).ok;unfold bR at hd;rw [h1] at hd;exact h3 d hd
 have pk:xi ops.toList m:=by
  intro i j d hi hj h1 J;rcases Nat.decEq i j with aI | he
  ·obtain ⟨o,q,k1,_⟩:=(hh i hi).ok;obtain ⟨p,q',k2,_⟩:=(hh j hj).ok;unfold bR at h1 J;rw [k1] at h1; rw [k2] at J;exact absurd h1 (yK i o j p d hi hj (Ne.symm aI) k1 k2 J).1
  ·exact he
 intro fuel
 induction fuel with
 | zero =>
  intro aF ν a w hs eX al hi gi hu;have cS:∀ i,i < ops.size→DB aF i=true:=fun i aR=>by
   cases hd:DB aF i with
   | true=>rfl
   | false=>have:=EP aR hd; omega
  exact o4 0 aF ν a w hs eX al (fun i aR _=>cS i (by omega)) hi hu
 | succ fuel ih =>
  intro aF ν a w hs eX al hi gi hu;by_cases oU:∀ i,i < m→i ∉ fl→DB aF i=true
  ·exact o4 (fuel+1) aF ν a w hs eX al oU hi hu
  ·-- something of the head has not gone: the least such one may go
   have hex:∃ i,i < m∧i ∉ fl∧DB aF i=false:=by
    refine Classical.byContradiction fun aI=>oU fun i aR hf=>?_
    cases hd:DB aF i with
    | true=>rfl
    | false=>exact absurd ⟨i,aR,hf,hd⟩ aI
   obtain ⟨i1,DD,I6,fZ⟩:=hex;obtain ⟨i0,Pu,fu,iX⟩:=Em fZ;have fN:i0 < m:=by omega
   have hr:=AX hc hs (by omega:i0 < ops.size) fu iX
   refine ⟨(fun hn=>by rw [hn] at hr; cases hr),fun j hj=>?_⟩
   rw [mem_ready] at hj;obtain ⟨h1,o,ho,he⟩:=hj;have nq:j < ops.size:=(Array.getElem?_eq_some_iff.1 ho).1;rw [tZ (by omega)] at h1
   have fV:ops.toList[j]?=some o:=by simpa using ho
   have lK:=tF hc eX j o fV (fun e' fY bA=>he e' fY bA)
   have mA:j < m:=by
    rcases Nat.lt_or_ge j m with h | h
    ·exact h
    ·have:=lK i1 (CI j nq h i1 DD I6);rw [fZ] at this; cases this
   obtain ⟨o',q,g1,g2,g3,g4⟩:=(hh j mA).ok;rw [fV] at g1; cases g1;have I7:bR ops.toList j=o.dst:=by simp [bR,fV]
   -- what it reads stands as the text's order has it
   have Hp:∀ d,d∈jb ops.toList o→(bd ops.toList rs (DB aF) t0 m)[d]?=(bd ops.toList rs (fun i=>decide (i < j)) t0 j)[d]?:=by
    intro d hd;rw [← wb (j:=j) (m:=m) (by omega) (fun i h1 J=>by simp; omega)]
    refine yh pk lh (fun i aR fO=>?_)
    by_cases e:i=j
    ·subst e; rw [h1]; simp
    ·obtain ⟨p,q',k1,_⟩:=(hh i aR).ok;have I8:p.dst=some d:=by unfold bR at fO; rw [k1] at fO; exact fO
     rcases (yK j o i p d mA aR e fV k1 I8).2 with h | h | h
     ·exact absurd hd h
     ·rw [lK i h];have:=(hc.mask j o fV i h).1;simp [this]
     ·have hji:=(hc.mask i p k1 j h).1;have:DB aF i=false:=by
       cases cV:DB aF i with
       | false=>rfl
       | true =>
        have:=tF hc eX i p k1 (eX i p cV k1) j h;rw [h1] at this; cases this
      rw [this]; simp; omega
   have c6:∀ i,DB (aF.setIfInBounds j true) i=(DB aF i || i == j):=fun i=>Co (by omega) i
   have xB:oM ops.toList (DB (aF.setIfInBounds j true)):=by
    intro i p aR hp e' fY bA;rw [c6] at aR ⊢;by_cases e:i=j
    ·subst e;rw [fV] at hp; cases hp;have:DB aF e'.on=true:=he e' fY bA;rw [this]; rfl
    ·have e2:(i == j)=false:=by simp [e]
     rw [e2,Bool.or_false] at aR;rw [eX i p aR hp e' fY bA]; rfl
   have qD:∀ i,DB (aF.setIfInBounds j true) i=true→i < m:=fun i aR=>by
    rw [c6] at aR;by_cases e:i=j
    ·subst e; exact mA
    ·have e2:(i == j)=false:=by simp [e]
     rw [e2,Bool.or_false] at aR;exact al i aR
   have sT:gp (DB (aF.setIfInBounds j true)) ops.size≤fuel:=by
    have:=A9 c6 h1 ops.size;rw [if_pos nq] at this; omega
   have uF:=K3 (D:=DB aF) (D':=DB (aF.setIfInBounds j true)) pk lh mA h1 c6 g2;rw [I7] at uF;have fm:∀ (id:Nat) (c:aj),(H++ky rs (DB (aF.setIfInBounds j true)) m)[id]?=some (some c) ↔
     (H++ky rs (DB aF) m)[id]?=some (some c)∨(id=H.length+j∧q.nb=some c):=by
    intro id c;by_cases bm:id < H.length
    ·rw [List.getElem?_append_left bm,List.getElem?_append_left bm];constructor
     ·exact .inl
     ·rintro (h | ⟨h,_⟩)
      ·exact h
      ·omega
    ·rw [List.getElem?_append_right (by omega),List.getElem?_append_right (by omega),rE,rE]
     constructor
     ·rintro ⟨k1,k2,k3⟩
      rw [c6] at k2;by_cases e:id - H.length=j
      ·refine .inr ⟨by omega,?_⟩
       rw [e,g2] at k3; exact k3
      ·have e2:(id - H.length == j)=false:=by simp [e]
       rw [e2,Bool.or_false] at k2;exact .inl ⟨k1,k2,k3⟩
     ·rintro (⟨k1,k2,k3⟩ | ⟨k1,k2⟩)
      ·exact ⟨k1,by rw [c6,k2]; rfl,k3⟩
      ·have e:id - H.length=j:=by omega
       rw [e];exact ⟨mA,by rw [c6]; simp,by rw [g2]; exact k2⟩
   have mU:ν (H.length+j)=none:=gi j mA h1;have Hq:(H++ky rs (DB aF) m).length=H.length+m:=by rw [List.length_append,Kb]
   have GP:(H++ky rs (DB (aF.setIfInBounds j true)) m).length=H.length+m:=by rw [List.length_append,Kb]
   -- the state behind it
   have after:∀ v' w' ak,mT ν ak (H.length+j) w w' q.v v' q.nb→wpAnyIn (WF r) n P .any ops Q fuel (aF.setIfInBounds j true) (a.put o.dst v') w':=by
    intro v' w' ak hp;have hb:=hp.below;refine ih _ ak _ w' (by simp [hs]) xB qD ⟨?_,?_,?_,fun id bm=>?_,hi.kp.below hb,fun id c lc cD n7 dG=>?_,Nu.le_trans hi.mono hp.le⟩ (fun i aR cV=>?_) sT
    ·rw [uF];cases hd:o.dst with
     | none=>exact hi.tm.mono hp.le
     | some d=>rw [rJ]; exact (hi.tm.mono hp.le).set hp.val d
    ·cases o.dst <;> exact hi.df.below hb
    ·cases bX:q.nb with
     | none =>
      have:=hp.zO bX;subst this;refine (hi.hp.below hb).rX (fun id c cD=>?_)
      rcases (fm id c).1 cD with h | ⟨_,h⟩
      ·exact h
      ·rw [bX] at h; cases h
     | some b =>
      obtain ⟨l,hl,hB,hle⟩:=hp.gR b bX;have kF:ak=ν.add (H.length+j) l:=by
       funext id
       by_cases e:id=H.length+j
       ·subst e; rw [hl,Nu.add_same]
       ·rw [hp.only id e,Nu.iM e]
      subst kF;refine hi.hp.push hb mU _ (fun id c cD=>?_) hle hB
      rcases (fm id c).1 cD with h | ⟨h3,h4⟩
      ·by_cases e:id=H.length+j
       ·obtain ⟨l',cC,_⟩:=hi.hp.aJ id c h;rw [e,mU] at cC; cases cC
       ·exact .inr ⟨e,h⟩
      ·rw [bX] at h4; cases h4;exact .inl ⟨h3,rfl⟩
    ·rw [GP] at bm;rw [hp.only id (by omega)]
     exact hi.fr id (by rw [Hq]; exact bm)
    ·rcases (fm id c).1 cD with h | ⟨h3,h4⟩
     ·have aI:id≠H.length+j:=fun e=>by
       obtain ⟨l',cC,_⟩:=hi.hp.aJ id c h;rw [e,mU] at cC; cases cC
      rw [hp.only id aI] at dG;exact hi.own id c lc h n7 dG
     ·obtain ⟨l,hl,_,hle⟩:=hp.gR c h4;rw [h3,hl] at dG; cases dG;exact .inr (Nat.le_trans hi.kp.size hle)
    ·have aI:i≠j:=fun e=>by subst e; rw [c6] at cV; simp at cV
     rw [hp.only _ (by omega)]
     refine gi i aR ?_;rw [c6] at cV;simp only [Bool.or_eq_false_iff] at cV;exact cV.1
   unfold wpOpIn;rw [ho]
   dsimp only
   have fp:∀ d,d∈jb ops.toList o→∀ v,(bd ops.toList rs (fun i=>decide (i < j)) t0 j)[d]?=some v→∃ v',a.tmps[d]?=some v'∧au ν v v':=by
    intro d hd v hv;rw [← Hp d hd] at hv;obtain ⟨v',k1,k2⟩:=hi.tm.get hv;exact ⟨v',by simpa using k1,k2⟩
   rcases g4 with ⟨G,q1,q2,q3⟩ | ⟨q1,q2,g,want,d,v,q3,q4,q5,q6⟩
   ·have hw:Region.wanted o (yielded ops a.tmps)=true:=by
     rcases q3 with hg | ⟨g,want,d,b,hg,hd,hv,hb⟩
     ·simp [Region.wanted,hg]
     ·obtain ⟨v',k1,k2⟩:=fp d (AL hg hd) _ hv;rw [k2.jV] at k1;have hy:=yf (ops:=ops) (tmps:=a.tmps) (j:=g) (d:=d) (by simpa [bR] using hd)
      rw [k1] at hy;simp only [Region.wanted,hg,hy];rw [← hb];cases b <;> cases want <;> rfl
    rw [if_pos hw];refine q2 ν a w r n (fun x hx t ht v hv=>fp t ?_ v hv) (hi.hp.rX fun id b hb=>?_) mU _ Q after
    ·unfold jb;exact List.mem_append_left _ (pI (by rw [ht] at hx; simpa using hx))
    ·rcases q1 id b hb with ⟨h3,h4⟩ | ⟨i,h3,h4,h5,h6⟩
     ·rw [List.getElem?_append_left h3]; exact h4
     ·subst h3;rw [List.getElem?_append_right (by omega)]
      rw [show H.length+i - H.length=i by omega,rE]
      exact ⟨by omega,lK i h5,h6⟩
   ·have hw:Region.wanted o (yielded ops a.tmps)=false:=by
     obtain ⟨v',k1,k2⟩:=fp d (AL q3 q4) _ q5;have hy:=yf (ops:=ops) (tmps:=a.tmps) (j:=g) (d:=d) (by simpa [bR] using q4)
     rw [k1] at hy;rcases q6 with ⟨b,rfl,hb⟩ | ⟨vs,rfl⟩
     ·rw [k2.jV] at hy;simp only [Region.wanted,q3,hy];rw [← hb];cases b <;> cases want <;> rfl
     ·obtain ⟨ys,rfl,_⟩:=au.nC (xs:=vs.toList) k2;simp only [Region.wanted,q3,hy]
      rfl
    rw [if_neg (by rw [hw]; simp)]
    refine ⟨fun _ _=>trivial,after undef w ν ⟨ν.le_refl,fun _ _=>rfl,by rw [q1]; exact .undef ν,Below.refl _ _,fun _=>rfl,(fun b hb=>by rw [q2] at hb; cases hb)⟩⟩
theorem Vd (hm:P.follows .mixedOrders=true):nj P OO:=by
 intro E hE r n F bM ops Q id ν tmps H a w k hi h hk;obtain ⟨m,aU,bf,h⟩:=h;have h:=lU h;obtain ⟨Pv,h⟩:=yg h;have hc:=Kz bf;obtain ⟨rs,iI,j3,gg⟩:=Fg (P:=P) hE.toEnvOk (ops:=ops.toList) (t0:=tmps) (H:=H) (aU:=aU) (l:=ops.toList.take m) (ms:=aU) (j:=0) (rs:=[]) rfl
  (fun i o ho=>by
   rw [List.getElem?_take] at ho
   split at ho
   ·simpa using ho
   ·cases ho)
  (fun i _=>by simp) (fun i hi=>by omega) h
 have gg:=tS gg;have hlen:0+(ops.toList.take m).length=m:=by rw [List.length_take]; omega
 rw [hlen] at iI j3 gg;refine wpIn_region_any hm ?_;have hD:DB (Array.replicate ops.size false)=fun _=>false:=by
  funext i
  unfold DB;by_cases h:i < ops.size <;> simp [h]
 refine LO (F:=F) (fl:=[]) hc.toOrder (by have:=hc.le; simpa using this) hc.apart (fun j hj hm i hi _=>hc.tail j (by simpa using hj) hm i (by omega)) j3 ?_ ops.size _ ν a _ (by simp) (fun j o hj=>by rw [hD] at hj; cases hj) (fun i aR=>by rw [hD] at aR; cases aR) ?_ (fun i _ _=>hi.fr _ (by omega)) ?_
 ·intro fuel aF ν a w hs eX al cS hi hu;have hle:m≤ops.size:=by have:=hc.le; simpa using this
  have hD:∀ i,DB aF i=decide (i < m):=fun i=>by
   by_cases h:i < m
   ·rw [cS i h (by simp)]; simp [h]
   ·cases hd:DB aF i with
    | true=>exact absurd (al i hd) h
    | false=>simp [h]
  have e1:bd ops.toList rs (DB aF) tmps m=bd ops.toList rs (fun i=>decide (i < m)) tmps m:=x5 (fun i _=>hD i)
  have e2:ky rs (DB aF) m=rs.map (·.nb):=by
   unfold ky;apply List.ext_getElem?;intro i;rw [List.getElem?_map,List.getElem?_map];by_cases h:i < m
   ·rw [List.getElem?_range h,List.getElem?_eq_getElem (by omega:i < rs.length)]
    simp only [Option.map_some,hD i,h,decide_true,if_true];rw [List.getElem?_eq_getElem (by omega:i < rs.length)]; rfl
   ·rw [List.getElem?_eq_none (by simp; omega),List.getElem?_eq_none (by omega)]; rfl
  rw [e1,e2] at hi;exact Fh hE bM hc.toOrder hc.tail hk fuel aF m ν _ _ a w hs hD (Nat.le_refl _) hle hi gg (by
   have:=Ee hD ops.size hle; omega)
 ·rw [hD];have e1:bd ops.toList rs (fun _=>false) tmps m=tmps:=wb (j:=0) (by omega) (fun _ _ _=>rfl)
  rw [e1];have kz:Below w.heap.size w { w with drawn:=w.drawn+1 }:=⟨rfl,rfl,rfl,Nat.le_refl _,fun _ _=>rfl⟩
  refine ⟨hi.tm,hi.df.below kz,(hi.hp.below kz).rX (fun id c cD=>?_),fun id bm=>hi.fr id (by rw [List.length_append] at bm; omega),hi.kp.below kz,fun id c lc cD n7 dG=>?_,hi.mono⟩
  ·rw [List.getElem?_append] at cD
   split at cD
   ·exact cD
   ·have:=(rE.1 cD).2.1; cases this
  ·rw [List.getElem?_append] at cD
   split at cD
   ·exact hi.own id c lc cD n7 dG
   ·have:=(rE.1 cD).2.1; cases this
 ·unfold gp;have:=List.length_filter_le (fun i=>!DB (Array.replicate ops.size false) i) (List.range ops.size)
  simpa using this
end
open Go Go.RowKit
def H6 (E:Env) (o:Oper) (t:List Value) (H:aA) (k:SK):Prop :=
 match o.op with
 | .store ty x y=>Cl E t H ty x y fun t' H'=>dm t' o.dst undef fun vi=>k vi H'
 | .call c=>match c.callee with
  | .builtin .append=>match c.args.toList,c.argTypes.toList with
   | [x,y],[ty,ty']=>match Nat.beq ty ty' with
    | true=>bU t x fun xv=>bU t y fun yv=>match Bz xv with
     | true=>Gf E [] H ty xv yv fun v _ H'=>dm t o.dst v fun t'=>k t' H'
     | false=>False
    | false=>False
   | _,_=>False
  | .builtin .copy=>match c.args.toList,c.argTypes.toList with
   | [x,y],[ty,_]=>bU t x fun xv=>bU t y fun yv=>Gg E H ty xv yv fun v H'=>dm t o.dst v fun t'=>k t' H'
   | _,_=>False
  | _=>jm H fun aK=>kK E o.op t H aK fun v nb=>dm t o.dst v fun t'=>uV H nb fun H'=>k t' H'
 | _=>jm H fun aK=>kK E o.op t H aK fun v nb=>dm t o.dst v fun t'=>uV H nb fun H'=>k t' H'
def Pw:Option Nat→aA→aA→Prop→Prop
 | none,_,_,k=>k
 | some n,H,H',k=>H'.take n=H.take n∧k
def CJ (E:Env) (fz:Option Nat):List Oper→List Value→aA→SK→Prop
 | [],t,H,k=>k t H
 | o::l,t,H,k=>H6 E o t H fun t' H'=>Pw fz H H' (CJ E fz l t' H' k)
theorem LP {fz:Option Nat} {H H':aA} {k:Prop} (h:Pw fz H H' k):k∧∀ n,fz=some n→H'.take n=H.take n:=by
 cases fz with
 | none=>exact ⟨h,fun n e=>by cases e⟩
 | some m=>exact ⟨h.2,fun n e=>by cases e; exact h.1⟩
def H8 (ops:List Oper) (fl:List Nat) (n:Nat):Option Nat:=match fl.all fun f=>match ops[f]? with | some o=>lX o.op | none=>true with
 | true=>none
 | false=>some n
def Gk (ops:List Oper) (m q:Nat) (aU:List (List Nat)) (fl:List Nat):Bool :=
 decide (m+q≤ops.length) && BU ops aU &&
 (List.range ops.length).all (fun j=>match ops[j]? with
  | some o=>o.after.toList.all fun e=>!Region.binds .any e || decide (e.on < j)
  | none=>true) &&
 (List.range m).all (fun j=>match ops[j]? with
  | some o=>(List.range m).all fun i=>i == j || match ops[i]? with
   | some p=>match p.dst with
    | some d=>(o.dst != some d) && (!(jb ops o).contains d || (aU.getD j []).contains i || (aU.getD i []).contains j)
    | none=>true
   | none=>true
  | none=>true) &&
 fl.all (fun f=>decide (f < m) && match ops[f]? with
  | some o=>o.guard.isNone && ((lX o.op || (lY o.op && (aU.getD f []).all fun i=>fl.contains i)) && ((match o.dst with | some d=>!(iB o.op.operands.toList).contains d | none=>false) && (List.range (m+q)).all fun i=>i == f || (match bR ops i with
   | none=>true
   | some e=>(o.dst != some e) && (!(iB o.op.operands.toList).contains e || (decide (i < m) && (aU.getD f []).contains i)))))
  | none=>false) &&
 (List.range (m+q)).all (fun j=>decide (j < m) || match ops[j]? with
  | some o=>o.guard.isNone && ((List.range j).all fun i=>(aU.getD j []).contains i || fl.contains i) && fl.all fun f=>(aU.getD j []).contains f || match bR ops f with | some d=>!(jb ops o).contains d | none=>false
  | none=>true) &&
 (List.range ops.length).all (fun j=>decide (j < m+q) || (List.range j).all fun i=>(aU.getD j []).contains i)
structure Np (ops:List Oper) (m q:Nat) (aU:List (List Nat)) (fl:List Nat):Prop extends Order ops aU where
 le:m+q≤ops.length
 apart:∀ j o i p d,j < m→i < m→i≠j→ops[j]?=some o→ops[i]?=some p→p.dst=some d→o.dst≠some d∧(d ∉ jb ops o∨i∈aU.getD j []∨j∈aU.getD i [])
 qW:∀ f∈fl,f < m∧∃ o d,ops[f]?=some o∧o.guard=none∧(lX o.op=true∨(lY o.op=true∧∀ i∈aU.getD f [],i∈fl))∧o.dst=some d∧d ∉ iB o.op.operands.toList∧∀ i e,i < m+q→i≠f→bR ops i=some e→e≠d∧(e∈iB o.op.operands.toList→i < m∧i∈aU.getD f [])
 mid:∀ j o,m≤j→j < m+q→ops[j]?=some o→o.guard=none∧(∀ i,i < j→i∈aU.getD j []∨i∈fl)∧∀ f∈fl,f∈aU.getD j []∨∀ d,bR ops f=some d→d ∉ jb ops o
 tail:∀ j,j < ops.length→m+q≤j→∀ i,i < j→i∈aU.getD j []
theorem RH {ops:List Oper} {m q:Nat} {aU:List (List Nat)} {fl:List Nat} (h:Gk ops m q aU fl=true):Np ops m q aU fl:=by
 unfold Gk at h;simp only [Bool.and_eq_true,decide_eq_true_eq] at h;obtain ⟨⟨⟨⟨⟨⟨h1,J⟩,h3⟩,h4⟩,h5⟩,h6⟩,h7⟩:=h;have lt:∀ {j:Nat} {o:Oper},ops[j]?=some o→j∈List.range ops.length:=fun hj=>List.mem_range.2 (List.getElem?_eq_some_iff.1 hj).1
 refine ⟨⟨fun j o hj i hi=>?_,fun j o hj e he hb=>?_⟩,h1,fun j o i p d hj hi aI ho hp hd=>?_,fun f hf=>?_,fun j o hm hj ho=>?_,fun j hj hm i hi=>?_⟩
 ·unfold BU at J;have:=List.all_eq_true.1 J j (lt hj);rw [hj] at this;have:=List.all_eq_true.1 this i hi;simp only [Bool.and_eq_true,decide_eq_true_eq,List.any_eq_true,Bool.or_eq_true,beq_iff_eq,List.contains_iff_mem] at this;obtain ⟨k1,e,k2,k3,k4⟩:=this;exact ⟨k1,e,by simpa using k2,k3,k4⟩
 ·have:=List.all_eq_true.1 h3 j (lt hj);rw [hj] at this;have:=List.all_eq_true.1 this e (by simpa using he)
  simp only [hb,Bool.not_true,Bool.false_or,decide_eq_true_eq] at this;exact this
 ·have:=List.all_eq_true.1 h4 j (List.mem_range.2 hj);rw [ho] at this;have:=List.all_eq_true.1 this i (List.mem_range.2 hi);rw [hp] at this;have hb:(i == j)=false:=by simp [aI]
  rw [hb,Bool.false_or] at this
  dsimp only at this
  rw [hd] at this;simp only [Bool.and_eq_true,bne_iff_ne,Bool.or_eq_true,Bool.not_eq_true',List.contains_iff_mem,or_assoc] at this;refine ⟨this.1,this.2.imp (fun k=>?_) (fun k=>k)⟩
  intro gB;rw [List.contains_iff_mem.2 gB] at k;cases k
 ·have:=List.all_eq_true.1 h5 f hf;simp only [Bool.and_eq_true,decide_eq_true_eq] at this;obtain ⟨k1,k2⟩:=this;refine ⟨k1,?_⟩
  split at k2
  ·rename_i o ho;simp only [Bool.and_eq_true,Bool.or_eq_true,Option.isNone_iff_eq_none] at k2;obtain ⟨k2,hx,k3,k4⟩:=k2;cases hd:o.dst with
   | none=>rw [hd] at k3; cases k3
   | some d =>
   rw [hd] at k3;have Hi:d ∉ iB o.op.operands.toList:=fun hm=>by
    have k3:(!(iB o.op.operands.toList).contains d)=true:=k3;rw [List.contains_iff_mem.2 hm] at k3; cases k3
   refine ⟨o,d,ho,k2,hx.imp id (fun h=>⟨h.1,fun i hi=>by simpa using List.all_eq_true.1 h.2 i hi⟩),hd,Hi,fun i e hi aI he=>?_⟩
   have:=List.all_eq_true.1 k4 i (List.mem_range.2 hi);have hb:(i == f)=false:=by simp [aI]
   rw [hb,Bool.false_or,he,hd] at this;simp only [Bool.or_eq_true,Bool.and_eq_true,bne_iff_ne,decide_eq_true_eq,List.contains_iff_mem,Bool.not_eq_true'] at this;obtain ⟨h1,J⟩:=this;refine ⟨fun e'=>h1 (by rw [e']),fun e'=>?_⟩
   rcases J with J | J
   ·rw [List.contains_iff_mem.2 e'] at J; cases J
   ·exact J
  ·cases k2
 ·have:=List.all_eq_true.1 h6 j (List.mem_range.2 hj);have hd:decide (j < m)=false:=by simp; omega
  rw [hd,Bool.false_or,ho] at this;simp only [Bool.and_eq_true,Option.isNone_iff_eq_none,List.all_eq_true,List.mem_range,Bool.or_eq_true,List.contains_iff_mem] at this;obtain ⟨⟨k1,k2⟩,k3⟩:=this;refine ⟨k1,k2,fun f hf=>(k3 f hf).imp (fun h=>h) (fun h d hd=>?_)⟩
  rw [hd] at h;simp only [Bool.not_eq_true'] at h;intro gB;rw [List.contains_iff_mem.2 gB] at h;cases h
 ·have:=List.all_eq_true.1 h7 j (List.mem_range.2 hj);simp only [Bool.or_eq_true,decide_eq_true_eq,List.all_eq_true,List.mem_range,List.contains_iff_mem] at this;rcases this with h | h
  ·omega
  ·exact h i hi
def OP (E:Env) (ops:List Oper) (t:List Value) (H:aA) (k:SK):Prop :=
 ∃ (m q:Nat) (aU:List (List Nat)) (fl:List Nat),Gk ops m q aU fl=true∧jm H fun n0=>uG ops m fun hd tl=>uG tl q fun md tl2 =>
  kX E ops H n0 hd aU 0 t [] fun t' S=>np H S fun G=>CJ E (H8 ops fl n0) md t' G fun t2 G2=>m8 E ops tl2 t2 G2 k
structure uX (fz:Option Nat) (P:Program) (F:Fr) (bn:Nu) (ops:List Oper) (fl:List Nat) (D:Nat→Bool) (ν:Nu) (t:List Value) (H:aA) (a:Act) (w:World):Prop where
 len:t.length=a.tmps.toList.length
 tm:∀ (d:Nat) v,t[d]?=some v→(∀ f∈fl,D f=false→bR ops f≠some d)→∃ v',a.tmps.toList[d]?=some v'∧au ν v v'
 un:∀ f∈fl,D f=false→∀ o d,ops[f]?=some o→o.dst=some d→∃ v G,t[d]?=some v∧nK P bn G o.op t v∧∀ id b,G[id]?=some (some b)→H[id]?=some (some b)∧∃ n,fz=some n∧id < n
 le:bn.le ν
 rest:bw F ν [] H { a with tmps:=#[] } w
theorem Nq:∀ {l:List Value} {n:Nat} {v:Value} {k:List Value→Prop},n < l.length→k (l.set n v)→xu l n v k
 | [],_,_,_,h,_=>absurd h (Nat.not_lt_zero _)
 | _::l,0,v,k,_,h=>h
 | x::l,n+1,v,k,h,hk=>Nq (l:=l) (by simpa using h) hk
theorem nK.same {P:Program} {bn:Nu} {G:aA} {op:Op} {t t':List Value} {v:Value} (h:nK P bn G op t v) (hs:∀ s∈iB op.operands.toList,t'[s]?=t[s]?):nK P bn G op t' v :=
 ⟨h.1,fun o ν a w hle ho ha=>h.2 o ν a w hle ho fun x hx s nm u hu=>ha x hx s nm u (by rw [hs s (pI (by rw [← nm]; simpa using hx))]; exact hu)⟩
theorem p8.heap {P:Program} {bn:Nu} {op:Op} {t:List Value} {v:Value} (h:p8 P bn op t v) (G:aA):nK P bn G op t v:=⟨h.1,fun o ν a w hle ho ha _=>h.2 o ν a w hle ho ha⟩
theorem LQ {fz:Option Nat} {G H H':aA} (h:∀ id b,G[id]?=some (some b)→H[id]?=some (some b)∧∃ n,fz=some n∧id < n) (hf:∀ n,fz=some n→H'.take n=H.take n) :
  ∀ id b,G[id]?=some (some b)→H'[id]?=some (some b)∧∃ n,fz=some n∧id < n:=fun id b hb=>by
 obtain ⟨h1,n,J,h3⟩:=h id b hb;refine ⟨?_,n,J,h3⟩;have:=congrArg (fun l=>l[id]?) (hf n J)
 simp only [List.getElem?_take,if_pos h3] at this;rw [this]; exact h1
theorem BA {op:Op} {C:Prop} (h:lX op=true∨(lY op=true∧C)):(lX op || lY op)=true:=by
 rcases h with h | ⟨h,_⟩
 ·rw [h]; rfl
 ·rw [h]; simp
theorem FI {t:List Value} {o:Option Tmp} {v:Value} {k:List Value→Prop} {C:Prop} (h:dm t o v k) (hk:∀ t,k t→C):C:=by
 cases o with
 | none=>exact hk _ h
 | some d=>exact hk _ (oz h).2
theorem uX.put {fz:Option Nat} {P:Program} {F:Fr} {bn:Nu} {ops:List Oper} {fl:List Nat} {D D':Nat→Bool} {ν ak:Nu} {t:List Value} {H H':aA} {a:Act} {w w':World} (h:uX fz P F bn ops fl D ν t H a w) (I9:∀ n,fz=some n→H'.take n=H.take n) (hle:ν.le ak)
  (hD:∀ f∈fl,D' f=D f) {v v':Value} (hv:au ak v v') {o:Option Tmp} (ho:∀ d,o=some d→∀ f∈fl,∀ p e,ops[f]?=some p→p.dst=some e→d≠e∧d ∉ iB p.op.operands.toList)
  {k:List Value→Prop} (hk:dm t o v k) (hr:bw F ak [] H' { a with tmps:=#[] } w'):∃ t',k t'∧uX fz P F bn ops fl D' ak t' H' (a.put o v') w':=by
 cases o with
 | none =>
  refine ⟨t,hk,h.len,fun d u hu hn=>?_,fun f lL hd p e h1 J=>?_,Nu.le_trans h.le hle,hr⟩
  ·obtain ⟨u',k1,k2⟩:=h.tm d u hu (fun f lL hd=>hn f lL (by rw [hD f lL]; exact hd))
   exact ⟨u',k1,k2.mono hle⟩
  ·obtain ⟨u,G,q1,q2,q3⟩:=h.un f lL (by rw [← hD f lL]; exact hd) p e h1 J
   exact ⟨u,G,q1,q2,LQ q3 I9⟩
 | some d0 =>
  obtain ⟨h1,J⟩:=oz hk;refine ⟨_,J,?_,fun d u hu hn=>?_,fun f lL hd p e k1 k2=>?_,Nu.le_trans h.le hle,hr⟩
  ·rw [rJ,List.length_set,List.length_set]; exact h.len
  ·rw [rJ];by_cases e:d0=d
   ·subst e;rw [List.getElem?_set_self h1] at hu;cases hu;exact ⟨v',by rw [List.getElem?_set_self (by rw [← h.len]; exact h1)],hv⟩
   ·rw [List.getElem?_set_ne e] at hu ⊢;obtain ⟨u',k1,k2⟩:=h.tm d u hu (fun f lL hd=>hn f lL (by rw [hD f lL]; exact hd))
    exact ⟨u',k1,k2.mono hle⟩
  ·obtain ⟨aI,hns⟩:=ho d0 rfl f lL p e k1 k2;obtain ⟨u,G,q1,q2,q3⟩:=h.un f lL (by rw [← hD f lL]; exact hd) p e k1 k2
   exact ⟨u,G,by rw [List.getElem?_set_ne aI]; exact q1,q2.same fun s hs=>by rw [List.getElem?_set_ne (fun e:d0=s=>hns (by rw [e]; exact hs))],LQ q3 I9⟩
section
variable {fz:Option Nat} {P:Program} {E:Env} {r:Option Nat} {n:Nat} {F:Fr} {ops:Array Oper} {Q:Exit→Act→World→Prop} {m q:Nat} {aU:List (List Nat)} {fl:List Nat} {k:SK}
theorem Ve (hE:jJ P E) (bM:kL F E) {bn:Nu} {o:Oper} {D D':Nat→Bool} {ν:Nu} {t:List Value} {H:aA} {a:Act} {w:World} (h:uX fz P F bn ops.toList fl D ν t H a w) {k:SK} (Ac:∀ t' H',k t' H'→∀ n,fz=some n→H'.take n=H.take n)
  (hD:∀ f∈fl,D' f=D f)
  (fp:∀ f∈fl,D f=false→∀ d,bR ops.toList f=some d→d ∉ jb ops.toList o)
  (ho:∀ d,o.dst=some d→∀ f∈fl,∀ p e,ops.toList[f]?=some p→p.dst=some e→d≠e∧d ∉ iB p.op.operands.toList)
  (hk:H6 E o t H k) {next:Act→World→Prop} {Q:Exit→Act→World→Prop}
  (hn:∀ ak t' H' a' w',uX fz P F bn ops.toList fl D' ak t' H' a' w'→k t' H'→next a' w'):o.wpIn (WF r) n P a w next Q:=by
 have oe:∀ x∈o.op.operands,fh ν t a x:=fun x hx s hs v hv=>by
  obtain ⟨v',k1,k2⟩:=h.tm s v hv (fun f lL hd eP=>fp f lL hd s eP (by unfold jb; exact List.mem_append_left _ (pI (by rw [hs] at hx; simpa using hx))))
  exact ⟨v',by simpa using k1,k2⟩
 have quiet:(jm H fun aK=>kK E o.op t H aK fun v nb=>dm t o.dst v fun t'=>uV H nb fun H'=>k t' H')→o.wpIn (WF r) n P a w next Q:=by
  intro hk;have hk:=lU hk;obtain ⟨v,nb,qU,hq⟩:=Bg (P:=P) hE.toEnvOk hk;refine hq o ν a w r n rfl oe h.rest.hp (h.rest.fr _ (Nat.le_refl _)) next Q (fun v' w' ak hp=>?_)
  cases hd:o.dst with
  | none =>
   rw [hd] at qU ho;obtain ⟨H',h1,J⟩:=h.rest.quiet hp qU;obtain ⟨t',k1,k2⟩:=h.put (D':=D') (o:=none) (Ac _ _ h1) hp.le hD hp.val (fun d hd=>by cases hd) (k:=fun t'=>t'=t) rfl J
   subst k1;exact hn _ _ _ _ _ k2 h1
  | some d =>
   rw [hd] at qU ho;obtain ⟨h1,J⟩:=oz qU;obtain ⟨H',h3,h4⟩:=h.rest.quiet hp J;obtain ⟨t',k1,k2⟩:=h.put (D':=D') (o:=some d) (Ac _ _ h3) hp.le hD hp.val ho (k:=fun t'=>k t' H') (by
    show xu t d v _
    exact Nq h1 h3) h4
   exact hn _ _ _ _ _ k2 k1
 unfold H6 at hk
 split at hk
 ·rename_i ty x y ax;have hx:fh ν t a x:=oe x (by rw [ax]; simp [Op.operands])
  have hy:fh ν t a y:=oe y (by rw [ax]; simp [Op.operands])
  obtain ⟨w',H',bE,aR,J⟩:=KT hE.toEnvOk ax h.rest hx hy hk;obtain ⟨t',k1,k2⟩:=h.put (D':=D') (o:=o.dst) (FI J fun t hk=>Ac t _ hk) ν.le_refl hD (.undef ν) ho J aR
  refine ⟨fun _ _=>trivial,?_⟩
  rw [Oper.semAt_eq _ _ _ (by simp [ax]),bE]
  exact hn _ _ _ _ _ k2 k1
 ·rename_i c ax
  split at hk
  ·rename_i hc
   split at hk
   ·rename_i x y t1 t2 qX DE
    split at hk
    ·rename_i hb;have hb:t1=t2:=Nat.eq_of_beq_eq_true hb;subst hb;have vn:c.args=#[x,y]:=Array.ext' qX;have zT:c.argTypes=#[t1,t1]:=Array.ext' DE;obtain ⟨xv,js,mw⟩:=kq hk (oe x (by rw [ax]; simp [Op.operands,Call.operands,vn]))
     obtain ⟨yv,Ad,my⟩:=kq js (oe y (by rw [ax]; simp [Op.operands,Call.operands,vn]))
     split at Ad
     ·rename_i hex;obtain ⟨v,v',ak,t',H',w',h1,J,h3,h4,h5⟩:=Kx hE.toEnvOk bM h.rest mw my Ad o.type;obtain rfl:t'=[]:=List.eq_nil_of_length_eq_zero (by have:=h3.tm.1; simpa using this)
      obtain ⟨t2,k1,k2⟩:=h.put (D':=D') (FI h1 fun t hk=>Ac t _ hk) (h5 hex) hD J ho h1 h3
      exact jy (by simp [ax]) (by simp [execOp,ax,resolve,hc,vn,zT,invoke,builtin,h4]) next Q (hn _ _ _ _ _ k2 k1)
     ·exact Ad.elim
    ·exact hk.elim
   ·exact hk.elim
  ·rename_i hc
   split at hk
   ·rename_i x y t1 t2 qX DE;have vn:c.args=#[x,y]:=Array.ext' qX;have zT:c.argTypes=#[t1,t2]:=Array.ext' DE;obtain ⟨xv,js,mw⟩:=kq hk (oe x (by rw [ax]; simp [Op.operands,Call.operands,vn]))
    obtain ⟨yv,Ad,my⟩:=kq js (oe y (by rw [ax]; simp [Op.operands,Call.operands,vn]))
    obtain ⟨v,H',w',h1,J,h3,h4⟩:=KY hE.toEnvOk h.rest mw my Ad t2 o.type;obtain ⟨t2,k1,k2⟩:=h.put (D':=D') (FI h1 fun t hk=>Ac t _ hk) ν.le_refl hD J ho h1 h3
    exact jy (by simp [ax]) (by simp [execOp,ax,resolve,hc,vn,zT,invoke,builtin,h4]) next Q (hn _ _ _ _ _ k2 k1)
   ·exact hk.elim
  ·exact quiet hk
 ·exact quiet hk
theorem Vf (hE:jJ P E) (bM:kL F E) (hc:Np ops.toList m q aU fl) (hk:∀ ν t' H' a' w',bw F ν t' H' a' w'→k t' H'→Q .normal a' w') :
  ∀ (fuel:Nat) (aF:Array Bool) (j0:Nat) (bn ν:Nu) (t:List Value) (H:aA) (a:Act) (w:World),aF.size=ops.size→oM ops.toList (DB aF)→m≤j0→j0≤m+q →
  (∀ i,i < j0→i ∉ fl→DB aF i=true)→(∀ i,DB aF i=true→i < j0)→uX fz P F bn ops.toList fl (DB aF) ν t H a w →
  CJ E fz ((ops.toList.take (m+q)).drop j0) t H (fun t' H'=>m8 E ops.toList (ops.toList.drop (m+q)) t' H' k)→gp (DB aF) ops.size≤fuel→wpAnyIn (WF r) n P .any ops Q fuel aF a w:=by
 have hle:m+q≤ops.size:=by have:=hc.le; simpa using this
 have xy:∀ (i:Nat) (d:Tmp),i < m+q→m≤i→bR ops.toList i=some d→∀ f∈fl,f≠i→∀ p e,ops.toList[f]?=some p→p.dst=some e→d≠e∧d ∉ iB p.op.operands.toList:=by
  intro i d hi CI hd f hf aI p e h1 h3;obtain ⟨_,o,d',k1,k2,k3,k4,_,k5⟩:=hc.qW f hf;rw [h1] at k1; cases k1;rw [h3] at k4; cases k4;obtain ⟨q1,q2⟩:=k5 i d hi (Ne.symm aI) hd;exact ⟨q1,fun e'=>by have:=(q2 e').1; omega⟩
 have finish:∀ (fuel:Nat) (aF:Array Bool) (j0:Nat) (bn ν:Nu) (t:List Value) (H:aA) (a:Act) (w:World),aF.size=ops.size→m≤j0→j0≤m+q→(∀ i,DB aF i=true→i < j0)→uX fz P F bn ops.toList fl (DB aF) ν t H a w →
   CJ E fz ((ops.toList.take (m+q)).drop j0) t H (fun t' H'=>m8 E ops.toList (ops.toList.drop (m+q)) t' H' k)→gp (DB aF) ops.size≤fuel→(∀ i,i < m+q→DB aF i=true)→wpAnyIn (WF r) n P .any ops Q fuel aF a w:=by
  intro fuel aF j0 bn ν t H a w hs hm kj al hi h hu cS;have e:j0=m+q:=by
   rcases Nat.lt_or_ge j0 (m+q) with h' | h'
   ·have:=al j0 (cS j0 h'); omega
   ·omega
  subst e;rw [List.drop_eq_nil_of_le (by simp; omega)] at h
  have hD:∀ i,DB aF i=decide (i < m+q):=fun i=>by
   by_cases h:i < m+q
   ·rw [cS i h]; simp [h]
   ·cases hd:DB aF i with
    | true=>exact absurd (al i hd) h
    | false=>simp [h]
  have aR:bw F ν t H a w:=⟨⟨hi.len,fun d x y hx hy=>by
   obtain ⟨y',k1,k2⟩:=hi.tm d x hx (fun f hf hd=>by have:=(hc.qW f hf).1; rw [cS f (by omega)] at hd; cases hd)
   rw [hy] at k1; cases k1; exact k2⟩,hi.rest.df,hi.rest.hp,hi.rest.fr,hi.rest.kp,hi.rest.own,hi.rest.mono⟩
  exact Fh hE bM hc.toOrder (m:=m+q) hc.tail hk fuel aF (m+q) ν t H a w hs hD (Nat.le_refl _) hle aR h (by
   have:=Ee hD ops.size hle; omega)
 intro fuel
 induction fuel with
 | zero =>
  intro aF j0 bn ν t H a w hs eX hm kj oU al hi h hu;exact finish 0 aF j0 bn ν t H a w hs hm kj al hi h hu (fun i aR=>by
   cases hd:DB aF i with
   | true=>rfl
   | false=>have:=EP (n:=ops.size) (by omega:i < ops.size) hd; omega)
 | succ fuel ih =>
  intro aF j0 bn ν t H a w hs eX hm kj oU al hi h hu;by_cases cS:∀ i,i < m+q→DB aF i=true
  ·exact finish (fuel+1) aF j0 bn ν t H a w hs hm kj al hi h hu cS
  ·have hex:∃ i,i < m+q∧DB aF i=false:=by
    refine Classical.byContradiction fun aI=>cS fun i aR=>?_
    cases hd:DB aF i with
    | true=>rfl
    | false=>exact absurd ⟨i,aR,hd⟩ aI
   obtain ⟨i1,DD,fZ⟩:=hex;obtain ⟨i0,Pu,fu,iX⟩:=Em fZ;have hr:=AX hc.toOrder hs (by omega:i0 < ops.size) fu iX
   refine ⟨(fun hn=>by rw [hn] at hr; cases hr),fun j hj=>?_⟩
   rw [mem_ready] at hj;obtain ⟨h1,o,ho,he⟩:=hj;have nq:j < ops.size:=(Array.getElem?_eq_some_iff.1 ho).1;rw [tZ (by omega)] at h1
   have fV:ops.toList[j]?=some o:=by simpa using ho
   have lK:=tF hc.toOrder eX j o fV (fun e' fY bA=>he e' fY bA)
   have c6:∀ i,DB (aF.setIfInBounds j true) i=(DB aF i || i == j):=fun i=>Co (by omega) i
   have xB:oM ops.toList (DB (aF.setIfInBounds j true)):=by
    intro i p aR hp e' fY bA;rw [c6] at aR ⊢;by_cases e:i=j
    ·subst e;rw [fV] at hp; cases hp;have:DB aF e'.on=true:=he e' fY bA;rw [this]; rfl
    ·have e2:(i == j)=false:=by simp [e]
     rw [e2,Bool.or_false] at aR;rw [eX i p aR hp e' fY bA]; rfl
   have sT:gp (DB (aF.setIfInBounds j true)) ops.size≤fuel:=by
    have:=A9 c6 h1 ops.size;rw [if_pos nq] at this; omega
   by_cases Af:j∈fl
   ·-- a floating move
    obtain ⟨mA,o',d,g1,g2,g3,g4,g6,g5⟩:=hc.qW j Af;rw [fV] at g1; cases g1;obtain ⟨v,G,lM,I0,hGH⟩:=hi.un j Af h1 o d fV g4;obtain ⟨vu,DF,ab3⟩:=I0.2 o ν a w hi.le rfl (fun x hx s nm u hu=>by
     have qY:s∈iB o.op.operands.toList:=pI (by rw [← nm]; simpa using hx)
     obtain ⟨u',r1,r2⟩:=hi.tm s u hu (fun f hf hd eP=>by
      have Ag:=(hc.qW f hf).1;by_cases e:f=j
      ·subst e;have:bR ops.toList f=some d:=by simp [bR,fV,g4]
       rw [this] at eP; cases eP;exact g6 qY
      ·have:=((g5 f s (by omega) e eP).2 qY).2
       rw [lK f this] at hd; cases hd)
     exact ⟨u',by simpa using r1,r2⟩) (hi.rest.hp.rX fun id b hb=>(hGH id b hb).1)
    unfold wpOpIn;rw [ho]
    dsimp only
    rw [if_pos (by simp [Region.wanted,g2])]
    refine jy (v':=vu) (w':=w) I0.1 ab3 _ Q ?_;rw [g4];refine ih _ j0 bn ν t H _ w (by simp [hs]) xB hm kj (fun i aR hf=>by rw [c6,oU i aR hf]; rfl) (fun i aR=>?_) ⟨?_,fun e u s7 bO=>?_,fun f hf hd p e k1 k2=>?_,hi.le,hi.rest⟩ h sT
    ·rw [c6] at aR;by_cases e:i=j
     ·omega
     ·have e2:(i == j)=false:=by simp [e]
      rw [e2,Bool.or_false] at aR;exact al i aR
    ·rw [rJ,List.length_set]; exact hi.len
    ·rw [rJ];by_cases e':d=e
     ·subst e';rw [lM] at s7; cases s7;have:d < t.length:=(List.getElem?_eq_some_iff.1 lM).1;exact ⟨vu,by rw [List.getElem?_set_self (by rw [← hi.len]; exact this)],DF⟩
     ·rw [List.getElem?_set_ne e'];refine hi.tm e u s7 (fun f hf hd=>?_)
      by_cases e3:f=j
      ·subst e3;intro cV;have:bR ops.toList f=some d:=by simp [bR,fV,g4]
       rw [this] at cV; exact e' (Option.some.inj cV)
      ·exact bO f hf (by rw [c6,hd]; simp [e3])
    ·have aI:f≠j:=fun e3=>by subst e3; rw [c6] at hd; simp at hd
     have bS:DB aF f=false:=by
      rw [c6] at hd;simp only [Bool.or_eq_false_iff] at hd;exact hd.1
     exact hi.un f hf bS p e k1 k2
   ·have dH:j0≤j:=by
     rcases Nat.lt_or_ge j j0 with h' | h'
     ·rw [oU j h' Af] at h1; cases h1
     ·exact h'
    have Ja:j < m+q:=by
     rcases Nat.lt_or_ge j (m+q) with h' | h'
     ·exact h'
     ·have:=lK i1 (hc.tail j (by simpa using nq) h' i1 (by omega))
      rw [fZ] at this; cases this
    obtain ⟨c1,c2,c3⟩:=hc.mid j o (by omega) Ja fV
    have hjj:j=j0:=by
     rcases Nat.lt_or_ge j0 j with h' | h'
     ·rcases c2 j0 h' with J | J
      ·have:=al j0 (lK j0 J); omega
      ·have:=(hc.qW j0 J).1; omega
     ·omega
    subst hjj;have Ho:(ops.toList.take (m+q)).drop j=o::(ops.toList.take (m+q)).drop (j+1):=by
     have hl:j < (ops.toList.take (m+q)).length:=by simp; omega
     rw [List.drop_eq_getElem_cons hl]
     congr 1
     have:=List.getElem?_eq_getElem hl;rw [List.getElem?_take,if_pos Ja,fV] at this;exact (Option.some.inj this).symm
    rw [Ho] at h;unfold wpOpIn;rw [ho]
    dsimp only
    rw [if_pos (by simp [Region.wanted,c1])]
    refine Ve hE bM (D':=DB (aF.setIfInBounds j true)) hi (fun t' H' h'=>(LP h').2) (fun f hf=>?_) (fun f hf hd d cV=>?_) (fun d hd f hf=>?_) h (fun ak t' H' a' w' aR h'=>?_)
    ·have:f≠j:=fun e=>Af (e ▸ hf)
     rw [c6]; simp [this]
    ·rcases c3 f hf with J | J
     ·rw [lK f J] at hd; cases hd
     ·exact J d cV
    ·exact xy j d Ja (by omega) (by simp [bR,fV,hd]) f hf (fun e=>Af (e ▸ hf))
    ·refine ih _ (j+1) bn ak t' H' a' w' (by simp [hs]) xB (by omega) (by omega) (fun i gW hf=>?_) (fun i gW=>?_) aR (LP h').1 sT
     ·rw [c6];by_cases e:i=j
      ·simp [e]
      ·rw [oU i (by omega) hf]; rfl
     ·rw [c6] at gW;by_cases e:i=j
      ·omega
      ·have e2:(i == j)=false:=by simp [e]
       rw [e2,Bool.or_false] at gW;have:=al i gW; omega
theorem Vg (hm:P.follows .mixedOrders=true):nj P OP:=by
 intro E hE r n F bM ops Q id ν tmps H a w k hi h hk;obtain ⟨m,q,aU,fl,bf,h⟩:=h;have h:=lU h;obtain ⟨Pv,h⟩:=yg h;obtain ⟨aeu,h⟩:=yg h;have hc:=RH bf;obtain ⟨rs,iI,j3,gg⟩:=Fg (P:=P) hE.toEnvOk (ops:=ops.toList) (t0:=tmps) (H:=H) (aU:=aU) (l:=ops.toList.take m) (ms:=aU) (j:=0) (rs:=[]) rfl
  (fun i o ho=>by
   rw [List.getElem?_take] at ho
   split at ho
   ·simpa using ho
   ·cases ho)
  (fun i _=>by simp) (fun i hi=>by omega) h
 have gg:=tS gg;have hlen:0+(ops.toList.take m).length=m:=by rw [List.length_take]; omega
 rw [hlen] at iI j3 gg;have hD:DB (Array.replicate ops.size false)=fun _=>false:=by
  funext i
  unfold DB;by_cases h:i < ops.size <;> simp [h]
 have hmd:(ops.toList.drop m).take q=(ops.toList.take (m+q)).drop m:=by
  rw [List.drop_take]; congr 1; omega
 have htl:(ops.toList.drop m).drop q=ops.toList.drop (m+q):=by rw [List.drop_drop]
 rw [hmd,htl] at gg;have bc:m+q≤ops.size:=by have:=hc.le; simpa using this
 refine wpIn_region_any hm ?_;refine LO (F:=F) (fl:=fl) hc.toOrder (by omega) hc.apart (fun j hj hm i hi hf=>?_) j3 ?_ ops.size _ ν a _ (by simp) (fun j o hj=>by rw [hD] at hj; cases hj) (fun i aR=>by rw [hD] at aR; cases aR) ?_ (fun i _ _=>hi.fr _ (by omega)) ?_
 ·by_cases h':j < m+q
  ·rcases (hc.mid j ops[j] hm h' (by simp [hj])).2.1 i (by omega) with h | h
   ·exact h
   ·exact absurd h hf
  ·exact hc.tail j (by simpa using hj) (by omega) i (by omega)
 ·intro fuel aF ν a w hs eX al cS hi hu;have lh:∀ i d,i < m→bR ops.toList i=some d→d < tmps.length:=by
   intro i d hi hd;obtain ⟨o,q,h1,J,h3,_⟩:=(j3 i hi).ok;unfold bR at hd;rw [h1] at hd;exact h3 d hd
  have pk:xi ops.toList m:=by
   intro i j d hi hj h1 J;rcases Nat.decEq i j with aI | he
   ·obtain ⟨o,q,k1,_⟩:=(j3 i hi).ok;obtain ⟨p,q',k2,_⟩:=(j3 j hj).ok;unfold bR at h1 J;rw [k1] at h1; rw [k2] at J;exact absurd h1 (hc.apart i o j p d hi hj (Ne.symm aI) k1 k2 J).1
   ·exact he
  have e2:ky rs (DB aF) m=rs.map (·.nb):=by
   unfold ky;apply List.ext_getElem?;intro i;rw [List.getElem?_map,List.getElem?_map];by_cases h:i < m
   ·rw [List.getElem?_range h,List.getElem?_eq_getElem (by omega:i < rs.length)]
    simp only [Option.map_some];rw [List.getElem?_eq_getElem (by omega:i < rs.length)]
    cases fO:DB aF i with
    | true=>rfl
    | false =>
     have hf:i∈fl:=Classical.byContradiction fun hn=>by rw [cS i h hn] at fO; cases fO
     obtain ⟨_,o,d,g1,g2,g3,g4,_⟩:=hc.qW i hf;obtain ⟨r',k1,k2,_⟩:=(j3 i h).mv o g1 (BA g3) g2;rw [List.getElem?_eq_getElem (by omega:i < rs.length)] at k1
     cases k1;rw [k2]; rfl
   ·rw [List.getElem?_eq_none (by simp; omega),List.getElem?_eq_none (by omega)]; rfl
  have fN:=hi.hp;rw [e2] at hi;refine Vf hE bM hc hk fuel aF m ν ν _ _ a w hs eX (Nat.le_refl _) (by omega) cS al ⟨?_,fun d u s7 bO=>?_,fun f hf hd o d k1 k3=>?_,ν.le_refl,⟨.nil ν,hi.df,hi.hp,hi.fr,hi.kp,hi.own,hi.mono⟩⟩ gg hu
  ·have:=hi.tm.1;rw [rB] at this ⊢;exact this
  ·have Hr:(bd ops.toList rs (DB aF) tmps m)[d]?=(bd ops.toList rs (fun i=>decide (i < m)) tmps m)[d]?:=by
    refine yh pk lh (fun i aR fO=>?_)
    have:DB aF i=true:=by
     by_cases hf:i∈fl
     ·cases Px:DB aF i with
      | true=>rfl
      | false=>exact absurd fO (bO i hf Px)
     ·exact cS i aR hf
    rw [this]; simp [aR]
   rw [← Hr] at s7;exact hi.tm.get s7
  ·obtain ⟨Ag,o',d',g1,g2,g3,g4,g6,g5⟩:=hc.qW f hf;rw [k1] at g1; cases g1;rw [k3] at g4; cases g4;obtain ⟨r',q1,q2,G,qG,q3⟩:=(j3 f Ag).mv o k1 (BA g3) g2;have ph:∀ (id:Nat) (b:aj),G[id]?=some (some b)→(H++rs.map (·.nb))[id]?=some (some b)∧(H++ky rs (DB aF) m)[id]?=some (some b):=by
    intro id b hb;rcases qG id b hb with ⟨h1,J⟩ | ⟨i,h1,J,h3,h4⟩
    ·rw [List.getElem?_append_left h1,List.getElem?_append_left h1]; exact ⟨J,J⟩
    ·subst h1;have Ah:i < m:=by omega
     have fO:DB aF i=true:=Classical.byContradiction fun hn=>by
      have DG:i∈fl:=Classical.byContradiction fun bO=>hn (cS i Ah bO)
      obtain ⟨_,o2,d2,y1,y2,y3,y4,_⟩:=hc.qW i DG;obtain ⟨r2,z1,z2,_⟩:=(j3 i Ah).mv o2 y1 (BA y3) y2;rw [z1] at h4;simp [z2] at h4
     rw [List.getElem?_append_right (by omega),List.getElem?_append_right (by omega)]
     rw [show H.length+i - H.length=i by omega]
     refine ⟨?_,rE.2 ⟨Ah,fO,h4⟩⟩;rw [List.getElem?_map];cases hr:rs[i]? with
     | none=>rw [hr] at h4; cases h4
     | some r2=>rw [hr] at h4; simpa using h4
   have hG:bQ ν G w:=⟨fun id b hb=>fN.aJ id b (ph id b hb).2,fun x y bx bY lx ly hx hy aI ho e1 e2=>fN.sep x y bx bY lx ly (ph x bx hx).2 (ph y bY hy).2 aI ho e1 e2⟩
   have hV:∃ G2,nK P ν G2 o.op (bd ops.toList rs (fun i=>decide (i < f)) tmps f) r'.v∧∀ id b,G2[id]?=some (some b)→(H++rs.map (·.nb))[id]?=some (some b)∧∃ n,H8 ops.toList fl H.length=some n∧id < n:=by
    cases hp:lX o.op with
    | true=>exact ⟨[],(q3.1 hp ν w hG).heap [],fun id b hb=>by simp at hb⟩
    | false =>
     obtain ⟨hh,lK⟩:=g3.resolve_left (by rw [hp]; simp)
     refine ⟨G,q3.2 hh ν,fun id b hb=>?_⟩
     rcases qG id b hb with ⟨h1,J⟩ | ⟨i,h1,J,h3,h4⟩
     ·refine ⟨by rw [List.getElem?_append_left h1]; exact J,H.length,?_,h1⟩
      unfold H8;have:(fl.all fun f=>match ops.toList[f]? with | some o=>lX o.op | none=>true)=false:=by
       rw [List.all_eq_false];exact ⟨f,hf,by rw [k1]; simp [hp]⟩
      rw [this]
     ·obtain ⟨_,o2,d2,y1,y2,y3,y4,_⟩:=hc.qW i (lK i h3);obtain ⟨r2,z1,z2,_⟩:=(j3 i (by omega)).mv o2 y1 (BA y3) y2
      rw [z1] at h4;simp [z2] at h4
   obtain ⟨G2,q3,qg⟩:=hV;have Jb:bR ops.toList f=some d:=by simp [bR,k1,k3]
   refine ⟨r'.v,G2,tT _ Jb q1 (by simp [Ag]) (lh f d Ag Jb) m Ag pk,q3.same fun s hs=>?_,qg⟩
   by_cases hex:∃ i,i < m∧i≠f∧bR ops.toList i=some s
   ·obtain ⟨i,h1,J,h3⟩:=hex;obtain ⟨_,k5⟩:=g5 i s (by omega) J h3
    obtain ⟨_,k7⟩:=k5 hs;have DG:=(hc.mask f o k1 i k7).1;obtain ⟨o2,r2,w1,w2,_⟩:=(j3 i h1).ok;rw [tT _ h3 w2 (by simp [DG]) (lh i s h1 h3) f DG (fun a b c h4 h5=>pk a b c (by omega) (by omega)),tT _ h3 w2 (by simp [h1]) (lh i s h1 h3) m h1 pk]
   ·have ob:∀ i,i < m→bR ops.toList i=some s→i=f:=fun i h1 J=>Classical.byContradiction fun h3=>hex ⟨i,h1,h3,J⟩
    by_cases Qt:s=d
    ·subst Qt;exact absurd hs g6
    ·rw [wa _ f (fun i aR _ fO=>by have:=ob i (by omega) fO; omega),wa _ m (fun i aR Px fO=>by
      have:=ob i aR fO;subst this;rw [Jb] at fO; exact absurd (Option.some.inj fO).symm Qt)]
 ·rw [hD];have e1:bd ops.toList rs (fun _=>false) tmps m=tmps:=wb (j:=0) (by omega) (fun _ _ _=>rfl)
  rw [e1];have kz:Below w.heap.size w { w with drawn:=w.drawn+1 }:=⟨rfl,rfl,rfl,Nat.le_refl _,fun _ _=>rfl⟩
  refine ⟨hi.tm,hi.df.below kz,(hi.hp.below kz).rX (fun id c cD=>?_),fun id bm=>hi.fr id (by rw [List.length_append] at bm; omega),hi.kp.below kz,fun id c lc cD n7 dG=>?_,hi.mono⟩
  ·rw [List.getElem?_append] at cD
   split at cD
   ·exact cD
   ·have:=(rE.1 cD).2.1; cases this
  ·rw [List.getElem?_append] at cD
   split at cD
   ·exact hi.own id c lc cD n7 dG
   ·have:=(rE.1 cD).2.1; cases this
 ·unfold gp;have:=List.length_filter_le (fun i=>!DB (Array.replicate ops.size false) i) (List.range ops.size)
  simpa using this
end
open Go Go.RowKit
def isApp (op:Op):Option (TypeId × Operand × Operand):=match op with
 | .call c=>match c.callee with
  | .builtin .append=>match c.args.toList,c.argTypes.toList with
   | [x,y],[t,t']=>match Nat.beq t t' with
    | true=>some (t,x,y)
    | false=>none
   | _,_=>none
  | _=>none
 | _=>none
theorem SJ {op:Op} {t:TypeId} {x y:Operand} (h:isApp op=some (t,x,y)):∃ c,op=.call c∧c.callee=.builtin .append∧c.args=#[x,y]∧c.argTypes=#[t,t]:=by
 unfold isApp at h
 split at h
 ·rename_i c
  split at h
  ·rename_i hc
   split at h
   ·rename_i x' y' t1 t2 hx ht
    split at h
    ·rename_i hb;cases h;have hb:=Nat.eq_of_beq_eq_true hb;subst hb;exact ⟨c,rfl,hc,Array.ext' hx,Array.ext' ht⟩
    ·cases h
   ·cases h
  ·cases h
 ·cases h
def Py (E:Env) (tmps:List Value) (G:aA) (n0 aK:Nat) (t:TypeId) (x y:Operand) (k:Value→Option Nat→Option aj→Prop):Prop :=
 bU tmps x fun xv=>bU tmps y fun yv=>cJ E.tt t fun ti=>match ti.kind with
  | .slice e=>cJ E.tt e fun te=>zz G te.size yv fun s=>match xv with
   | .slice none 0 0=>match s.m with
    | 0=>k (.slice none 0 0) none none
    | m+1=>((m+1)*te.bytes≤140737488355328)∧k (.slice (some ⟨aK,0,none⟩) (m+1) aO) none (some (oK te.size s))
   | .slice (some ⟨id,0,none⟩) n c=>gA G id fun b=>match Nat.beq b.ah te.size && Nat.ble n0 id with
    | true=>(n=b.n∧(n+s.m)*te.bytes≤140737488355328)∧wH b s fun b'=>k (.slice (some ⟨aK,0,none⟩) (n+s.m) aO) (some (id - n0)) (some b')
    | false=>False
   | _=>False
  | _=>False
structure EPost (ν ak:Nu) (aK:Nat) (iH:Option Loc) (w w':World) (v v':Value) (nb:Option aj):Prop where
 le:ν.le ak
 only:∀ id,id≠aK→ak id=ν id
 val:au ak v v'
 DH:Below w.heap.size w w'∨∃ l,iH=some l∧(∃ cur t,w.heap[l.aJ]?=some (.cells cur t (0,0)))∧(∀ q,q≠l.aJ→w'.heap[q]?=w.heap[q]?)∧w.heap.size≤w'.heap.size∧w'.os=w.os∧w'.tape=w.tape∧w'.output=w.output
 zO:nb=none→ak=ν
 gR:∀ b,nb=some b→∃ l,ak aK=some l∧bN ak l b w'∧(w.heap.size≤l.aJ∨∃ lo,iH=some lo∧l.aJ=lo.aJ)
theorem mT.e {ν ak:Nu} {aK:Nat} {w w':World} {v v':Value} {nb:Option aj} (h:mT ν ak aK w w' v v' nb) (iH:Option Loc):EPost ν ak aK iH w w' v v' nb :=
 ⟨h.le,h.only,h.val,.inl h.below,h.zO,fun b hb=>let ⟨l,h1,J,h3⟩:=h.gR b hb; ⟨l,h1,J,.inl h3⟩⟩
section
variable {P:Program} {E:Env}
theorem T9 (hE:EnvOk P E) {tmps:List Value} {G:aA} {n0 aK:Nat} {t:TypeId} {x y:Operand} {k:Value→Option Nat→Option aj→Prop} (h:Py E tmps G n0 aK t x y k) :
  ∃ v gj nb,k v gj nb∧(∀ i,gj=some i→∃ b,G[n0+i]?=some (some b)∧b.own=true) ∧
   ∀ (ν:Nu) (a:Act) (w:World) (ty:TypeId),fh ν tmps a x→fh ν tmps a y→bQ ν G w→ν aK=none →
    ∃ v' w' ak,(Builtin.append_ #[t,t] ty #[a.eval x,a.eval y]).run P w=.ok v' w'∧EPost ν ak aK (gj.bind fun i=>ν (n0+i)) w w' v v' nb:=by
 obtain ⟨xv,J,vl⟩:=cQ h;clear h;obtain ⟨yv,h,z7⟩:=cQ J;clear J;obtain ⟨ti,ht,J⟩:=cN h;clear h;obtain ⟨d,hu,hd⟩:=(hE.ty _ _ ht).under
 split at J
 ·rename_i e hk;rw [hk] at hd;have hd:d=.slice e:=hd;subst hd;obtain ⟨te,he,h⟩:=cN J;clear J;have bf:=hE.ty _ _ he;obtain ⟨i,iE,gr,ni,z,hz,ig⟩:=bf.info;obtain ⟨s,J,xN,hs⟩:=Fa h;clear h;have jq:z.cells.size=te.size:=by rw [ig]; simpa using bf.len
  have adw:=bf.bit;have small:∀ q,q*te.bytes≤140737488355328→q≤140737488355328:=fun q hq=>by
   have:q*1≤q*te.bytes:=Nat.mul_le_mul_left _ (by omega)
   omega
  split at J
  ·-- onto nil
   split at J
   ·rename_i hm;refine ⟨_,_,_,J,(fun i hi=>by cases hi),fun ν a w ty vo Ai hH hn=>?_⟩
    have hx:=(vl ν a vo).pP;obtain ⟨oy,cy,L,kh,ki,hC,jN⟩:=hs ν w _ hH (z7 ν a Ai);have hL:L.length=s.m*i.size:=by rw [gr]; exact hC.len
    refine ⟨_,w,ν,?_,⟨ν.le_refl,fun _ _=>rfl,.iD,.inl (Below.refl _ _),fun _=>rfl,(fun b hb=>by cases hb)⟩⟩
    rw [hx,kh];have:=rC (P:=P) (w:=w) (ty:=ty) hu iE (A:=none) (oy:=oy) (n:=0) (c:=0) (m:=s.m) (cy:=cy) (L:=L) hL jN ki (by omega) (w2:=w) (fun a ha=>by cases ha) (fun _=>rfl)
    rw [hm] at this ⊢
    simpa using this
   ·rename_i m hm;obtain ⟨hB,h⟩:=J;refine ⟨_,_,_,h,(fun i hi=>by cases hi),fun ν a w ty vo Ai hH hn=>?_⟩
    have hx:=(vl ν a vo).pP;obtain ⟨oy,cy,L,kh,ki,hC,jN⟩:=hs ν w _ hH (z7 ν a Ai);have hL:L.length=s.m*i.size:=by rw [gr]; exact hC.len
    have qC:s.j7=true→∀ r,r < s.m→∀ v∈s.get r,cH v=true:=fun h r hr v hv=>xN h r hr ν w hH v hv
    have bE:=AN (P:=P) (w:=w) (ty:=ty) hu iE hz (A:=none) (oy:=oy) (n:=0) (c:=0) (m:=s.m) (cy:=cy) (O:=[]) (L:=L) (by simp) (fun a ha=>by cases ha) (fun _=>⟨rfl,rfl⟩) hL jN ki (by omega) (by omega) (by rw [ni,hm]; simpa using hB) (by have:=small _ hB; omega)
    have dR:Ext (oK te.size s) te.size (fun _=>[]) 0 s.get s.m s.j7:=by
     cases s with
     | fl m g=>exact ⟨rfl,rfl,by simp [oK,aj.n,Src.m],fun r hr=>by rw [gm (by omega)]; rfl,fun _=>rfl⟩
     | ex L=>exact ⟨rfl,rfl,by simp [oK,aj.n,Src.m],fun r hr=>by rw [gm (by omega)]; rfl,fun h=>by simp [oK,aj.iN] at h⟩
    have xM:=hC.mono (Nu.jX (l:=⟨w.heap.size,0,te.size,grownCap w (0+s.m) 0 e⟩) hn);have ij:=vW (CR.nil _ te.size (fun _=>[])) xM dR (fun h=>⟨fun r hr=>absurd hr (by omega),qC h⟩) (w:=w) jq (iH:=0) (e:=e)
    have dH:=grownCap_ge w (0+s.m) 0 e;have cA:au (ν.add aK ⟨w.heap.size,0,te.size,grownCap w (0+s.m) 0 e⟩) (.slice (some ⟨aK,0,none⟩) (m+1) aO) (.slice (some ⟨w.heap.size,0,none⟩) (0+s.m) (grownCap w (0+s.m) 0 e)):=by
     have:=au.slice (ν:=ν.add aK ⟨w.heap.size,0,te.size,grownCap w (0+s.m) 0 e⟩) aK 0 (0+s.m) aO (grownCap w (0+s.m) 0 e) _ Nu.add_same (.inr rfl) dH (by simp)
     rw [show m+1=0+s.m by omega]
     simpa [Loc.at] using this
    have hq:=mL hn ij (vS w _ _ _ _) (Nat.le_refl _) cA;refine ⟨_,_,_,?_,hq.e _⟩;rw [hx,kh]
    simpa using bE
  ·rename_i id n c;obtain ⟨b,hb,h⟩:=gu J;clear J
   split at h
   ·rename_i dq;rw [Bool.and_eq_true] at dq;obtain ⟨dq,Pz⟩:=dq;have dq:b.ah=te.size:=Nat.eq_of_beq_eq_true dq;have Pz:n0≤id:=Nat.le_of_ble_eq_true Pz;obtain ⟨⟨fM,lJ⟩,h⟩:=h;obtain ⟨b',h,ho,dR⟩:=AO h;have bm:n0+(id - n0)=id:=by omega
    refine ⟨_,_,_,h,(fun i hi=>by cases hi; rw [bm]; exact ⟨b,hb,(aj.cX ho).1⟩),fun ν a w ty vo Ai hH hn=>?_⟩
    have hx:=vl ν a vo;obtain ⟨oy,cy,L,kh,ki,hC,jN⟩:=hs ν w _ hH (z7 ν a Ai);have hL:L.length=s.m*i.size:=by rw [gr]; exact hC.len
    have qC:s.j7=true→∀ r,r < s.m→∀ v∈s.get r,cH v=true:=fun h r hr v hv=>xN h r hr ν w hH v hv
    obtain ⟨l,hl,hB⟩:=hH.aJ id b hb;rw [← dq] at hC jq;have aI:id≠aK:=fun e=>by rw [e,hn] at hl; cases hl
    have hold:(some (id - n0)).bind (fun i=>ν (n0+i))=some l:=by
     show ν (n0+(id - n0))=some l
     rw [bm]; exact hl
    rw [hold];have IL:∃ A c',a.eval x=.slice (some A) n c'∧n≤c'∧((A=l.at 0 0∧c'≤l.cap)∨(n=0∧c'=0)):=by
     rcases hx.tP with ⟨l',c',cC,h1,J,h3,e⟩ | ⟨h1,J,bb,e⟩
     ·rw [hl] at cC; cases cC;exact ⟨_,c',e,J,.inl ⟨rfl,by omega⟩⟩
     ·exact ⟨bb,0,by rw [e,h1],by omega,.inr ⟨h1,rfl⟩⟩
    obtain ⟨A,c',ck,Dv,hA⟩:=IL;have hO:∃ O,CR ν b.ah b.row n O∧∀ (j:Nat) u,O[j]?=some u→w.cell? (A.add j)=some u:=by
     rcases hA with ⟨rfl,_⟩ | ⟨h0,_⟩
     ·obtain ⟨O,h1,J⟩:=CR.GM hB (row:=0) (m:=n) (by omega)
      exact ⟨O,h1.congr (fun r hr=>by simp),J⟩
     ·subst h0;exact ⟨[],CR.nil _ _ _,fun j u hu=>by simp at hu⟩
    obtain ⟨O,hO,qS⟩:=hO;have sV:b.oT=true→∀ r,r < b.n→∀ v∈b.row r,cH v=true:=fun h r hr v hv=>by
     cases b with
     | flat o n e g=>exact hB.plain rfl r hr v hv
     | aS o e rows =>
      have h:rows.all jA=true:=h;have hr:r < rows.length:=hr;have hv:v∈rows.getD r []:=hv;rw [List.getD_eq_getElem?_getD,List.getElem?_eq_getElem hr] at hv;exact x4 (List.all_eq_true.1 h _ (List.getElem_mem hr)) v hv
     | cc r=>cases h
    have mi:(b.oT && s.j7)=true→(∀ r,r < b.n→∀ v∈b.row r,cH v=true)∧∀ r,r < s.m→∀ v∈s.get r,cH v=true:=fun h=>by
     rw [Bool.and_eq_true] at h; exact ⟨sV h.1,qC h.2⟩
    by_cases cP:n+s.m≤c'
    ·-- in its place
     obtain ⟨cur,tt,jK,bc,ab4⟩:=hB.own (aj.cX ho).1 (aj.cX ho).2;have hle:=Nu.jX (l:=l) hn;rcases hA with ⟨rfl,fJ⟩ | ⟨h0,n9⟩
     ·obtain ⟨h1,J⟩:=hB.extend (P:=P) ho (Nat.le_refl _) hC dR mi (by omega)
      refine ⟨_,w.setCells l.aJ (l.base+b.n*l.ah) L,ν.add aK l,?_,⟨hle,fun j hj=>Nu.iM hj,.slice _ _ _ _ _ l Nu.add_same (.inr rfl) cP (by omega),.inr ⟨l,rfl,⟨cur,tt,jK⟩,fun q hq=>rr _ _ _ _ _ hq,by rw [ou]; exact Nat.le_refl _,(vQ _ _ _ _).1,(vQ _ _ _ _).2.1,(vQ _ _ _ _).2.2⟩,(fun h=>by cases h),fun b2 dF=>by cases dF; exact ⟨l,Nu.add_same,J.mono hle,.inr ⟨l,rfl,rfl⟩⟩⟩⟩
      rw [ck,kh];refine rC (P:=P) hu iE hL jN ki cP (fun A' sW=>?_) (fun h=>by cases h)
      cases sW;have:(l.at 0 0).add (n*i.size)=l.at b.n 0:=by
       rw [Loc.jC]; unfold Loc.at; congr 1;rw [hB.ah,gr,dq,fM]; omega
      rw [this]; exact h1
     ·have kg:s.m=0:=by omega
      have xO:L=[]:=List.eq_nil_of_length_eq_zero (by rw [hL,kg]; simp)
      refine ⟨.slice (some A) (n+s.m) c',w,ν.add aK l,?_,⟨hle,fun j hj=>Nu.iM hj,?_,.inl (Below.refl _ _),(fun h=>by cases h),fun b2 dF=>by
       cases dF;have vp:b'.n=b.n:=by rw [dR.num,kg]; rfl
       have aZ:∀ r,r < b.n→b'.row r=b.row r:=fun r hr=>by rw [dR.row r (by omega),ja hr]
       refine ⟨l,Nu.add_same,bN.mono hle ⟨by rw [dR.ah]; exact hB.ah,fun r hr=>by rw [vp] at hr; rw [aZ r hr,dR.ah]; exact hB.len r hr,
        fun r hr j v hv=>by rw [vp] at hr; rw [aZ r hr] at hv; exact hB.cell r hr j v hv,
        fun h r hr v hv=>by rw [vp] at hr; rw [aZ r hr] at hv; exact (mi (dR.flat h)).1 r hr v hv,
        fun r hr v hv=>by rw [vp] at hr; rw [aZ r hr] at hv; exact hB.one r hr v hv,
        fun _ _=>⟨cur,tt,jK,bc,by rw [vp]; exact ab4⟩,(fun r h=>by rw [(aj.cX dR.own).2] at h; cases h),hB.live⟩,.inr ⟨l,rfl,rfl⟩⟩⟩⟩
      ·rw [ck,kh];exact rC (P:=P) hu iE hL jN ki cP (fun A' sW=>by rw [xO]; rfl) (fun h=>by cases h)
      ·subst n9;rw [show n+s.m=0 by omega]
       exact .void _ _ _ _ (.inr rfl)
    ·have bE:(Builtin.append_ #[t,t] ty #[a.eval x,a.eval y]).run P w=.ok (.slice (some ⟨w.heap.size,0,none⟩) (n+s.m) (grownCap w (n+s.m) c' e)) (w.drew.alloc (tR (O++L).toArray z (grownCap w (n+s.m) c' e - (n+s.m)) e)):=by
      rw [ck,kh];exact AN (P:=P) (w:=w) (ty:=ty) hu iE hz (by rw [hO.len,gr,dq]) (fun a ha=>by cases ha; exact qS) (fun h=>by cases h) hL jN ki Dv (by omega) (by rw [ni]; exact lJ) (small _ lJ)
     have kH:=Nu.jX (l:=⟨w.heap.size,0,b.ah,grownCap w (n+s.m) c' e⟩) hn;have HR:Ext b' b.ah b.row n s.get s.m (b.oT && s.j7):=by rw [fM]; exact dR
     have ij:=vW (hO.mono kH) (hC.mono kH) HR (fun h=>⟨fun r hr v hv=>(mi h).1 r (by omega) v hv,(mi h).2⟩) (w:=w) jq (iH:=c') (e:=e)
     have dH:=grownCap_ge w (n+s.m) c' e;have cA:au (ν.add aK ⟨w.heap.size,0,b.ah,grownCap w (n+s.m) c' e⟩) (.slice (some ⟨aK,0,none⟩) (n+s.m) aO) (.slice (some ⟨w.heap.size,0,none⟩) (n+s.m) (grownCap w (n+s.m) c' e)):=by
      have:=au.slice (ν:=ν.add aK ⟨w.heap.size,0,b.ah,grownCap w (n+s.m) c' e⟩) aK 0 (n+s.m) aO (grownCap w (n+s.m) c' e) _ Nu.add_same (.inr rfl) dH (by simp)
      simpa [Loc.at] using this
     have hq:=mL hn ij (vS w _ _ _ _) (Nat.le_refl _) cA;exact ⟨_,_,_,bE,hq.e _⟩
   ·exact h.elim
  ·exact J.elim
 ·exact J.elim
end
end Go.Ae
