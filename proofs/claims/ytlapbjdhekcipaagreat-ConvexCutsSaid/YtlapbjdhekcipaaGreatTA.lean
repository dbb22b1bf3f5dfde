import Derived.OrdersIn
import Derived.CallsIn
import Derived.ControlIn
import Derived.Below
import Derived.Laws.IdiomCopy
import Derived.Laws.AppendOwn
import Derived.Laws.NewBlocks
import Derived.Laws.BytesString
import Derived.Laws.MakeOwn
import Derived.Laws.IdiomStrings
import Derived.RangeFuncSeq
set_option linter.unusedVariables false
set_option linter.unusedSimpArgs false
namespace Go.Ae
open Go Go.RowKit
structure Loc where
 aJ:Nat
 base:Nat
 ah:Nat
 cap:Nat
def Loc.at (l:Loc) (row cj:Nat):Addr:=⟨l.aJ,l.base+row*l.ah+cj,none⟩
abbrev Nu:=Nat→Option Loc
def Nu.le (ν aj:Nu):Prop:=∀ id l,ν id=some l→aj id=some l
theorem Nu.le_refl (ν:Nu):ν.le ν:=fun _ _ h=>h
theorem Nu.le_trans {a b c:Nu} (h:a.le b) (k:b.le c):a.le c:=fun id l e=>k id l (h id l e)
def Nu.add (ν:Nu) (id:Nat) (l:Loc):Nu:=fun j=>if j=id then some l else ν j
theorem Nu.ko {ν:Nu} {id:Nat} {l:Loc} (h:ν id=none):ν.le (ν.add id l):=by
 intro j k hj;by_cases e:j=id
 ·subst e; rw [h] at hj; cases hj
 ·simp [Nu.add,e,hj]
theorem Nu.add_same {ν:Nu} {id:Nat} {l:Loc}:ν.add id l id=some l:=by simp [Nu.add]
theorem Nu.jc {ν:Nu} {id j:Nat} {l:Loc} (h:j≠id):ν.add id l j=ν j:=by simp [Nu.add,h]
def cW:Value→Bool
 | .bool _ | .int _ _ | .string _=>true
 | _=>false
def ao:Nat:=9223372036854775808
inductive au (ν:Nu):Value→Value→Prop
 | bool (b:Bool):au ν (.bool b) (.bool b)
 | int (k:IntKind) (n:Int):au ν (.int k n) (.int k n)
 | str (s:ByteArray):au ν (.string s) (.string s)
 | mI:au ν (.pointer none) (.pointer none)
 | ptr (id row:Nat) (sp:Option Nat) (l:Loc) (h:ν id=some l):au ν (.pointer (some ⟨id,row,sp⟩)) (.pointer (some (l.at row (sp.getD 0))))
 | iR:au ν (.slice none 0 0) (.slice none 0 0)
 | slice (id row n c c':Nat) (l:Loc) (h:ν id=some l) (hc:c'=c∨c=ao) (hn:n≤c') (hr:row+c'≤l.cap) :
   au ν (.slice (some ⟨id,row,none⟩) n c) (.slice (some (l.at row 0)) n c')
 | void (id row c:Nat) (a:Addr) (hc:0=c∨c=ao):au ν (.slice (some ⟨id,row,none⟩) 0 c) (.slice (some a) 0 0)
 | mi (id row m n c':Nat) (l:Loc) (h:ν id=some l) (hm:m≤c') (hn:n≤c') (hr:row+c'≤l.cap) :
   au ν (.slice (some ⟨id,row,some m⟩) n ao) (.slice (some (l.at row 0)) n c')
 | kZ (id row:Nat) (a:Addr):au ν (.slice (some ⟨id,row,some 0⟩) 0 ao) (.slice (some a) 0 0)
 | mJ:au ν .nilFunc .nilFunc
 | func (fn:Fn) (xs ys nP dy:List Value) (h1:xs.length=ys.length) (J:∀ (i:Nat) (x y:Value),xs[i]?=some x→ys[i]?=some y→au ν x y)
   (h3:nP.length=dy.length) (h4:∀ (i:Nat) (x y:Value),nP[i]?=some x→dy[i]?=some y→au ν x y) :
   au ν (.func fn ⟨xs⟩ ⟨nP⟩) (.func fn ⟨ys⟩ ⟨dy⟩)
 | agg (xs ys:List Value) (h1:xs.length=ys.length) (J:∀ (i:Nat) (x y:Value),xs[i]?=some x→ys[i]?=some y→au ν x y):au ν (.agg ⟨xs⟩) (.agg ⟨ys⟩)
 | tuple (xs ys:List Value) (h1:xs.length=ys.length) (J:∀ (i:Nat) (x y:Value),xs[i]?=some x→ys[i]?=some y→au ν x y):au ν (.tuple ⟨xs⟩) (.tuple ⟨ys⟩)
 | dead (w:Value) (h:w.oneCell'=true):au ν (.chan none) w
def bn (ν:Nu) (xs ys:List Value):Prop:=xs.length=ys.length∧∀ (i:Nat) (x y:Value),xs[i]?=some x→ys[i]?=some y→au ν x y
theorem au.mono {ν aj:Nu} (hle:ν.le aj) {v w:Value} (h:au ν v w):au aj v w:=by
 induction h with
 | bool b=>exact .bool b
 | int k n=>exact .int k n
 | str s=>exact .str s
 | mI=>exact .mI
 | ptr id row sp l h=>exact .ptr id row sp l (hle _ _ h)
 | iR=>exact .iR
 | slice id row n c c' l h hc hn hr=>exact .slice id row n c c' l (hle _ _ h) hc hn hr
 | void id row c a hc=>exact .void id row c a hc
 | mi id row m n c' l h hm hn hr=>exact .mi id row m n c' l (hle _ _ h) hm hn hr
 | kZ id row a=>exact .kZ id row a
 | mJ=>exact .mJ
 | func fn xs ys nP dy h1 _ h3 _ i2 i4=>exact .func fn xs ys nP dy h1 i2 h3 i4
 | agg xs ys h1 _ i2=>exact .agg xs ys h1 i2
 | tuple xs ys h1 _ i2=>exact .tuple xs ys h1 i2
 | dead w h=>exact .dead w h
theorem bn.mono {ν aj:Nu} (hle:ν.le aj) {xs ys:List Value} (h:bn ν xs ys):bn aj xs ys :=
 ⟨h.1,fun i x y hx hy=>(h.2 i x y hx hy).mono hle⟩
theorem bn.nil (ν:Nu):bn ν [] []:=⟨rfl,fun i x y hx _=>by simp at hx⟩
theorem bn.cons {ν:Nu} {x y:Value} {xs ys:List Value} (h:au ν x y) (hs:bn ν xs ys):bn ν (x::xs) (y::ys):=by
 refine ⟨by simp [hs.1],fun i a b ha hb=>?_⟩
 cases i with
 | zero=>simp at ha hb; subst ha; subst hb; exact h
 | succ i=>exact hs.2 i a b (by simpa using ha) (by simpa using hb)
theorem bn.head {ν:Nu} {x y:Value} {xs ys:List Value} (h:bn ν (x::xs) (y::ys)):au ν x y:=h.2 0 x y rfl rfl
theorem bn.tail {ν:Nu} {x y:Value} {xs ys:List Value} (h:bn ν (x::xs) (y::ys)):bn ν xs ys :=
 ⟨by have:=h.1; simpa using this,fun i a b ha hb=>h.2 (i+1) a b (by simpa using ha) (by simpa using hb)⟩
theorem bn.jw {ν:Nu} {x:Value} {xs zs:List Value} (h:bn ν (x::xs) zs):∃ y ys,zs=y::ys∧au ν x y∧bn ν xs ys:=by
 cases zs with
 | nil=>simp [bn] at h
 | cons y ys=>exact ⟨y,ys,rfl,h.head,h.tail⟩
theorem bn.jb {ν:Nu} {zs:List Value} (h:bn ν [] zs):zs=[]:=by
 cases zs with
 | nil=>rfl
 | cons y ys=>simp [bn] at h
theorem bn.append {ν:Nu} {a b c d:List Value} (h:bn ν a b) (k:bn ν c d):bn ν (a++c) (b++d):=by
 induction a generalizing b with
 | nil=>rw [bn.jb h]; exact k
 | cons x xs ih=>obtain ⟨y,ys,rfl,h1,J⟩:=h.jw; exact .cons h1 (ih J)
theorem bn.get {ν:Nu} {xs ys:List Value} (h:bn ν xs ys) {i:Nat} {x:Value} (hx:xs[i]?=some x):∃ y,ys[i]?=some y∧au ν x y:=by
 have hi:i < xs.length:=(List.getElem?_eq_some_iff.1 hx).1;refine ⟨ys[i]'(h.1 ▸ hi),List.getElem?_eq_getElem _,h.2 i _ _ hx (List.getElem?_eq_getElem _)⟩
theorem bn.set {ν:Nu} {xs ys:List Value} (h:bn ν xs ys) {v w:Value} (hv:au ν v w) (i:Nat):bn ν (xs.set i v) (ys.set i w):=by
 refine ⟨by simp [h.1],fun j x y hx hy=>?_⟩
 rw [List.getElem?_set] at hx hy;by_cases e:i=j
 ·subst e;rw [if_pos rfl] at hx hy
  split at hx
  ·split at hy
   ·cases hx; cases hy; exact hv
   ·cases hy
  ·cases hx
 ·rw [if_neg e] at hx hy;exact h.2 j x y hx hy
theorem au.kl {ν:Nu} {v w:Value} (h:cW v=true) (hr:au ν v w):w=v:=by
 cases hr <;> simp_all [cW]
theorem au.kj {ν:Nu} {v:Value} (h:cW v=true):au ν v v:=by
 cases v <;> simp [cW] at h <;> constructor
theorem au.uy {ν:Nu} {xs:List Value} {r:Value} (h:au ν (.agg ⟨xs⟩) r):∃ ys,r=.agg ⟨ys⟩∧bn ν xs ys:=by
 cases h with | agg _ ys h1 J=>exact ⟨ys,rfl,h1,J⟩
theorem au.n6 {ν:Nu} {xs:List Value} {r:Value} (h:au ν (.tuple ⟨xs⟩) r):∃ ys,r=.tuple ⟨ys⟩∧bn ν xs ys:=by
 cases h with | tuple _ ys h1 J=>exact ⟨ys,rfl,h1,J⟩
theorem au.undef (ν:Nu):au ν undef undef:=.tuple [] [] rfl (fun i x y hx _=>by simp at hx)
theorem au.B5 {ν:Nu} {v w:Value} (h:au ν v w):w.oneCell'=v.oneCell':=by cases h <;> first | rfl | assumption
theorem au.cells {ν:Nu} {v w:Value} (h:au ν v w):bn ν v.cells.toList w.cells.toList:=by
 cases h with
 | agg xs ys h1 J=>exact ⟨h1,J⟩
 | bool b=>exact .cons (.bool b) (.nil ν)
 | int k n=>exact .cons (.int k n) (.nil ν)
 | str s=>exact .cons (.str s) (.nil ν)
 | mI=>exact .cons .mI (.nil ν)
 | ptr id row sp l h=>exact .cons (.ptr id row sp l h) (.nil ν)
 | iR=>exact .cons .iR (.nil ν)
 | slice id row n c c' l h hc hn hr=>exact .cons (.slice id row n c c' l h hc hn hr) (.nil ν)
 | void id row c a hc=>exact .cons (.void id row c a hc) (.nil ν)
 | mi id row m n c' l h hm hn hr=>exact .cons (.mi id row m n c' l h hm hn hr) (.nil ν)
 | kZ id row a=>exact .cons (.kZ id row a) (.nil ν)
 | mJ=>exact .cons .mJ (.nil ν)
 | func fn xs ys nP dy h1 J h3 h4=>exact .cons (.func fn xs ys nP dy h1 J h3 h4) (.nil ν)
 | tuple xs ys h1 J=>exact .cons (.tuple xs ys h1 J) (.nil ν)
 | dead w h=>
  have e:w.cells=#[w]:=by cases w <;> first | rfl | simp [Value.oneCell'] at h
  rw [e]; exact .cons (.dead w h) (.nil ν)
inductive ai where
 | aR (own:Bool) (ah:Nat) (rows:List (List Value))
 | flat (own:Bool) (n ah:Nat) (get:Nat→List Value)
 | cB (r:Loop)
def ai.own:ai→Bool
 | .aR o _ _ | .flat o _ _ _=>o
 | .cB _=>true
def ai.ah:ai→Nat
 | .aR _ e _ | .flat _ _ e _=>e
 | .cB _=>0
def ai.n:ai→Nat
 | .aR _ _ rows=>rows.length
 | .flat _ n _ _=>n
 | .cB _=>0
def ai.row:ai→Nat→List Value
 | .aR _ _ rows=>fun r=>rows.getD r []
 | .flat _ _ _ get=>get
 | .cB _=>fun _=>[]
def ai.jd:ai→Bool
 | .aR ..=>false
 | .flat ..=>true
 | .cB _=>false
def ai.oh:ai→Bool
 | .aR o _ _ | .flat o _ _ _=>o
 | .cB _=>false
def ai.rc:ai→Option Loop
 | .cB r=>some r
 | _=>none
abbrev aA:=List (Option ai)
theorem ai.dm {b:ai} (h:b.oh=true):b.own=true∧b.rc=none:=by
 cases b with
 | aR o e r=>exact ⟨h,rfl⟩
 | flat o n e g=>exact ⟨h,rfl⟩
 | cB r=>cases h
structure bS (ν:Nu) (l:Loc) (b:ai) (w:World):Prop where
 ah:l.ah=b.ah
 len:∀ r,r < b.n→(b.row r).length=b.ah
 cell:∀ r,r < b.n→∀ j v,(b.row r)[j]?=some v→∃ v',w.cell? (l.at r j)=some v'∧au ν v v'
 plain:b.jd=true→∀ r,r < b.n→∀ v∈b.row r,cW v=true
 one:∀ r,r < b.n→∀ v∈b.row r,v.oneCell'=true
 own:b.own=true→b.rc=none→∃ cur t,w.heap[l.aJ]?=some (.cells cur t (0,0))∧l.base+l.cap*l.ah≤cur.size∧b.n≤l.cap
 lr:∀ r,b.rc=some r→w.heap[l.aJ]?=some (.loop r)
 live:l.aJ < w.heap.size
structure bU (ν:Nu) (H:aA) (w:World):Prop where
 aJ:∀ id b,H[id]?=some (some b)→∃ l,ν id=some l∧bS ν l b w
 sep:∀ i j bi bj li lj,H[i]?=some (some bi)→H[j]?=some (some bj)→i≠j→bi.own=true→ν i=some li→ν j=some lj→li.aJ≠lj.aJ
theorem SV {w w':World} (h:Below w.heap.size w w') {a:Addr} {v:Value} (hc:w.cell? a=some v):w'.cell? a=some v :=
 (World.cell?_of_block (h.block _ (World.block_lt_of_cell? w a hc))).trans hc
theorem bS.below {ν:Nu} {l:Loc} {b:ai} {w w':World} (h:bS ν l b w) (hb:Below w.heap.size w w'):bS ν l b w' :=
 ⟨h.ah,h.len,fun r hr j v hv=>let ⟨v',hc,iV⟩:=h.cell r hr j v hv; ⟨v',SV hb hc,iV⟩,h.plain,h.one,
   fun ho hc=>let ⟨cur,t,h1,J⟩:=h.own ho hc; ⟨cur,t,by rw [hb.block _ h.live]; exact h1,J⟩,fun r hr=>(hb.block _ h.live).trans (h.lr r hr),Nat.lt_of_lt_of_le h.live hb.size⟩
theorem bS.same {ν:Nu} {l:Loc} {b:ai} {w w':World} (h:bS ν l b w) (he:w'.heap[l.aJ]?=w.heap[l.aJ]?) (hs:w.heap.size≤w'.heap.size):bS ν l b w' :=
 ⟨h.ah,h.len,fun r hr j v hv=>let ⟨v',hc,iV⟩:=h.cell r hr j v hv; ⟨v',by rw [World.cell?_of_block (a:=l.at r j) he]; exact hc,iV⟩,h.plain,h.one,
   fun ho hc=>let ⟨cur,t,h1,J⟩:=h.own ho hc; ⟨cur,t,by rw [he]; exact h1,J⟩,fun r hr=>he.trans (h.lr r hr),Nat.lt_of_lt_of_le h.live hs⟩
theorem bS.mono {ν aj:Nu} (hle:ν.le aj) {l:Loc} {b:ai} {w:World} (h:bS ν l b w):bS aj l b w :=
 ⟨h.ah,h.len,fun r hr j v hv=>let ⟨v',hc,iV⟩:=h.cell r hr j v hv; ⟨v',hc,iV.mono hle⟩,h.plain,h.one,h.own,h.lr,h.live⟩
theorem bU.below {ν:Nu} {H:aA} {w w':World} (h:bU ν H w) (hb:Below w.heap.size w w'):bU ν H w' :=
 ⟨fun id b hi=>let ⟨l,h1,J⟩:=h.aJ id b hi; ⟨l,h1,J.below hb⟩,h.sep⟩
theorem bU.mono {ν aj:Nu} (hle:ν.le aj) {H:aA} {w:World} (h:bU ν H w):bU aj H w :=
 ⟨fun id b hi=>let ⟨l,h1,J⟩:=h.aJ id b hi; ⟨l,hle _ _ h1,J.mono hle⟩,
   fun i j bi bj li lj hi hj aN ho h1 J=>by
  obtain ⟨l1,e1,_⟩:=h.aJ i bi hi;obtain ⟨l2,e2,_⟩:=h.aJ j bj hj;have:=hle _ _ e1; rw [h1] at this; cases this;have:=hle _ _ e2; rw [J] at this; cases this;exact h.sep i j bi bj _ _ hi hj aN ho e1 e2⟩
def aA.le (H G:aA):Prop:=∀ (id:Nat) (b:ai),H[id]?=some (some b)→G[id]?=some (some b)
theorem bU.sG {ν:Nu} {H G:aA} {w:World} (h:bU ν G w) (hle:aA.le H G):bU ν H w :=
 ⟨fun id b hi=>h.aJ id b (hle id b hi),fun i j bi bj li lj hi hj=>h.sep i j bi bj li lj (hle i bi hi) (hle j bj hj)⟩
theorem bU.push {ν:Nu} {H:aA} {w w':World} (h:bU ν H w) (hb:Below w.heap.size w w') {id:Nat} (hn:ν id=none) {l:Loc} {b:ai} (G:aA)
  (hG:∀ j c,G[j]?=some (some c)→(j=id∧c=b)∨(j≠id∧H[j]?=some (some c))) (hl:w.heap.size≤l.aJ)
  (hB:bS (ν.add id l) l b w'):bU (ν.add id l) G w':=by
 have hle:ν.le (ν.add id l):=Nu.ko hn;have h':=(h.mono hle).below hb;refine ⟨fun j c hj=>?_,fun i j bi bj li lj hi hj aN ho h1 J=>?_⟩
 ·rcases hG j c hj with ⟨rfl,rfl⟩ | ⟨_,gy⟩
  ·exact ⟨l,Nu.add_same,hB⟩
  ·exact h'.aJ j c gy
 ·rcases hG i bi hi with ⟨rfl,rfl⟩ | ⟨_,aS⟩ <;> rcases hG j bj hj with ⟨rfl,rfl⟩ | ⟨_,gy⟩
  ·exact absurd rfl aN
  ·obtain ⟨l2,e2,dW⟩:=h.aJ j bj gy;have:=hle _ _ e2; rw [J] at this; cases this;rw [Nu.add_same] at h1; cases h1;have:=dW.live;omega
  ·obtain ⟨l2,e2,dW⟩:=h.aJ i bi aS;have:=hle _ _ e2; rw [h1] at this; cases this;rw [Nu.add_same] at J; cases J;have:=dW.live;omega
  ·exact h'.sep i j bi bj li lj aS gy aN ho h1 J
def qO:List Value→Nat→(Value→Prop)→Prop
 | [],_,_=>False
 | v::_,0,k=>k v
 | _::l,n+1,k=>qO l n k
def xF:List Value→Nat→Value→(List Value→Prop)→Prop
 | [],_,_,_=>False
 | _::l,0,v,k=>k (v::l)
 | x::l,n+1,v,k=>xF l n v fun l'=>k (x::l')
theorem oS:∀ {l:List Value} {n:Nat} {k:Value→Prop},qO l n k→∃ v,l[n]?=some v∧k v
 | [],_,_,h=>h.elim
 | v::_,0,_,h=>⟨v,rfl,h⟩
 | _::l,n+1,k,h=>by obtain ⟨v,h1,J⟩:=oS (l:=l) h; exact ⟨v,by simpa using h1,J⟩
theorem oT:∀ {l:List Value} {n:Nat} {v:Value} {k:List Value→Prop},xF l n v k→n < l.length∧k (l.set n v)
 | [],_,_,_,h=>h.elim
 | _::l,0,v,k,h=>⟨by simp,h⟩
 | x::l,n+1,v,k,h=>by
  obtain ⟨h1,J⟩:=oT (l:=l) h;exact ⟨by simpa using h1,by simpa using J⟩
def GW (v:Value) (k:Value→Prop):Prop :=
 match v with
 | .bool b=>k (.bool b)
 | .int q n=>k (.int q n)
 | .string s=>k (.string s)
 | .pointer none=>k (.pointer none)
 | .slice none 0 0=>k (.slice none 0 0)
 | .nilFunc=>k .nilFunc
 | _=>False
theorem KM {v:Value} {k:Value→Prop} (h:GW v k):k v∧∀ ν,au ν v v:=by
 unfold GW at h
 split at h
 ·exact ⟨h,fun ν=>.bool _⟩
 ·exact ⟨h,fun ν=>.int _ _⟩
 ·exact ⟨h,fun ν=>.str _⟩
 ·exact ⟨h,fun ν=>.mI⟩
 ·exact ⟨h,fun ν=>.iR⟩
 ·exact ⟨h,fun ν=>.mJ⟩
 ·exact h.elim
def b9 (tmps:List Value) (x:Operand) (k:Value→Prop):Prop :=
 match x with
 | .tmp t=>qO tmps t k
 | .const v=>GW v k
 | .func f=>k (.func (.func f) #[] #[])
 | .global _=>False
def fC (ν:Nu) (tmps:List Value) (a:Act) (x:Operand):Prop :=
 ∀ t,x=.tmp t→∀ v,tmps[t]?=some v→∃ v',a.tmps[t]?=some v'∧au ν v v'
theorem kQ {tmps:List Value} {x:Operand} {k:Value→Prop} (h:b9 tmps x k) {ν:Nu} {a:Act} (ha:fC ν tmps a x) :
  ∃ v,k v∧au ν v (a.eval x):=by
 cases x with
 | tmp t =>
  obtain ⟨v,h1,J⟩:=oS h;obtain ⟨v',h3,h4⟩:=ha t rfl v h1;exact ⟨v,J,by simpa [Act.eval,h3] using h4⟩
 | const v=>obtain ⟨h1,J⟩:=KM h; exact ⟨v,h1,J ν⟩
 | func f=>exact ⟨_,h,.func _ [] [] [] [] rfl (fun i x y hx _=>by simp at hx) rfl (fun i x y hx _=>by simp at hx)⟩
 | global g=>exact h.elim
theorem c9 {tmps:List Value} {x:Operand} {k:Value→Prop} (h:b9 tmps x k) :
  ∃ v,k v∧∀ (ν:Nu) (a:Act),fC ν tmps a x→au ν v (a.eval x):=by
 cases x with
 | tmp t =>
  obtain ⟨v,h1,J⟩:=oS h;refine ⟨v,J,fun ν a ha=>?_⟩
  obtain ⟨v',h3,h4⟩:=ha t rfl v h1
  simpa [Act.eval,h3] using h4
 | const v=>obtain ⟨h1,J⟩:=KM h; exact ⟨v,h1,fun ν a _=>J ν⟩
 | func f=>exact ⟨_,h,fun ν a _=>.func _ [] [] [] [] rfl (fun i x y hx _=>by simp at hx) rfl (fun i x y hx _=>by simp at hx)⟩
 | global g=>exact h.elim
def qf (tmps:List Value):List Operand→(List Value→Prop)→Prop
 | [],k=>k []
 | x::xs,k=>b9 tmps x fun v=>qf tmps xs fun vs=>k (v::vs)
theorem EG {tmps:List Value} {ν:Nu} {a:Act}:∀ {xs:List Operand} {k:List Value→Prop},qf tmps xs k→(∀ x∈xs,fC ν tmps a x) →
  ∃ vs,k vs∧bn ν vs (xs.map a.eval)
 | [],k,h,_=>⟨[],h,.nil ν⟩
 | x::xs,k,h,ha=>by
  obtain ⟨v,h1,J⟩:=kQ h (ha x (by simp))
  obtain ⟨vs,h3,h4⟩:=EG h1 (fun y hy=>ha y (by simp [hy]))
  exact ⟨v::vs,h3,.cons J h4⟩
theorem Bm {tmps:List Value}:∀ {xs:List Operand} {k:List Value→Prop},qf tmps xs k →
  ∃ vs,k vs∧∀ (ν:Nu) (a:Act),(∀ x∈xs,fC ν tmps a x)→bn ν vs (xs.map a.eval)
 | [],k,h=>⟨[],h,fun ν a _=>.nil ν⟩
 | x::xs,k,h=>by
  obtain ⟨v,h1,J⟩:=c9 h;obtain ⟨vs,h3,h4⟩:=Bm h1;exact ⟨v::vs,h3,fun ν a ha=>.cons (J ν a (ha x (by simp))) (h4 ν a (fun y hy=>ha y (by simp [hy])))⟩
def uI:List Value→Nat→Nat→(List Value→Prop)→Prop
 | _,0,0,k=>k []
 | [],0,_+1,_=>False
 | v::l,0,n+1,k=>uI l 0 n fun vs=>k (v::vs)
 | [],_+1,_,_=>False
 | _::l,o+1,n,k=>uI l o n k
theorem yn:∀ {l:List Value} {o n:Nat} {k:List Value→Prop},uI l o n k→∃ vs,k vs∧vs.length=n∧∀ j v,vs[j]?=some v→l[o+j]?=some v
 | l,0,0,k,h=>⟨[],by cases l <;> exact h,rfl,fun j v hv=>by simp at hv⟩
 | [],0,_+1,_,h=>h.elim
 | v::l,0,n+1,k,h=>by
  obtain ⟨vs,h1,J,h3⟩:=yn (l:=l) h;refine ⟨v::vs,h1,by simp [J],fun j u hu=>?_⟩
  cases j with
  | zero=>simpa using hu
  | succ j=>have:=h3 j u (by simpa using hu); simpa using this
 | [],o+1,n,k,h=>by cases n <;> exact h.elim
 | x::l,o+1,n,k,h=>by
  have h':uI l o n k:=by cases n <;> exact h
  obtain ⟨vs,h1,J,h3⟩:=yn (l:=l) h';exact ⟨vs,h1,J,fun j v hv=>by have:=h3 j v hv; rwa [show o+1+j=(o+j)+1 by omega,List.getElem?_cons_succ]⟩
def u7:List Value→Nat→List Value→(List Value→Prop)→Prop
 | l,0,[],k=>k l
 | [],0,_::_,_=>False
 | _::l,0,v::vs,k=>u7 l 0 vs fun l'=>k (v::l')
 | [],_+1,_,_=>False
 | x::l,o+1,vs,k=>u7 l o vs fun l'=>k (x::l')
theorem yx:∀ {l:List Value} {o:Nat} {vs:List Value} {k:List Value→Prop},u7 l o vs k →
  ∃ l',k l'∧l'.length=l.length∧o+vs.length≤l.length∧(∀ j v,vs[j]?=some v→l'[o+j]?=some v)∧∀ j,(j < o∨o+vs.length≤j)→l'[j]?=l[j]?
 | l,0,[],k,h=>⟨l,by cases l <;> exact h,rfl,by simp,fun j v hv=>by simp at hv,fun _ _=>rfl⟩
 | [],0,_::_,_,h=>h.elim
 | x::l,0,v::vs,k,h=>by
  obtain ⟨l',h1,J,h3,h4,h5⟩:=yx (l:=l) h;refine ⟨v::l',h1,by simp [J],by simp at h3 ⊢; omega,fun j u hu=>?_,fun j hj=>?_⟩
  ·cases j with
   | zero=>simpa using hu
   | succ j=>have:=h4 j u (by simpa using hu); simpa using this
  ·cases j with
   | zero=>simp at hj
   | succ j=>have:=h5 j (by simp at hj ⊢; omega); simpa using this
 | [],o+1,vs,k,h=>by cases vs <;> exact h.elim
 | x::l,o+1,vs,k,h=>by
  have h':u7 l o vs fun l'=>k (x::l'):=by cases vs <;> exact h
  obtain ⟨l',h1,J,h3,h4,h5⟩:=yx (l:=l) h';refine ⟨x::l',h1,by simp [J],by simp; omega,fun j u hu=>?_,fun j hj=>?_⟩
  ·have:=h4 j u hu; rwa [show o+1+j=(o+j)+1 by omega,List.getElem?_cons_succ]
  ·cases j with
   | zero=>simp
   | succ j=>have:=h5 j (by omega); simpa using this
def gX:aA→Nat→(ai→Prop)→Prop
 | [],_,_=>False
 | b::_,0,k=>match b with | some b=>k b | none=>False
 | _::H,n+1,k=>gX H n k
theorem gK:∀ {H:aA} {id:Nat} {k:ai→Prop},gX H id k→∃ b,H[id]?=some (some b)∧k b
 | [],_,_,h=>h.elim
 | some b::_,0,_,h=>⟨b,rfl,h⟩
 | none::_,0,_,h=>h.elim
 | _::H,n+1,k,h=>by obtain ⟨b,h1,J⟩:=gK (H:=H) h; exact ⟨b,by simpa using h1,J⟩
def jD:aA→Nat→Option ai→(aA→Prop)→Prop
 | [],_,_,_=>False
 | _::H,0,b,k=>k (b::H)
 | c::H,n+1,b,k=>jD H n b fun H'=>k (c::H')
theorem my:∀ {H:aA} {id:Nat} {b:Option ai} {k:aA→Prop},jD H id b k→id < H.length∧k (H.set id b)
 | [],_,_,_,h=>h.elim
 | _::H,0,_,_,h=>⟨by simp,h⟩
 | c::H,n+1,b,k,h=>by obtain ⟨h1,J⟩:=my (H:=H) h; exact ⟨by simpa using h1,by simpa using J⟩
def pf:aA→Option ai→(aA→Prop)→Prop
 | [],b,k=>k [b]
 | c::H,b,k=>pf H b fun H'=>k (c::H')
theorem yo:∀ {H:aA} {b:Option ai} {k:aA→Prop},pf H b k→k (H++[b])
 | [],_,_,h=>h
 | _::H,b,k,h=>yo (H:=H) h
def jE:aA→(Nat→Prop)→Prop
 | [],k=>k 0
 | _::H,k=>jE H fun n=>k (n+1)
theorem mz:∀ {H:aA} {k:Nat→Prop},jE H k→k H.length
 | [],_,h=>h
 | _::H,k,h=>mz (H:=H) h
def br (b:Bool) (x y:Prop):Prop:=match b with | true=>x | false=>y
theorem aI {b:Bool} {x y:Prop} (h1:b=true→x) (J:b=false→y):br b x y:=by cases b <;> simp_all [br]
theorem B6 {b:Bool} {x y:Prop} (h:br b x y) (hb:b=true):x:=by subst hb; exact h
theorem BJ {b:Bool} {x y:Prop} (h:br b x y) (hb:b=false):y:=by subst hb; exact h
theorem nr {b:Bool} {x y:Prop} (h:b=true) (hx:x):br b x y:=by subst h; exact hx
def xG (p:Prop) [Decidable p] (k:Prop):Prop:=br (decide p) k False
theorem Bs {p:Prop} [Decidable p] {k:Prop} (h:xG p k):p∧k:=by
 unfold xG br at h
 split at h
 ·rename_i hp; exact ⟨of_decide_eq_true hp,h⟩
 ·exact h.elim
open Go Go.RowKit
inductive TK where
 | int (k:IntKind) | bool | str
 | struct (fs:List (Nat × Nat × Bool))      -- offset,size,is it a struct or an array
 | slice (e:TypeId)
 | array (n:Nat) (e:TypeId)
 | other
structure TI where
 size:Nat
 bytes:Nat
 kind:TK
 zero:List Value
def TI.agg (ti:TI):Bool:=match ti.kind with | .struct _ | .array _ _=>true | _=>false
abbrev TT:=TypeId→Option TI
def uz:TypeDesc→Bool
 | .struct _ | .array _ _=>true
 | _=>false
def yR (P:Program) (f:Field) (x:Nat × Nat × Bool):Prop :=
 f.offset=x.1∧0 < x.2.1∧(∃ i,P.info? f.type=some i∧i.size=x.2.1)∧∃ d,P.underlying f.type=some d∧uz d=x.2.2
def Dx (P:Program) (k:TK) (d:TypeDesc):Prop :=
 match k with
 | .int q=>d=.int q
 | .bool=>d=.bool
 | .str=>d=.string
 | .struct fs=>∃ fields,d=.struct fields∧fields.size=fs.length∧∀ (i:Nat) f x,fields[i]?=some f→fs[i]?=some x→yR P f x
 | .slice e=>d=.slice e
 | .array n e=>d=.array n e
 | .other=>uz d=false
structure aC (P:Program) (t:TypeId) (ti:TI):Prop where
 info:∃ i,P.info? t=some i∧i.size=ti.size∧i.bytes=ti.bytes∧∃ z,i.zero=some z∧z.cells=⟨ti.zero⟩
 under:∃ d,P.underlying t=some d∧Dx P ti.kind d
 self:∀ ν,bn ν ti.zero ti.zero
 len:ti.zero.length=ti.size
 one:∀ v∈ti.zero,v.oneCell'=true
 bit:0 < ti.size∧0 < ti.bytes
theorem aC.adL {P:Program} {t:TypeId} {ti:TI} (h:aC P t ti):∃ d,P.underlying t=some d∧uz d=ti.agg:=by
 obtain ⟨d,h1,J⟩:=h.under;refine ⟨d,h1,?_⟩;unfold Dx at J;unfold TI.agg
 split at J <;> rename_i hk <;> rw [hk] <;> first | (subst J; rfl) | (obtain ⟨_,rfl,_⟩:=J; rfl) | (simpa using J)
theorem LZ {P:Program} {t:TypeId} {d:TypeDesc} (h:P.underlying t=some d) (w:World):(isAgg t).run P w=.ok (uz d) w:=by
 unfold isAgg underlying;simp [h];cases d <;> rfl
theorem gB {P:Program} {t:TypeId} {i:TypeInfo} (h:P.info? t=some i) (w:World):(sizeOf t).run P w=.ok i.size w:=by simp [sizeOf,typeInfo,h]
theorem vV {P:Program} {t:TypeId} {i:TypeInfo} {z:Value} (h:P.info? t=some i) (hz:i.zero=some z) (w:World):(zeroValue t).run P w=.ok z w:=by
 simp [zeroValue,typeInfo,h,hz]
theorem dO {P:Program} {t:TypeId} {d:TypeDesc} (h:P.underlying t=some d) (w:World):(underlying t).run P w=.ok d w:=by simp [underlying,h]
theorem Kr {P:Program} {t:TypeId} {ti:TI} (h:aC P t ti) {w:World} {a:Addr} {cs:List Value} (hl:cs.length=ti.size)
  (hc:∀ j v,cs[j]?=some v→w.cell? (a.add j)=some v) :
  (loadVar t a).run P w=.ok (if ti.agg then .agg ⟨cs⟩ else cs.getD 0 undef) w:=by
 obtain ⟨d,h1,J⟩:=h.adL;obtain ⟨i,hi,hs,_⟩:=h.info;unfold loadVar;simp only [Sem.run_bind,LZ h1,Result.andThen_ok,Sem.run_ite];rw [J]
 split
 ·simp only [Sem.run_bind,gB hi,Result.andThen_ok];rw [hs,← hl,run_loadCells_list w a cs hc]
  rfl
 ·have hp:=h.bit.1;cases cs with
  | nil=>simp at hl; omega
  | cons v r =>
   have:=hc 0 v rfl;simp only [Addr.add,if_true] at this;simp [run_load,this]
theorem Vr (b o j:Nat):(⟨b,o,none⟩:Addr).add j=⟨b,o+j,none⟩:=by unfold Addr.add; split <;> simp_all
theorem Loc.jS (l:Loc) (row cj j:Nat):(l.at row cj).add j=l.at row (cj+j):=by
 unfold Loc.at; rw [Vr]; congr 1; omega
open Go Go.RowKit
structure bG where
 ι:Type
 args:ι→List Value
 pre:ι→Prop
 val:ι→Value
structure ax where
 ι:Type
 args:ι→List Value
 ae:ι→List ai
 pre:ι→Prop
 val:ι→Value
 new:ι→Option ai
inductive uJ where
 | p (S:bG)
 | q (S:ax)
 | r (S:ax)
abbrev zl:=FuncId→Option uJ
def WF (r:Option Nat):Fence:={ Fence.wide with round:=r }
structure bc (P:Program) (f:FuncId) (S:bG):Prop where
 enters:∀ args w,(callFunc f args).run P w=.ok (.enter f args) w
 calls:∀ (i:S.ι),S.pre i→∀ (ν:Nu) (as:List Value) (w:World) (n:Nat),bn ν (S.args i) as →
  CallsIn Fence.wide n P f ⟨as⟩ w fun e w'=>∃ v',e=.returned v'∧au ν (S.val i) v'∧Below w.heap.size w w'
structure nz (ν aj:Nu) (aK:Nat) (w w':World) (v v':Value) (nb:Option ai):Prop where
 le:ν.le aj
 only:∀ id,id≠aK→aj id=ν id
 val:au aj v v'
 below:Below w.heap.size w w'
 z6:nb=none→aj=ν
 il:∀ b,nb=some b→∃ l,aj aK=some l∧bS aj l b w'∧w.heap.size≤l.aJ
structure dj (P:Program) (f:FuncId) (S:ax):Prop where
 enters:∀ args w,(callFunc f args).run P w=.ok (.enter f args) w
 ro:∀ i b,b∈S.ae i→b.own=false
 fl:∀ i b,S.new i=some b→b.jd=true
 calls:∀ (i:S.ι),S.pre i→∀ (ν:Nu) (as:List Value) (w:World) (n:Nat),bn ν (S.args i) as→bU ν ((S.ae i).map some) w→(∀ id,(S.ae i).length≤id→ν id=none) →
  CallsIn Fence.wide n P f ⟨as⟩ w fun e w'=>∃ v' aj,e=.returned v'∧nz ν aj (S.ae i).length w w' (S.val i) v' (S.new i)
def Db (P:Program) (f:FuncId):uJ→Prop
 | .p S=>bc P f S
 | .q S=>dj P f S
 | .r S=>dj P f S
abbrev QK:=Value→Option ai→Prop
def qh (v:Value) (k:Value→Prop):Prop :=
 match v with
 | .bool b=>k (.bool b)
 | .int q n=>k (.int q n)
 | .string s=>k (.string s)
 | .agg cs=>k (.agg cs)
 | .tuple cs=>k (.tuple cs)
 | .pointer a=>k (.pointer a)
 | .slice a n c=>k (.slice a n c)
 | .func f a b=>k (.func f a b)
 | .nilFunc=>k .nilFunc
 | _=>False
theorem vW {v:Value} {k:Value→Prop} (h:qh v k):k v:=by
 unfold qh at h; split at h <;> first | exact h | exact h.elim
def qP:List Value→List Value→(List Value→Prop)→Prop
 | [],l,k=>k l
 | x::xs,l,k=>qP xs l fun r=>k (x::r)
theorem wg:∀ {xs l:List Value} {k:List Value→Prop},qP xs l k→k (xs++l)
 | [],_,_,h=>h
 | _::xs,l,k,h=>wg (xs:=xs) h
def p5:List Value→Nat→Bool
 | [],0=>true
 | v::l,n+1=>v.oneCell' && p5 l n
 | _,_=>false
theorem yd:∀ {l:List Value} {n:Nat},p5 l n=true→l.length=n∧∀ v∈l,v.oneCell'=true
 | [],0,_=>⟨rfl,fun v hv=>by simp at hv⟩
 | v::l,n+1,h=>by
  simp only [p5,Bool.and_eq_true] at h;obtain ⟨h1,J⟩:=yd h.2;exact ⟨by simp [h1],fun u hu=>by
   rcases List.mem_cons.1 hu with e | e
   ·rw [e]; exact h.1
   ·exact J u e⟩
 | [],_+1,h=>by simp [p5] at h
 | _::_,0,h=>by simp [p5] at h
def wY (v:Value) (k:List Value→Prop):Prop :=
 match v with
 | .agg cs=>k cs.toList
 | .tuple _=>False
 | v=>k [v]
theorem A9 {v:Value} {k:List Value→Prop} (h:wY v k):k v.cells.toList:=by
 unfold wY at h
 split at h
 ·exact h
 ·exact h.elim
 ·rename_i h1 J;cases v <;> first | exact h | exact absurd rfl (h1 _)
def Hs:List (List Value)→Nat→(List Value→Prop)→Prop
 | [],_,_=>False
 | r::_,0,k=>k r
 | _::rs,n+1,k=>Hs rs n k
theorem K6:∀ {rs:List (List Value)} {n:Nat} {k:List Value→Prop},Hs rs n k→∃ r,rs[n]?=some r∧k r
 | [],_,_,h=>h.elim
 | r::_,0,_,h=>⟨r,rfl,h⟩
 | _::rs,n+1,k,h=>by obtain ⟨r,h1,J⟩:=K6 (rs:=rs) h; exact ⟨r,by simpa using h1,J⟩
def HW (b:ai) (row:Nat) (k:List Value→Prop):Prop :=
 match b with
 | .aR _ _ rows=>Hs rows row k
 | .flat _ n _ get=>row < n∧k (get row)
 | .cB _=>False
theorem L4 {b:ai} {row:Nat} {k:List Value→Prop} (h:HW b row k):row < b.n∧k (b.row row):=by
 cases b with
 | aR o e rows =>
  obtain ⟨r,h1,J⟩:=K6 h;exact ⟨(List.getElem?_eq_some_iff.1 h1).1,by simpa [ai.row,List.getD,h1] using J⟩
 | flat o n e get=>exact h
 | cB r=>exact h.elim
def yY:List (Nat × Nat × Bool)→Nat→(Nat→Nat→Bool→Prop)→Prop
 | [],_,_=>False
 | (a,b,c)::_,0,k=>k a b c
 | _::l,n+1,k=>yY l n k
theorem Ba:∀ {l:List (Nat × Nat × Bool)} {n:Nat} {k:Nat→Nat→Bool→Prop},yY l n k→∃ x,l[n]?=some x∧k x.1 x.2.1 x.2.2
 | [],_,_,h=>h.elim
 | x::_,0,_,h=>⟨x,rfl,h⟩
 | _::l,n+1,k,h=>by obtain ⟨r,h1,J⟩:=Ba (l:=l) h; exact ⟨r,by simpa using h1,J⟩
def dR (a b:Nat):Nat:=match a with | 0=>b | a+1=>(a+1)+b
theorem ar (a b:Nat):dR a b=a+b:=by cases a <;> simp [dR]
def cY (tt:TT) (t:TypeId) (k:TI→Prop):Prop:=match tt t with | some ti=>k ti | none=>False
theorem c5 {tt:TT} {t:TypeId} {k:TI→Prop} (h:cY tt t k):∃ ti,tt t=some ti∧k ti:=by
 unfold cY at h; split at h
 ·exact ⟨_,by assumption,h⟩
 ·exact h.elim
def valOf (agg:Bool) (cs:List Value):Value:=match agg,cs with | true,cs=>.agg ⟨cs⟩ | false,v::_=>v | false,[]=>undef
def Dc (agg:Bool) (cs:List Value) (k:Value→Prop):Prop :=
 match agg,cs with
 | true,cs=>k (.agg ⟨cs⟩)
 | false,v::_=>qh v k
 | false,[]=>k undef
def IQ (sp:Option Nat) (k:Nat→Prop):Prop:=match sp with | none=>k 0 | some c=>k c
theorem MP {sp:Option Nat} {k:Nat→Prop} (h:IQ sp k):k (sp.getD 0):=by cases sp <;> exact h
def cg (s:ByteArray) (i:Nat):Nat:=(s.data.toList.getD i 0).toNat
def CO (tmps:List Value) (x:Operand) (k:QK):Prop:=b9 tmps x fun v=>k v none
def OV (tmps:List Value) (c a b:Operand) (k:QK):Prop :=
 b9 tmps c fun cv=>match cv with
  | .bool t=>b9 tmps a fun av=>b9 tmps b fun bv =>
   match av,bv with
   | .bool x,.bool y=>k (.bool (bif t then x else y)) none
   | av,bv=>br t (k av none) (k bv none)
  | _=>False
def nt:List Value→List Value→Option (List Value)
 | [],l=>some l
 | .int q n::z,.int q' n'::l=>match decide (q=q') && decide (n=n') with | true=>nt z l | false=>none
 | .bool b::z,.bool b'::l=>match b == b' with | true=>nt z l | false=>none
 | .string s::z,.string s'::l=>match Nat.beq s.size 0 && Nat.beq s'.size 0 with | true=>nt z l | false=>none
 | _,_=>none
def zm (z:List Value):Nat→List Value→Bool
 | 0,[]=>true
 | 0,_::_=>false
 | n+1,l=>match nt z l with | some l'=>zm z n l' | none=>false
def Om (tt:TT) (t:TypeId) (aK:Nat) (k:QK):Prop :=
 cY tt t fun ti=>match ti.kind with
  | .array n e=>cY tt e fun te=>match Nat.beq te.size 1 && zm te.zero n ti.zero with
   | true=>k (.pointer (some ⟨aK,0,none⟩)) (some (.flat true n te.size fun _=>te.zero))
   | false=>k (.pointer (some ⟨aK,0,none⟩)) (some (.aR true ti.size [ti.zero]))
  | _=>k (.pointer (some ⟨aK,0,none⟩)) (some (.aR true ti.size [ti.zero]))
def Py (tt:TT) (tmps:List Value) (t:TypeId) (x:Operand) (aK:Nat) (k:QK):Prop :=
 cY tt t fun ti=>b9 tmps x fun v=>wY v fun cs=>match p5 cs ti.size with
  | true=>k (.pointer (some ⟨aK,0,none⟩)) (some (.aR true ti.size [cs]))
  | false=>False
def Ht (tt:TT) (tmps:List Value) (H:aA) (t:TypeId) (a:Operand) (k:QK):Prop :=
 b9 tmps a fun av=>match av with
  | .pointer (some ⟨id,row,sp⟩)=>cY tt t fun ti=>gX H id fun b=>HW b row fun cs=>IQ sp fun c=>uI cs c ti.size fun vs=>Dc ti.agg vs fun v=>k v none
  | _=>False
def K7 (tt:TT) (tmps:List Value) (t:TypeId) (x:Operand) (f:Nat) (k:QK):Prop :=
 b9 tmps x fun av=>match av with
  | .pointer (some ⟨id,row,sp⟩)=>cY tt t fun ti=>match ti.kind with
   | .struct fs=>yY fs f fun off _ _=>IQ sp fun c=>k (.pointer (some ⟨id,row,some (c+off)⟩)) none
   | _=>False
  | _=>False
def On (tt:TT) (tmps:List Value) (t:TypeId) (x:Operand) (f:Nat) (k:QK):Prop :=
 b9 tmps x fun av=>match av with
  | .agg cs=>cY tt t fun ti=>match ti.kind with
   | .struct fs=>yY fs f fun off sz ag=>uI cs.toList off sz fun vs=>Dc ag vs fun v=>k v none
   | _=>False
  | _=>False
def ER (tt:TT) (tmps:List Value) (H:aA) (t:TypeId) (x ix:Operand) (k:QK):Prop :=
 b9 tmps x fun xv=>b9 tmps ix fun iv=>match iv with
  | .int _ i=>cY tt t fun ti=>match ti.kind with
   | .slice e=>match xv with
    | .slice (some ⟨id,row,none⟩) n _=>cY tt e fun te=>gX H id fun b =>
     (0≤i∧i < (n:Int))∧match Nat.beq b.ah te.size with
      | true=>k (.pointer (some ⟨id,dR row i.toNat,none⟩)) none
      | false=>False
    | _=>False
   | .array n e=>match xv with
    | .pointer (some ⟨id,row,none⟩)=>cY tt e fun te=>gX H id fun b=>(0≤i∧i < (n:Int))∧match Nat.beq b.ah te.size with
     | true=>k (.pointer (some ⟨id,dR row i.toNat,none⟩)) none
     | false=>k (.pointer (some ⟨id,row,some (0+i.toNat*te.size)⟩)) none
    | .pointer (some ⟨id,row,some c⟩)=>cY tt e fun te=>(0≤i∧i < (n:Int))∧k (.pointer (some ⟨id,row,some (c+i.toNat*te.size)⟩)) none
    | _=>False
   | _=>False
  | _=>False
def Oo (tt:TT) (tmps:List Value) (t:TypeId) (x ix:Operand) (k:QK):Prop :=
 b9 tmps x fun xv=>b9 tmps ix fun iv=>match iv with
  | .int _ i=>cY tt t fun ti=>match ti.kind with
   | .str=>match xv with
    | .string s=>(0≤i∧i < (s.size:Int))∧k (.int .u8 (cg s i.toNat)) none
    | _=>False
   | _=>False
  | _=>False
def FJ (tmps:List Value) (x:Operand) (ix:Nat) (k:QK):Prop :=
 b9 tmps x fun xv=>match xv with
  | .tuple vs=>qO vs.toList ix fun v=>k v none
  | _=>False
def L5 (tmps:List Value) (fn:Fn) (first cap:List Operand) (k:QK):Prop :=
 qf tmps first fun a=>qf tmps cap fun b=>k (.func fn ⟨a⟩ ⟨b⟩) none
def Qp (tmps:List Value) (op:UnOp) (x:Operand) (k:QK):Prop :=
 b9 tmps x fun xv=>match op,xv with
  | .neg,.int q n=>k (.int q (q.wrap (0 - n))) none
  | .not,.bool b=>k (.bool !b) none
  | .xor,.int q n=>match Op.intBits .xor q (if q.signed then -1 else q.max) n with
   | .pure v=>qh v fun v=>match cW v with | true=>k v none | false=>False
   | _=>False
  | _,_=>False
def fi:List Value→List Value→Bool
 | [],[]=>true
 | .bool a::l,.bool b::m=>(a == b) && fi l m
 | .int _ a::l,.int _ b::m=>(a == b) && fi l m
 | .string a::l,.string b::m=>(a.toList == b.toList) && fi l m
 | _,_=>false
def fp:List Value→List Value→Bool
 | [],[]=>true
 | .bool _::l,.bool _::m=>fp l m
 | .int q _::l,.int q' _::m=>decide (q=q') && fp l m
 | .string _::l,.string _::m=>fp l m
 | _,_=>false
def xH (P:Program) (t:TypeId) (zero:List Value):Prop :=
 ∀ xs ys w,fp xs zero=true→fp ys zero=true→(Op.equal t (.agg ⟨xs⟩) (.agg ⟨ys⟩)).run P w=.ok (fi xs ys) w∧∀ x y op,(eqGuard op t x y (.agg ⟨xs⟩) (.agg ⟨ys⟩)).run P w=.ok () w
def OW (op:BinOp) (q:IntKind) (a b:Int) (k:QK):Prop :=
 match op with
 | .and | .or | .xor | .andNot=>match Op.intBits op q a b with
  | .pure v=>qh v fun v=>match cW v with | true=>k v none | false=>False
  | _=>False
 | _=>False
def B7 (op:BinOp) (q q':IntKind) (a b:Int) (k:QK):Prop :=
 match op with
 | .shl=>xG (0≤b) <| k (.int q (q.wrap (a*2 ^ (min b.toNat q.bits)))) none
 | .shr=>xG (0≤b) <| k (.int q (a.fdiv (2 ^ (min b.toNat q.bits)))) none
 | op=>match decide (q=q') with
  | true=>match op with
   | .add=>k (.int q (q.wrap (a+b))) none
   | .sub=>k (.int q (q.wrap (a - b))) none
   | .mul=>k (.int q (q.wrap (a*b))) none
   | .quo=>xG (b≠0) <| k (.int q (q.wrap (a.tdiv b))) none
   | .rem=>xG (b≠0) <| k (.int q (a.tmod b)) none
   | .eql=>k (.bool (a == b)) none
   | .neq=>k (.bool (a != b)) none
   | .lss=>k (.bool (decide (a < b))) none
   | .leq=>k (.bool (decide (a≤b))) none
   | .gtr=>k (.bool (decide (a > b))) none
   | .geq=>k (.bool (decide (a ≥ b))) none
   | op=>OW op q a b k
  | false=>False
def NB (op:BinOp) (a b:ByteArray) (k:QK):Prop :=
 match op with
 | .add=>(a.size+b.size < 9223372036854775808)∧k (.string (a++b)) none
 | .eql=>k (.bool (a.toList == b.toList)) none
 | .neq=>k (.bool !(a.toList == b.toList)) none
 | .lss=>k (.bool (Op.bytesLess a.toList b.toList)) none
 | .gtr=>k (.bool !(Op.bytesLess a.toList b.toList || a.toList == b.toList)) none
 | _=>False
def FK (tk:TK) (op:BinOp) (a b:Bool) (k:QK):Prop :=
 match tk,op with
 | .bool,.eql=>k (.bool (a == b)) none
 | .bool,.neq=>k (.bool !(a == b)) none
 | _,_=>False
def Gj (eqs:List TypeId) (t:TypeId) (zero:List Value) (op:BinOp) (a b:List Value) (k:QK):Prop :=
 match eqs.contains t && fp a zero && fp b zero,op with
 | true,.eql=>k (.bool (fi a b)) none
 | true,.neq=>k (.bool !(fi a b)) none
 | _,_=>False
def Gk (tk:TK) (op:BinOp) (a:Option Addr) (k:QK):Prop :=
 match tk,op,a with
 | .slice _,.eql,none=>k (.bool true) none
 | .slice _,.eql,some _=>k (.bool false) none
 | .slice _,.neq,none=>k (.bool false) none
 | .slice _,.neq,some _=>k (.bool true) none
 | _,_,_=>False
def Dd (tt:TT) (eqs:List TypeId) (tmps:List Value) (op:BinOp) (t:TypeId) (x y:Operand) (k:QK):Prop :=
 b9 tmps x fun xv=>b9 tmps y fun yv=>match xv,yv with
  | .int q a,.int q' b=>B7 op q q' a b k
  | .string a,.string b=>NB op a b k
  | .bool a,.bool b=>cY tt t fun ti=>FK ti.kind op a b k
  | .agg a,.agg b=>cY tt t fun ti=>Gj eqs t ti.zero op a.toList b.toList k
  | .slice a _ _,.slice none 0 0=>cY tt t fun ti=>Gk ti.kind op a k
  | _,_=>False
def bytesOf (get:Nat→List Value) (row n:Nat):List UInt8:=(List.range n).map fun r=>match get (row+r) with | .int _ x::_=>UInt8.ofNat x.toNat | _=>0
def MQ (tt:TT) (tmps:List Value) (H:aA) (src dst:TypeId) (x:Operand) (aK:Nat) (k:QK):Prop :=
 b9 tmps x fun xv=>cY tt src fun ts=>cY tt dst fun td=>match td.kind,xv with
  | .int q,.int _ n=>match ts.kind with
   | .int _=>k (.int q (q.wrap n)) none
   | _=>False
  | .str,.string s=>match ts.kind with
   | .str=>k (.string s) none
   | _=>False
  | .str,.slice (some ⟨id,row,none⟩) n _=>match ts.kind with
   | .slice e=>cY tt e fun te=>match te.kind with
    | .int .u8=>match n with
     | 0=>k (.string ⟨#[]⟩) none
     | n+1=>gX H id fun b=>match b.ah with
      | 1=>(row+(n+1)≤b.n∧∀ r,r < n+1→∃ x,b.row (row+r)=[.int .u8 x])∧k (.string ⟨⟨bytesOf b.row row (n+1)⟩⟩) none
      | _=>False
    | _=>False
   | _=>False
  | .str,.slice none 0 0=>match ts.kind with
   | .slice e=>cY tt e fun te=>match te.kind with
    | .int .u8=>k (.string ⟨#[]⟩) none
    | _=>False
   | _=>False
  | .slice e,.string s=>match ts.kind with
   | .str=>cY tt e fun te=>match te.kind with
    | .int .u8=>k (.slice (some ⟨aK,0,none⟩) s.size ao) (some (.flat false s.size 1 fun r=>[.int .u8 (cg s r)]))
    | _=>False
   | _=>False
  | _,_=>False
def HX (tmps:List Value) (tt:TT) (t:TypeId) (x:Operand) (k:QK):Prop :=
 b9 tmps x fun xv=>cY tt t fun ti=>match ti.kind,xv with
  | .str,.string s=>k (.int .i64 s.size) none
  | .slice _,.slice _ n _=>k (.int .i64 n) none
  | _,_=>False
def Pz (tmps:List Value) (x y:Operand) (k:QK):Prop :=
 b9 tmps x fun xv=>b9 tmps y fun yv=>match xv,yv with
  | .int q a,.int _ b=>k (.int q (if b > a then b else a)) none
  | _,_=>False
def PA (tmps:List Value) (x y:Operand) (k:QK):Prop :=
 b9 tmps x fun xv=>b9 tmps y fun yv=>match xv,yv with
  | .int q a,.int _ b=>k (.int q (if b < a then b else a)) none
  | _,_=>False
def CP (tmps:List Value) (fs:List (Nat × Nat × Bool)):List (Nat × Operand)→List Value→(List Value→Prop)→Prop
 | [],cs,k=>k cs
 | p::ps,cs,k=>b9 tmps p.2 fun v=>wY v fun vs=>yY fs p.1 fun off sz _=>match p5 vs sz with
  | true=>u7 cs off vs fun fe=>CP tmps fs ps fe k
  | false=>False
def xl (sz:Nat):Nat→Nat→List (Nat × Nat × Bool)
 | _,0=>[]
 | off,n+1=>(off,sz,true)::xl sz (off+sz) n
def Oq (tt:TT) (tmps:List Value) (t:TypeId) (parts:List (Nat × Operand)) (k:QK):Prop :=
 cY tt t fun ti=>match ti.kind with
  | .struct fs=>CP tmps fs parts ti.zero fun cs=>k (.agg ⟨cs⟩) none
  | .array n e=>cY tt e fun te=>CP tmps (xl te.size 0 n) parts ti.zero fun cs=>k (.agg ⟨cs⟩) none
  | _=>False
def dn (τ:List Nat):Nat→Value→Option Value
 | 0,_=>none
 | k+1,v=>match v with
  | .bool b=>some (.bool b)
  | .int q n=>some (.int q n)
  | .string s=>some (.string s)
  | .pointer none=>some (.pointer none)
  | .pointer (some ⟨id,row,sp⟩)=>match τ[id]? with | some vt=>some (.pointer (some ⟨vt,row,sp⟩)) | none=>none
  | .slice none 0 0=>some (.slice none 0 0)
  | .slice (some ⟨id,row,none⟩) n c=>match τ[id]? with | some vt=>some (.slice (some ⟨vt,row,none⟩) n c) | none=>none
  | .nilFunc=>some .nilFunc
  | .agg ⟨l⟩=>match l.foldr (fun v acc=>match dn τ k v,acc with | some x,some xs=>some (x::xs) | _,_=>none) (some []) with | some l'=>some (.agg ⟨l'⟩) | none=>none
  | .tuple ⟨l⟩=>match l.foldr (fun v acc=>match dn τ k v,acc with | some x,some xs=>some (x::xs) | _,_=>none) (some []) with | some l'=>some (.tuple ⟨l'⟩) | none=>none
  | .func fn ⟨l⟩ ⟨m⟩=>match l.foldr (fun v acc=>match dn τ k v,acc with | some x,some xs=>some (x::xs) | _,_=>none) (some []),m.foldr (fun v acc=>match dn τ k v,acc with | some x,some xs=>some (x::xs) | _,_=>none) (some []) with
   | some l',some m'=>some (.func fn ⟨l'⟩ ⟨m'⟩) | _,_=>none
  | _=>none
def mK (τ:List Nat) (k:Nat) (l:List Value):Option (List Value):=l.foldr (fun v acc=>match dn τ k v,acc with | some x,some xs=>some (x::xs) | _,_=>none) (some [])
def mL:List Value→Bool
 | []=>true
 | v::l=>cW v && mL l
theorem dQ:∀ {l:List Value},mL l=true→∀ v∈l,cW v=true
 | [],_,v,hv=>by simp at hv
 | v::l,h,u,hu=>by
  simp only [mL,Bool.and_eq_true] at h;rcases List.mem_cons.1 hu with e | e
  ·rw [e]; exact h.1
  ·exact dQ h.2 u e
structure aq (b c:ai):Prop where
 own:b.own=true→c.oh=true∧c.n=b.n
 ah:c.ah=b.ah
 n:b.n≤c.n
 row:∀ r,r < b.n→b.row r=c.row r
 flat:∀ r,r < b.n→∀ v∈b.row r,cW v=true
theorem aq.aO {o o':Bool} {n e:Nat} {g:Nat→List Value} (h:o=true→o'=true) (hs:∀ r,r < n→mL (g r)=true):aq (.flat o n e g) (.flat o' n e g) :=
 ⟨fun ho=>⟨h ho,rfl⟩,rfl,Nat.le_refl _,fun _ _=>rfl,fun r hr v hv=>dQ (hs r hr) v hv⟩
def zn (H:aA):List Nat→List ai→Prop→Prop
 | [],[],k=>k
 | s::σ,b::bs,k=>match b with
  | .cB _=>False
  | b=>gX H s fun c=>aq b c∧zn H σ bs k
 | _,_,_=>False
def De (σ:List Nat) (b c:ai):Prop:=aq b c∨∃ o e r r',b=.aR false e [r]∧c=.aR o e [r']∧mK σ 3 r=some r'
def Cp (H:aA) (τ:List Nat):List Nat→List ai→Prop→Prop
 | [],[],k=>k
 | s::σ,b::bs,k=>match b with
  | .cB _=>False
  | b=>gX H s fun c=>De τ b c∧Cp H τ σ bs k
 | _,_,_=>False
def Hu (Φ:zl) (g:FuncId) (args:List Value) (H:aA) (aK:Nat) (k:QK):Prop :=
 match Φ g with
 | some (.p S)=>∃ i:S.ι,S.args i=args∧S.pre i∧qh (S.val i) fun v=>k v none
 | some (.q S)=>∃ (i:S.ι) (σ:List Nat),mK σ 3 (S.args i)=some args∧S.pre i∧zn H σ (S.ae i) (∃ v,dn (σ++[aK]) 3 (S.val i)=some v∧qh v fun v=>k v (S.new i))
 | some (.r S)=>∃ (i:S.ι) (σ:List Nat),mK σ 3 (S.args i)=some args∧S.pre i∧Cp H σ σ (S.ae i) (∃ v,dn (σ++[aK]) 3 (S.val i)=some v∧qh v fun v=>k v (S.new i))
 | none=>False
def uA (c l:Nat):Nat:=match decide (c=ao) with | true=>ao | false=>c - l
def setRow:List (List Value)→Nat→List Value→(List (List Value)→Prop)→Prop
 | [],_,_,_=>False
 | _::rs,0,r,k=>k (r::rs)
 | q::rs,n+1,r,k=>setRow rs n r fun ck=>k (q::ck)
def rowsOf (tmps:List Value) (sz:Nat):List (Nat × Operand)→List (List Value)→(List (List Value)→Prop)→Prop
 | [],rows,k=>k rows
 | p::ps,rows,k=>b9 tmps p.2 fun v=>wY v fun cs=>match p5 cs sz with
  | true=>setRow rows p.1 cs fun jg=>rowsOf tmps sz ps jg k
  | false=>False
def HY (n:Nat) (r:List Value) (k:List (List Value)→Prop):Prop:=match n with
 | 0=>k []
 | n+1=>HY n r fun l=>k (r::l)
def GX (ah:Nat) (rows:List (List Value)) (k:ai→Prop):Prop :=
 match rows with
 | []=>k (.flat true 0 ah fun _=>[])
 | r::rs=>k (.aR true ah (r::rs))
def KN (tt:TT) (tmps:List Value) (t:TypeId) (n:Nat) (ps:List (Nat × Operand)) (aK:Nat) (k:QK):Prop :=
 cY tt t fun ti=>match ti.kind with
  | .slice e=>cY tt e fun te=>match Nat.ble (n*te.size) 16777216 with
   | true=>HY n te.zero fun ab6=>rowsOf tmps te.size ps ab6 fun rows=>GX te.size rows fun b=>k (.slice (some ⟨aK,0,none⟩) n n) (some b)
   | false=>False
  | _=>False
def K8 (tt:TT) (tmps:List Value) (t:TypeId) (x y:Operand) (aK:Nat) (k:QK):Prop :=
 b9 tmps x fun xv=>b9 tmps y fun yv=>cY tt t fun ti=>match ti.kind with
  | .slice e=>cY tt e fun te=>match mL te.zero,xv,yv with
   | true,.int _ n,.int _ m=>(0≤n∧n≤m∧m*te.bytes≤140737488355328)∧k (.slice (some ⟨aK,0,none⟩) n.toNat m.toNat) (some (.flat true n.toNat te.size fun _=>te.zero))
   | _,_,_=>False
  | _=>False
def lY (tmps:List Value) (x:Option Operand) (d:Int) (k:Int→Prop):Prop :=
 match x with
 | none=>k d
 | some x=>b9 tmps x fun v=>match v with | .int _ n=>k n | _=>False
def GY (tt:TT) (tmps:List Value) (H:aA) (t:TypeId) (x:Operand) (lo hi mx:Option Operand) (k:QK):Prop :=
 b9 tmps x fun xv=>cY tt t fun ti=>match ti.kind,xv with
  | .str,.string s=>match mx with
   | none=>lY tmps lo 0 fun l=>lY tmps hi s.size fun h=>(0≤l∧l≤h∧h≤s.size)∧k (.string (s.extract l.toNat h.toNat)) none
   | some _=>False
  | .slice e,.slice (some ⟨id,row,none⟩) n c=>cY tt e fun te=>gX H id fun b=>match Nat.beq b.ah te.size with
   | true=>match hi,mx with
    | hi,none=>lY tmps lo 0 fun l=>lY tmps hi n fun h=>(0≤l∧l≤h∧h≤n)∧k (.slice (some ⟨id,dR row l.toNat,none⟩) (h.toNat - l.toNat) (uA c l.toNat)) none
    | some h0,some m=>lY tmps lo 0 fun l=>b9 tmps h0 fun hv=>b9 tmps m fun mv=>match hv,mv with
     | .int _ h,.int _ m=>(0≤l∧l≤h∧h≤m∧m≤n)∧k (.slice (some ⟨id,dR row l.toNat,none⟩) (h.toNat - l.toNat) (m.toNat - l.toNat)) none
     | _,_=>False
    | none,some _=>False
   | false=>False
  | .slice e,.slice (some ⟨id,row,some b0⟩) n _=>cY tt e fun te=>gX H id fun b=>match Nat.beq b.ah te.size with
   | true=>match hi,mx with
    | hi,none=>lY tmps lo 0 fun l=>lY tmps hi n fun h=>(0≤l∧l≤h∧h≤b0)∧k (.slice (some ⟨id,dR row l.toNat,some (b0 - l.toNat)⟩) (h.toNat - l.toNat) ao) none
    | some h0,some m=>lY tmps lo 0 fun l=>b9 tmps h0 fun hv=>b9 tmps m fun mv=>match hv,mv with
     | .int _ h,.int _ m=>(0≤l∧l≤h∧h≤m∧m≤b0)∧k (.slice (some ⟨id,dR row l.toNat,none⟩) (h.toNat - l.toNat) (m.toNat - l.toNat)) none
     | _,_=>False
    | none,some _=>False
   | false=>False
  | .array n e,.pointer (some ⟨id,row,none⟩)=>cY tt e fun te=>gX H id fun b=>match Nat.beq b.ah te.size with
   | true=>match mx with
    | none=>lY tmps lo 0 fun l=>lY tmps hi n fun h=>(0≤l∧l≤h∧h≤n∧row+n≤b.n∧b.oh=true)∧k (.slice (some ⟨id,dR row l.toNat,none⟩) (h.toNat - l.toNat) (n - l.toNat)) none
    | some _=>False
   | false=>False
  | .slice e,.slice none 0 0=>cY tt e fun _=>match hi,mx with
   | hi,none=>lY tmps lo 0 fun l=>lY tmps hi 0 fun h=>(0≤l∧l≤h∧h≤0)∧k (.slice none 0 0) none
   | some h0,some m=>lY tmps lo 0 fun l=>b9 tmps h0 fun hv=>b9 tmps m fun mv=>match hv,mv with
    | .int _ h,.int _ m=>(0≤l∧l≤h∧h≤m∧m≤0)∧k (.slice none 0 0) none
    | _,_=>False
   | none,some _=>False
  | _,_=>False
def PB (tmps:List Value) (tt:TT) (t:TypeId) (x:Operand) (k:QK):Prop :=
 b9 tmps x fun xv=>cY tt t fun ti=>match ti.kind,xv with
  | .slice _,.slice none 0 0=>k (.int .i64 0) none
  | _,_=>False
def L6 (tt:TT) (tmps:List Value) (t u:TypeId) (x y:Operand) (aK:Nat) (k:QK):Prop :=
 b9 tmps x fun xv=>b9 tmps y fun yv=>cY tt t fun ti=>match ti.kind with
  | .slice e=>cY tt e fun te=>cY tt u fun tu=>match tu.kind,mL te.zero,xv,yv with
   | .int _,true,.slice none 0 0,.int .i64 n=>(0 < n∧n*te.bytes≤140737488355328)∧k (.slice (some ⟨aK,0,none⟩) n.toNat ao) (some (.flat true n.toNat te.size fun _=>te.zero))
   | _,_,_,_=>False
  | _=>False
abbrev FT:=List Value→aA→(Value→aA→Prop)→Prop
structure Env where
 tt:TT
 eqs:List TypeId
 Φ:zl
 Ψ:FuncId→Option FT:=fun _=>none
 base:Nat:=0
 iE:Bool:=false
 ys:List (Nat × FT):=[]
 rd:Bool:=false
 nu:Nu:=fun _=>none
 It:FuncId→Option (Nat→FT→Nu→FT):=fun _=>none
def lB (E:Env) (op:Op) (tmps:List Value) (H:aA) (aK:Nat) (k:QK):Prop :=
 match op with
 | .move x | .assign x=>CO tmps x k
 | .pick c a b=>OV tmps c a b k
 | .alloc t=>Om E.tt t aK k
 | .box t x=>Py E.tt tmps t x aK k
 | .build t ps=>Oq E.tt tmps t ps.toList k
 | .load t a=>Ht E.tt tmps H t a k
 | .buildSlice t n ps=>KN E.tt tmps t n ps.toList aK k
 | .makeSlice t x y=>K8 E.tt tmps t x y aK k
 | .slice t x lo hi mx=>GY E.tt tmps H t x lo hi mx k
 | .fieldAddr t x f=>K7 E.tt tmps t x f k
 | .field t x f=>On E.tt tmps t x f k
 | .indexAddr t x i=>ER E.tt tmps H t x i k
 | .index t x i=>Oo E.tt tmps t x i k
 | .extract x i=>FJ tmps x i k
 | .makeFunc fn a b=>L5 tmps fn a.toList b.toList k
 | .unOp op _ x=>Qp tmps op x k
 | .binOp op t x y _=>Dd E.tt E.eqs tmps op t x y k
 | .convert s d x=>MQ E.tt tmps H s d x aK k
 | .call c=>match c.callee with
  | .value f=>b9 tmps f fun fv=>match fv with
   | .func (.func g) a b=>qf tmps c.args.toList fun vs=>qP a.toList vs fun l=>qP l b.toList fun args=>Hu E.Φ g args H aK k
   | _=>False
  | .builtin .len=>match c.args.toList,c.argTypes.toList with
   | [x],[t]=>HX tmps E.tt t x k
   | _,_=>False
  | .builtin .max=>match c.args.toList with
   | [x,y]=>Pz tmps x y k
   | _=>False
  | .builtin .cap=>match c.args.toList,c.argTypes.toList with
   | [x],[t]=>PB tmps E.tt t x k
   | _,_=>False
  | .builtin .append=>match c.args.toList,c.argTypes.toList with
   | [x,y],[t,u]=>L6 E.tt tmps t u x y aK k
   | _,_=>False
  | .builtin .min=>match c.args.toList with
   | [x,y]=>PA tmps x y k
   | _=>False
  | _=>False
 | _=>False
def fj (P:Program) (op:Op) (tmps:List Value) (H:aA) (aK:Nat) (k:QK):Prop :=
 ∃ v nb,k v nb∧∀ (o:Oper) (ν:Nu) (a:Act) (w:World) (r:Option Nat) (n:Nat),o.op=op→(∀ x∈op.operands,fC ν tmps a x)→bU ν H w→ν aK=none →
  ∀ next Q,(∀ v' w' aj,nz ν aj aK w w' v v' nb→next (a.put o.dst v') w')→o.wpIn (WF r) n P a w next Q
def qB (P:Program) (bz:Nu) (op:Op) (tmps:List Value) (v:Value):Prop :=
 (∀ c,op≠.defer c)∧∀ (o:Oper) (ν:Nu) (a:Act) (w:World),bz.le ν→o.op=op→(∀ x∈op.operands,fC ν tmps a x)→∃ v',au ν v v'∧(execOp a.eval o).run P w=.ok (.value v') w
theorem jP {P:Program} {r:Option Nat} {n:Nat} {o:Oper} {a:Act} {w w':World} {v':Value} (hd:∀ c,o.op≠.defer c)
  (h:(execOp a.eval o).run P w=.ok (.value v') w') (next:Act→World→Prop) (Q:Exit→Act→World→Prop) (hn:next (a.put o.dst v') w') :
  o.wpIn (WF r) n P a w next Q:=by
 refine ⟨fun _ _=>trivial,?_⟩
 rw [Oper.semAt_eq _ _ _ hd,h];exact hn
def oc (P:Program) (bz:Nu) (G:aA) (op:Op) (tmps:List Value) (v:Value):Prop :=
 (∀ c,op≠.defer c)∧∀ (o:Oper) (ν:Nu) (a:Act) (w:World),bz.le ν→o.op=op→(∀ x∈op.operands,fC ν tmps a x)→bU ν G w→∃ v',au ν v v'∧(execOp a.eval o).run P w=.ok (.value v') w
def sS (P:Program) (op:Op) (tmps:List Value) (H:aA) (k:QK):Prop:=∃ v,k v none∧∀ bz,oc P bz H op tmps v
theorem sS.value {P:Program} {op:Op} {tmps:List Value} {H:aA} {k:QK} (hd:∀ c,op≠.defer c) {v:Value} (hk:k v none)
  (h:∀ (o:Oper) (ν:Nu) (a:Act) (w:World),o.op=op→(∀ x∈op.operands,fC ν tmps a x)→bU ν H w→∃ v',au ν v v'∧(execOp a.eval o).run P w=.ok (.value v') w):sS P op tmps H k :=
 ⟨v,hk,fun _=>⟨hd,fun o ν a w _ ho ha hH=>h o ν a w ho ha hH⟩⟩
theorem fj.value {P:Program} {op:Op} {tmps:List Value} {H:aA} {aK:Nat} {k:QK} (hd:∀ c,op≠.defer c) {v:Value} (hk:k v none)
  (h:∀ (o:Oper) (ν:Nu) (a:Act) (w:World),o.op=op→(∀ x∈op.operands,fC ν tmps a x)→bU ν H w→∃ v',au ν v v'∧(execOp a.eval o).run P w=.ok (.value v') w):fj P op tmps H aK k :=
 ⟨v,none,hk,fun o ν a w r n ho ha hH _ next Q hn=>by
  obtain ⟨v',hv,hr⟩:=h o ν a w ho ha hH;exact jP (by rw [ho]; exact hd) hr next Q (hn _ _ ν ⟨ν.le_refl,fun _ _=>rfl,hv,Below.refl _ _,fun _=>rfl,(fun b hb=>by cases hb)⟩)⟩
theorem sS.ok {P:Program} {op:Op} {tmps:List Value} {H:aA} {aK:Nat} {k:QK} (h:sS P op tmps H k):fj P op tmps H aK k :=
 let ⟨_,hk,hv⟩:=h
 .value (hv fun _=>none).1 hk fun o ν a w ho ha hH=>(hv ν).2 o ν a w ν.le_refl ho ha hH
open Go Go.RowKit
section
variable {P:Program} {tt:TT} {Φ:zl} {w:World} {ν:Nu} {aK:Nat} {k:QK} {tmps:List Value} {H:aA}
theorem ZN {x:Operand} (h:CO tmps x k):fj P (.move x) tmps H aK k:=by
 obtain ⟨v,hk,hv⟩:=c9 h;exact .value (by simp) hk fun o ν a w ho ha _=>⟨_,hv ν a (ha x (by simp [Op.operands])),by simp [execOp,ho]⟩
theorem Vs {x:Operand} (h:CO tmps x k):fj P (.assign x) tmps H aK k:=by
 obtain ⟨v,hk,hv⟩:=c9 h;exact .value (by simp) hk fun o ν a w ho ha _=>⟨_,hv ν a (ha x (by simp [Op.operands])),by simp [execOp,ho]⟩
theorem au.km {ν:Nu} {b:Bool} {r:Value} (h:au ν (.bool b) r):r=.bool b:=by cases h; rfl
theorem au.gh {ν:Nu} {k:IntKind} {x:Int} {r:Value} (h:au ν (.int k x) r):r=.int k x:=by cases h; rfl
theorem au.sA {ν:Nu} {x:ByteArray} {r:Value} (h:au ν (.string x) r):r=.string x:=by cases h; rfl
theorem au.o4 {ν:Nu} {id row:Nat} {sp:Option Nat} {r:Value} (h:au ν (.pointer (some ⟨id,row,sp⟩)) r):∃ l,ν id=some l∧r=.pointer (some (l.at row (sp.getD 0))):=by
 cases h with | ptr _ _ _ l h=>exact ⟨l,h,rfl⟩
theorem ZO {c x y:Operand} (h:OV tmps c x y k):fj P (.pick c x y) tmps H aK k:=by
 obtain ⟨cv,h,hc⟩:=c9 h
 split at h
 ·rename_i t;obtain ⟨av,h,hx⟩:=c9 h;obtain ⟨bv,h,hy⟩:=c9 h
  split at h
  ·refine .value (by simp) h fun o ν a w ho ha _=>⟨_,.bool _,?_⟩
   have hc:=(hc ν a (ha c (by simp [Op.operands]))).km
   have hx:=(hx ν a (ha x (by simp [Op.operands]))).km
   have hy:=(hy ν a (ha y (by simp [Op.operands]))).km
   cases t <;> simp [execOp,ho,hc,hx,hy,asBool]
  ·cases t with
   | true =>
    refine .value (by simp) h fun o ν a w ho ha _=>⟨_,hx ν a (ha x (by simp [Op.operands])),?_⟩
    have hc:=(hc ν a (ha c (by simp [Op.operands]))).km
    simp [execOp,ho,hc,asBool]
   | false =>
    refine .value (by simp) h fun o ν a w ho ha _=>⟨_,hy ν a (ha y (by simp [Op.operands])),?_⟩
    have hc:=(hc ν a (ha c (by simp [Op.operands]))).km
    simp [execOp,ho,hc,asBool]
 ·exact h.elim
theorem MR {ν:Nu} {aK:Nat} (hn:ν aK=none) {ah:Nat} {cs:List Value} {fe:List Value} (hl:cs.length=ah) (hr:bn ν cs fe)
  (h1:∀ v∈cs,v.oneCell'=true) (w:World) (t:TypeId) :
  bS (ν.add aK ⟨w.heap.size,0,ah,1⟩) ⟨w.heap.size,0,ah,1⟩ (.aR true ah [cs]) { w with heap:=w.heap.push (.cells ⟨fe⟩ t) }:=by
 have dM:({ w with heap:=w.heap.push (.cells ⟨fe⟩ t) }:World).heap[w.heap.size]?=some (.cells ⟨fe⟩ t (0,0)):=by simp
 refine ⟨rfl,fun r iV=>?_,fun r iV j v hv=>?_,fun h=>by simp [ai.jd] at h,fun r iV v hv=>?_,fun _ _=>⟨_,_,dM,?_,?_⟩,(fun r h=>nomatch h),?_⟩
 ·have:r=0:=by simp [ai.n] at iV; exact iV
  subst this; simpa [ai.row,ai.ah] using hl
 ·have:r=0:=by simp [ai.n] at iV; exact iV
  subst this;have hv:cs[j]?=some v:=by simpa [ai.row] using hv
  obtain ⟨v',J,h3⟩:=hr.get hv;refine ⟨v',?_,h3.mono (Nu.ko hn)⟩;simp only [Loc.at,World.cell?,Nat.zero_mul,Nat.zero_add];rw [dM]
  simpa using J
 ·have:r=0:=by simp [ai.n] at iV; exact iV
  subst this; exact h1 v (by simpa [ai.row] using hv)
 ·simp [← hl,hr.1]
 ·simp [ai.n]
 ·simp
theorem nh {ν:Nu} {aK:Nat} (hn:ν aK=none) {b:ai} {w w':World} {l:Loc} {v v':Value} (hb:bS (ν.add aK l) l b w') (hB:Below w.heap.size w w') (hl:w.heap.size≤l.aJ)
  (hv:au (ν.add aK l) v v'):nz ν (ν.add aK l) aK w w' v v' (some b) :=
 ⟨Nu.ko hn,fun id bu=>Nu.jc bu,hv,hB,(fun h=>by cases h),(fun b' bE=>by cases bE; exact ⟨l,Nu.add_same,hb,hl⟩)⟩
theorem yp (w:World) (o:Obj):Below w.heap.size w { w with heap:=w.heap.push o }:=(Below.refl _ w).alloc (Nat.le_refl _) o
theorem Bb:∀ {z l l':List Value},nt z l=some l'→l=z++l'∧∀ v∈z,cW v=true
 | [],l,l',h=>by simp [nt] at h; exact ⟨by simp [h],fun v hv=>by cases hv⟩
 | .int q n::z,[],l',h=>by simp [nt] at h
 | .int q n::z,x::l,l',h=>by
  cases x <;> simp only [nt] at h <;> try (cases h)
  split at h
  ·rename_i hd;simp only [Bool.and_eq_true,decide_eq_true_eq] at hd;obtain ⟨rfl,rfl⟩:=hd;obtain ⟨h1,J⟩:=Bb h;exact ⟨by rw [h1]; rfl,fun v hv=>(List.mem_cons.1 hv).elim (fun e=>by rw [e]; rfl) (fun e=>J v e)⟩
  ·cases h
 | .bool b::z,[],l',h=>by simp [nt] at h
 | .bool b::z,x::l,l',h=>by
  cases x <;> simp only [nt] at h <;> try (cases h)
  split at h
  ·rename_i hd;have hd:=eq_of_beq hd;subst hd;obtain ⟨h1,J⟩:=Bb h;exact ⟨by rw [h1]; rfl,fun v hv=>(List.mem_cons.1 hv).elim (fun e=>by rw [e]; rfl) (fun e=>J v e)⟩
  ·cases h
 | .string s::z,[],l',h=>by simp [nt] at h
 | .string s::z,x::l,l',h=>by
  cases x <;> simp only [nt] at h <;> try (cases h)
  split at h
  ·rename_i s' _ hd;simp only [Bool.and_eq_true] at hd;have e1:=Nat.eq_of_beq_eq_true hd.1;have e2:=Nat.eq_of_beq_eq_true hd.2;have e:s=s':=by
    apply ByteArray.ext;apply Array.ext
    ·show s.size=s'.size; omega
    ·intro i h1 J;have:i < s.size:=h1;omega
   subst e;obtain ⟨h1,J⟩:=Bb h;exact ⟨by rw [h1]; rfl,fun v hv=>(List.mem_cons.1 hv).elim (fun e=>by rw [e]; rfl) (fun e=>J v e)⟩
  ·cases h
theorem K9 {z:List Value}:∀ {n:Nat} {l:List Value},zm z n l=true→l.length=n*z.length∧(∀ r,r < n→∀ (j:Nat) v,z[j]?=some v→l[r*z.length+j]?=some v)∧(0 < n→∀ v∈z,cW v=true)
 | 0,[],_=>⟨by simp,fun r hr=>absurd hr (by omega),fun h=>absurd h (by omega)⟩
 | 0,_::_,h=>by simp [zm] at h
 | n+1,l,h=>by
  simp only [zm] at h
  split at h
  ·rename_i l' he;obtain ⟨h1,J⟩:=Bb he;obtain ⟨h3,h4,_⟩:=K9 h;refine ⟨by rw [h1,List.length_append,h3,Nat.add_mul]; omega,fun r hr j v hv=>?_,fun _=>J⟩
   have hj:j < z.length:=(List.getElem?_eq_some_iff.1 hv).1;rw [h1];cases r with
   | zero=>rw [Nat.zero_mul,Nat.zero_add,List.getElem?_append_left hj]; exact hv
   | succ r =>
    rw [List.getElem?_append_right (by rw [Nat.add_mul]; omega),show (r+1)*z.length+j - z.length=r*z.length+j by rw [Nat.add_mul]; omega]
    exact h4 r (by omega) j v hv
  ·cases h
theorem W3 (hT:∀ t ti,tt t=some ti→aC P t ti) {t:TypeId} (h:Om tt t aK k):fj P (.alloc t) tmps H aK k:=by
 obtain ⟨ti,ht,h⟩:=c5 h;have a9:=hT _ _ ht;obtain ⟨i,hi,_,_,z,hz,iH⟩:=a9.info;have iW:k (.pointer (some ⟨aK,0,none⟩)) (some (.aR true ti.size [ti.zero]))→fj P (.alloc t) tmps H aK k:=fun h=>by
  refine ⟨_,_,h,fun o ν a w r n ho ha hH hn next Q hN=>jP (w':={ w with heap:=w.heap.push (.cells ⟨ti.zero⟩ t) }) (v':=.pointer (some ⟨w.heap.size,0,none⟩)) (by simp [ho]) ?_ next Q (hN _ _ (ν.add aK ⟨w.heap.size,0,ti.size,1⟩) (nh hn (MR hn a9.len (a9.self ν) a9.one w t) (yp _ _) (Nat.le_refl _) ?_))⟩
  ·simp [execOp,ho,Instr.alloc,vV hi hz,newVar,newRow,iH]
  ·have:=au.ptr (ν:=ν.add aK ⟨w.heap.size,0,ti.size,1⟩) aK 0 none _ Nu.add_same
   simpa [Loc.at] using this
 split at h
 ·rename_i n e hk;obtain ⟨te,he,h⟩:=c5 h;have Df:=hT _ _ he
  split at h
  ·rename_i im;rw [Bool.and_eq_true] at im;obtain ⟨z1,z2,z3⟩:=K9 im.2;refine ⟨_,_,h,fun o ν a w r nn ho ha hH hn next Q hN=>jP (w':={ w with heap:=w.heap.push (.cells ⟨ti.zero⟩ t) }) (v':=.pointer (some ⟨w.heap.size,0,none⟩)) (by simp [ho]) ?_ next Q (hN _ _ (ν.add aK ⟨w.heap.size,0,te.size,n⟩) (nh hn ?_ (yp _ _) (Nat.le_refl _) ?_))⟩
   ·simp [execOp,ho,Instr.alloc,vV hi hz,newVar,newRow,iH]
   ·have dM:({ w with heap:=w.heap.push (.cells ⟨ti.zero⟩ t) }:World).heap[w.heap.size]?=some (.cells ⟨ti.zero⟩ t (0,0)):=by show (w.heap.push _)[w.heap.size]?=_; simp
    refine ⟨rfl,fun r hr=>Df.len,fun r hr j v hv=>⟨v,?_,au.kj (z3 (by have:r < n:=hr; omega) v (List.mem_of_getElem? hv))⟩,fun _ r hr v hv=>z3 (by have:r < n:=hr; omega) v hv,fun r hr v hv=>Df.one v hv,fun _ _=>⟨_,_,dM,?_,Nat.le_refl _⟩,(fun r h=>nomatch h),?_⟩
    ·have hr:r < n:=hr;have hv:te.zero[j]?=some v:=hv;have J:=z2 r hr j v hv;simp only [Loc.at,World.cell?,Nat.zero_add];rw [dM];simp only [Option.isSome_none,Bool.false_eq_true,if_false];rw [← Df.len]
     simpa using J
    ·simp [z1,Df.len]
    ·show w.heap.size < (w.heap.push _).size
     simp
   ·have:=au.ptr (ν:=ν.add aK ⟨w.heap.size,0,te.size,n⟩) aK 0 none _ Nu.add_same
    simpa [Loc.at] using this
  ·exact iW h
 ·exact iW h
theorem ab7 (hT:∀ t ti,tt t=some ti→aC P t ti) {t:TypeId} {x:Operand} (h:Py tt tmps t x aK k):fj P (.box t x) tmps H aK k:=by
 obtain ⟨ti,ht,h⟩:=c5 h;obtain ⟨v,h,hv⟩:=c9 h;have h:=A9 h;have a9:=hT _ _ ht
 split at h
 ·rename_i he;obtain ⟨h1,J⟩:=yd he;refine ⟨_,_,h,fun o ν a w r n ho ha hH hn next Q hN=>?_⟩
  have hc:=(hv ν a (ha x (by simp [Op.operands]))).cells
  refine jP (w':={ w with heap:=w.heap.push (.cells (a.eval x).cells t) }) (v':=.pointer (some ⟨w.heap.size,0,none⟩)) (by simp [ho]) ?_ next Q (hN _ _ (ν.add aK ⟨w.heap.size,0,ti.size,1⟩) (nh hn (MR hn h1 hc J w t) (yp _ _) (Nat.le_refl _) ?_))
  ·simp [execOp,ho,Instr.box,newVar,newRow]
  ·have:=au.ptr (ν:=ν.add aK ⟨w.heap.size,0,ti.size,1⟩) aK 0 none _ Nu.add_same
   simpa [Loc.at] using this
 ·exact h.elim
theorem L7 {ag:Bool} {cs:List Value} {k:Value→Prop} (h:Dc ag cs k):k (valOf ag cs):=by
 unfold Dc at h
 split at h
 ·exact h
 ·exact vW h
 ·exact h
theorem Fc {ν:Nu} {ag:Bool} {cs fe:List Value} (h:bn ν cs fe):au ν (valOf ag cs) (if ag then .agg ⟨fe⟩ else fe.getD 0 undef):=by
 cases ag with
 | true=>exact .agg _ _ h.1 h.2
 | false =>
  cases cs with
  | nil=>rw [h.jb]; exact .undef ν
  | cons v l=>obtain ⟨y,ys,rfl,h1,_⟩:=h.jw; exact h1
theorem La {l:Loc} {b:ai} (hb:bS ν l b w) {row off sz:Nat} {vs:List Value} (hr:row < b.n) (hl:vs.length=sz) (hv:∀ j v,vs[j]?=some v→(b.row row)[off+j]?=some v) :
  ∃ gl,bn ν vs gl∧gl.length=sz∧∀ j v,gl[j]?=some v→w.cell? ((l.at row off).add j)=some v:=by
 have key:∀ (vs:List Value) (off:Nat),(∀ j v,vs[j]?=some v→(b.row row)[off+j]?=some v)→∃ gl,bn ν vs gl∧∀ j v,gl[j]?=some v→w.cell? ((l.at row off).add j)=some v:=by
  intro vs
  induction vs with
  | nil=>exact fun _ _=>⟨[],.nil ν,fun j v hj=>by simp at hj⟩
  | cons v vs ih =>
   intro off hv;obtain ⟨v',h1,J⟩:=hb.cell row hr off v (by have:=hv 0 v rfl; simpa using this)
   obtain ⟨gl,h3,h4⟩:=ih (off+1) (fun j u hu=>by have:=hv (j+1) u (by simpa using hu); rwa [show off+(j+1)=off+1+j by omega] at this)
   refine ⟨v'::gl,.cons J h3,fun j u hu=>?_⟩
   cases j with
   | zero=>rw [Loc.jS]; simp at hu; subst hu; simpa using h1
   | succ j=>have:=h4 j u (by simpa using hu); rw [Loc.jS] at this ⊢; rwa [show off+(j+1)=off+1+j by omega]
 obtain ⟨gl,h1,J⟩:=key vs off hv;exact ⟨gl,h1,by rw [← h1.1,hl],J⟩
theorem NC (hT:∀ t ti,tt t=some ti→aC P t ti) {t:TypeId} {x:Operand} (h:Ht tt tmps H t x k):sS P (.load t x) tmps H k:=by
 obtain ⟨av,h,hv⟩:=c9 h
 split at h
 ·rename_i id row sp;obtain ⟨ti,ht,h⟩:=c5 h;obtain ⟨b,hb,h⟩:=gK h;obtain ⟨hr,h⟩:=L4 h;have h:=MP h;obtain ⟨vs,h,hl,fJ⟩:=yn h;have h:=L7 h;refine .value (by simp) h fun o ν a w ho ha hH=>?_
  obtain ⟨l,pG,hB⟩:=hH.aJ id b hb;obtain ⟨l',jo,he⟩:=(hv ν a (ha x (by simp [Op.operands]))).o4
  rw [pG] at jo; cases jo;obtain ⟨gl,h1,J,h3⟩:=La hB hr hl fJ;exact ⟨_,Fc h1,by simp [execOp,ho,Instr.loadAt,he,Instr.sureAddr,Kr (hT _ _ ht) J h3]⟩
 ·exact h.elim
theorem ZP (hT:∀ t ti,tt t=some ti→aC P t ti) {t:TypeId} {x:Operand} (h:Ht tt tmps H t x k):fj P (.load t x) tmps H aK k:=(NC hT h).ok
theorem So (hT:∀ t ti,tt t=some ti→aC P t ti) {t:TypeId} {x:Operand} {f:Nat} (h:K7 tt tmps t x f k):fj P (.fieldAddr t x f) tmps H aK k:=by
 obtain ⟨av,h,hv⟩:=c9 h
 split at h
 ·rename_i id row sp;obtain ⟨ti,ht,h⟩:=c5 h
  split at h
  ·rename_i fs hk;obtain ⟨x',q9,h⟩:=Ba h;have h:=MP h;obtain ⟨d,hu,hd⟩:=(hT _ _ ht).under;rw [hk] at hd;obtain ⟨fields,rfl,aY,hf⟩:=hd;have ak:f < fields.size:=by rw [aY]; exact (List.getElem?_eq_some_iff.1 q9).1
   have j7:fields[f]?=some fields[f]:=Array.getElem?_eq_getElem ak;obtain ⟨h1,J,⟨i,h3,h4⟩,_⟩:=hf f _ _ j7 q9;refine .value (by simp) h fun o ν a w ho ha hH=>?_
   obtain ⟨l,hl,he⟩:=(hv ν a (ha x (by simp [Op.operands]))).o4
   refine ⟨.pointer (some (l.at row (sp.getD 0+x'.1))),.ptr _ _ (some _) _ hl,?_⟩;have aN:¬ (i.size=0):=by omega
   simp [execOp,ho,Instr.fieldAt,dO hu,j7,he,Instr.sureAddr,fieldPlace,gB h3,aN,h1,Loc.jS]
  ·exact h.elim
 ·exact h.elim
theorem FL {P:Program} {f:Field} {x:Nat × Nat × Bool} (hf:yR P f x) {cs vs:List Value} (hl:vs.length=x.2.1) (hv:∀ j v,vs[j]?=some v→cs[x.1+j]?=some v) (w:World) :
  (part f.type ⟨cs⟩ f.offset).run P w=.ok (if x.2.2 then .agg ⟨vs⟩ else vs.getD 0 undef) w:=by
 obtain ⟨h1,J,⟨i,h3,h4⟩,d,h5,h6⟩:=hf;unfold part;simp only [Sem.run_bind,LZ h5,Result.andThen_ok,Sem.run_ite,h6]
 split
 ·simp only [Sem.run_bind,gB h3,Result.andThen_ok,h1,h4,← hl,Sem.run_pure]
  congr 2
  apply Array.ext';simp only [Array.toList_extract];apply List.ext_getElem?;intro j;by_cases hj:j < vs.length
  ·have:=hv j vs[j] (List.getElem?_eq_getElem hj);simp [List.extract,List.getElem?_take,List.getElem?_drop,hj,this]
  ·rw [List.getElem?_eq_none (by omega:vs.length≤j)]
   simp [List.extract,List.getElem?_take,hj]
 ·cases vs with
  | nil=>simp at hl; omega
  | cons v l =>
   have:=hv 0 v rfl;simp only [Nat.add_zero] at this;simp [h1,this]
theorem W4 (hT:∀ t ti,tt t=some ti→aC P t ti) {t:TypeId} {x:Operand} {f:Nat} (h:On tt tmps t x f k):fj P (.field t x f) tmps H aK k:=by
 obtain ⟨av,h,hv⟩:=c9 h
 split at h
 ·rename_i cs;obtain ⟨ti,ht,h⟩:=c5 h
  split at h
  ·rename_i fs hk;obtain ⟨x',q9,h⟩:=Ba h;obtain ⟨vs,h,hl,fJ⟩:=yn h;have h:=L7 h;obtain ⟨d,hu,hd⟩:=(hT _ _ ht).under;rw [hk] at hd;obtain ⟨fields,rfl,aY,hf⟩:=hd;have ak:f < fields.size:=by rw [aY]; exact (List.getElem?_eq_some_iff.1 q9).1
   have j7:fields[f]?=some fields[f]:=Array.getElem?_eq_getElem ak;have a9:=hf f _ _ j7 q9;refine .value (by simp) h fun o ν a w ho ha hH=>?_
   obtain ⟨ys,he,hy⟩:=au.uy (xs:=cs.toList) (hv ν a (ha x (by simp [Op.operands])))
   -- the same stretch of the real cells
   have adM:∃ gl,bn ν vs gl∧gl.length=x'.2.1∧∀ j v,gl[j]?=some v→ys[x'.1+j]?=some v:=by
    refine ⟨(ys.drop x'.1).take vs.length,⟨?_,fun j a b ha hb=>?_⟩,?_,fun j v hj=>?_⟩
    ·rw [List.length_take,List.length_drop];have:∀ m,m < vs.length→x'.1+m < cs.toList.length:=fun m hm=>(List.getElem?_eq_some_iff.1 (fJ m _ (List.getElem?_eq_getElem hm))).1
     have h0:=hy.1;by_cases z7:vs.length=0
     ·omega
     ·have:=this (vs.length - 1) (by omega); omega
    ·rw [List.getElem?_take,List.getElem?_drop] at hb
     split at hb
     ·exact hy.2 _ a b (fJ j a ha) hb
     ·cases hb
    ·rw [List.length_take,List.length_drop,hl];have:∀ m,m < vs.length→x'.1+m < cs.toList.length:=fun m hm=>(List.getElem?_eq_some_iff.1 (fJ m _ (List.getElem?_eq_getElem hm))).1
     have h0:=hy.1;have hp:=a9.2.1;have:=this (vs.length - 1) (by omega); omega
    ·rw [List.getElem?_take,List.getElem?_drop] at hj
     split at hj
     ·exact hj
     ·cases hj
   obtain ⟨gl,h1,J,h3⟩:=adM;exact ⟨_,Fc h1,by simp [execOp,ho,Instr.field,dO hu,j7,he,asAgg,FL a9 J h3]⟩
  ·exact h.elim
 ·exact h.elim
theorem Ui {x:Operand} {ix:Nat} (h:FJ tmps x ix k):fj P (.extract x ix) tmps H aK k:=by
 obtain ⟨v,h,hv⟩:=c9 h
 split at h
 ·rename_i vs;obtain ⟨u,h1,J⟩:=oS h;refine .value (by simp) J fun o ν a w ho ha hH=>?_
  obtain ⟨ys,he,hy⟩:=au.n6 (xs:=vs.toList) (hv ν a (ha x (by simp [Op.operands])))
  obtain ⟨u',h3,h4⟩:=hy.get h1;exact ⟨_,h4,by simp [execOp,ho,he,Instr.extract,h3]⟩
 ·exact h.elim
theorem SW {fn:Fn} {f c:Array Operand} (h:L5 tmps fn f.toList c.toList k):fj P (.makeFunc fn f c) tmps H aK k:=by
 obtain ⟨vs,h,h1⟩:=Bm h;obtain ⟨us,h,J⟩:=Bm h;refine .value (by simp) h fun o ν a w ho ha hH=>?_
 have h1:=h1 ν a (fun x hx=>ha x (by simp [Op.operands]; exact .inl (by simpa using hx)))
 have J:=J ν a (fun x hx=>ha x (by simp [Op.operands]; exact .inr (by simpa using hx)))
 refine ⟨.func fn ⟨f.toList.map a.eval⟩ ⟨c.toList.map a.eval⟩,.func fn _ _ _ _ h1.1 h1.2 J.1 J.2,?_⟩;simp only [execOp,ho,Instr.makeFunc];have e1:f.map a.eval=⟨f.toList.map a.eval⟩:=by apply Array.ext'; simp
 have e2:c.map a.eval=⟨c.toList.map a.eval⟩:=by apply Array.ext'; simp
 rw [e1,e2]; rfl
theorem adN {op:UnOp} {t:TypeId} {x:Operand} (h:Qp tmps op x k):fj P (.unOp op t x) tmps H aK k:=by
 obtain ⟨v,h,hv⟩:=c9 h
 split at h
 ·refine .value (by simp) h fun o ν a w ho ha hH=>⟨_,.int _ _,?_⟩
  have hv:=(hv ν a (ha x (by simp [Op.operands]))).gh
  simp [execOp,ho,hv,Op.unary,Op.intArith]
 ·refine .value (by simp) h fun o ν a w ho ha hH=>⟨_,.bool _,?_⟩
  have hv:=(hv ν a (ha x (by simp [Op.operands]))).km
  simp [execOp,ho,hv,Op.unary]
 ·rename_i q m
  split at h
  ·rename_i u hu;have h:=vW h
   split at h
   ·rename_i hs;refine .value (by simp) h fun o ν a w ho ha hH=>⟨_,au.kj hs,?_⟩
    have hv:=(hv ν a (ha x (by simp [Op.operands]))).gh
    simp [execOp,ho,hv,Op.unary,hu]
   ·exact h.elim
  ·exact h.elim
 ·exact h.elim
end
open Go Go.RowKit
section
variable {P:Program} {tt:TT} {w:World} {ν:Nu} {aK:Nat} {k:QK} {tmps:List Value} {H:aA}
theorem au.tX {ν:Nu} {id row m c:Nat} {x:Value} (h:au ν (.slice (some ⟨id,row,none⟩) m c) x) :
  (∃ l c',ν id=some l∧(c'=c∨c=ao)∧m≤c'∧row+c'≤l.cap∧x=.slice (some (l.at row 0)) m c')∨(m=0∧(0=c∨c=ao)∧∃ b,x=.slice (some b) 0 0):=by
 cases h with
 | slice _ _ _ _ c' l h hc hn hr=>exact .inl ⟨l,c',h,hc,hn,hr,rfl⟩
 | void _ _ _ b hc=>exact .inr ⟨rfl,hc,b,rfl⟩
theorem au.Ot {ν:Nu} {id row b0 m c:Nat} {x:Value} (h:au ν (.slice (some ⟨id,row,some b0⟩) m c) x) :
  (∃ l c',ν id=some l∧b0≤c'∧m≤c'∧row+c'≤l.cap∧x=.slice (some (l.at row 0)) m c')∨(m=0∧b0=0∧∃ b,x=.slice (some b) 0 0):=by
 cases h with
 | mi _ _ _ _ c' l h hm hn hr=>exact .inl ⟨l,c',h,hm,hn,hr,rfl⟩
 | kZ _ _ a=>exact .inr ⟨rfl,rfl,a,rfl⟩
theorem au.W5 {ν:Nu} {id row b0 m c:Nat} {x:Value} (h:au ν (.slice (some ⟨id,row,some b0⟩) m c) x) :
  (∃ l c',ν id=some l∧b0≤c'∧m≤c'∧row+c'≤l.cap∧c=ao∧x=.slice (some (l.at row 0)) m c')∨(m=0∧b0=0∧c=ao∧∃ b,x=.slice (some b) 0 0):=by
 cases h with
 | mi _ _ _ _ c' l h hm hn hr=>exact .inl ⟨l,c',h,hm,hn,hr,rfl,rfl⟩
 | kZ _ _ a=>exact .inr ⟨rfl,rfl,rfl,a,rfl⟩
theorem au.Cq {ν:Nu} {id row m c:Nat} {sp:Option Nat} {x:Value} (h:au ν (.slice (some ⟨id,row,sp⟩) m c) x) :
  (∃ l c',ν id=some l∧m≤c'∧row+c'≤l.cap∧x=.slice (some (l.at row 0)) m c')∨(m=0∧∃ b,x=.slice (some b) 0 0):=by
 cases h with
 | slice _ _ _ _ c' l h hc hn hr=>exact .inl ⟨l,c',h,hn,hr,rfl⟩
 | void _ _ _ b hc=>exact .inr ⟨rfl,b,rfl⟩
 | mi _ _ _ _ c' l h hm hn hr=>exact .inl ⟨l,c',h,hn,hr,rfl⟩
 | kZ _ _ a=>exact .inr ⟨rfl,a,rfl⟩
theorem au.p6 {ν:Nu} {x:Value} (h:au ν (.slice none 0 0) x):x=.slice none 0 0:=by cases h; rfl
theorem mA {x:Option Operand} {d:Int} {k:Int→Prop} (h:lY tmps x d k):∃ n,k n∧∀ (ν:Nu) (a:Act),(∀ y∈x.toArray,fC ν tmps a y)→(x=none∧n=d)∨∃ q,x.map a.eval=some (.int q n):=by
 cases x with
 | none=>exact ⟨d,h,fun ν a _=>.inl ⟨rfl,rfl⟩⟩
 | some x =>
  obtain ⟨v,h,hv⟩:=c9 h
  split at h
  ·rename_i q n;exact ⟨n,h,fun ν a ha=>.inr ⟨q,by simp [(hv ν a (ha x (by simp))).gh]⟩⟩
  ·exact h.elim
theorem wh {q:IntKind} {n:Int} {y:Nat} {code:BoundsCode} (h0:0≤n) (h1:n≤y) (w:World):(Instr.sliceBound (.int q n) y code).run P w=.ok n.toNat w:=by
 simp [Instr.sliceBound,asIntOf,h0,h1]
theorem oQ {len cap:Nat} {lo hi mx:Option Value} {l h m:Int} (hl:(lo=none∧l=0)∨∃ q,lo=some (.int q l)) (hh:(hi=none∧h=(len:Int))∨∃ q,hi=some (.int q h))
  (hm:(mx=none∧m=(cap:Int))∨((∃ q,mx=some (.int q m))∧∃ v,hi=some v)) (b0:0≤l) (b1:l≤h) (b2:h≤m) (b3:m≤cap) (il:Bool) (w:World) :
  (Instr.sliceBounds il len cap lo hi mx).run P w=.ok (l.toNat,h.toNat,m.toNat) w:=by
 unfold Instr.sliceBounds;rcases hm with ⟨rfl,rfl⟩ | ⟨⟨q,rfl⟩,v,rfl⟩
 ·rcases hh with ⟨rfl,rfl⟩ | ⟨q,rfl⟩
  ·rcases hl with ⟨rfl,rfl⟩ | ⟨q,rfl⟩
   ·simp
   ·simp [wh (P:=P) (q:=q) (n:=l) (y:=len) b0 (by omega)]
  ·have e:=wh (P:=P) (q:=q) (n:=h) (y:=cap) (code:=if il then .sliceAcap else .sliceAlen) (by omega) (by omega) w
   rcases hl with ⟨rfl,rfl⟩ | ⟨q',rfl⟩
   ·simp [e]
   ·simp [e,wh (P:=P) (q:=q') (n:=l) (y:=h.toNat) b0 (by omega)]
 ·rcases hh with ⟨h',_⟩ | ⟨q',h'⟩
  ·cases h'
  ·cases h';have e0:=wh (P:=P) (q:=q) (n:=m) (y:=cap) (code:=if il then .slice3Acap else .slice3Alen) (by omega) (by omega) w
   have e:=wh (P:=P) (q:=q') (n:=h) (y:=m.toNat) (code:=.slice3B) (by omega) (by omega) w
   rcases hl with ⟨rfl,rfl⟩ | ⟨q',rfl⟩
   ·simp [e0,e]
   ·simp [e0,e,wh (P:=P) (q:=q') (n:=l) (y:=h.toNat) b0 (by omega)]
theorem Ks (hT:∀ t ti,tt t=some ti→aC P t ti) {t:TypeId} {x:Operand} {lo hi mx:Option Operand} (h:GY tt tmps H t x lo hi mx k):∃ v,k v none∧∀ (bz:Nu) (w0:World),bU bz H w0→qB P bz (.slice t x lo hi mx) tmps v:=by
 obtain ⟨xv,J,hx⟩:=c9 h;clear h;obtain ⟨ti,ht,h⟩:=c5 J;clear J;obtain ⟨d,hu,hd⟩:=(hT _ _ ht).under;have mem:∀ (o:Option Operand) y,(o=lo∨o=hi∨o=mx)→y∈o.toArray→y∈(Op.slice t x lo hi mx).operands:=by
  intro o y ho hy;simp only [Op.operands,Array.mem_append];rcases ho with rfl | rfl | rfl
  ·exact .inl (.inl (.inr hy))
  ·exact .inl (.inr hy)
  ·exact .inr hy
 have u9:x∈(Op.slice t x lo hi mx).operands:=by simp [Op.operands]
 split at h
 ·rename_i s hk;rw [hk] at hd;have hd:d=.string:=hd;subst hd
  split at h
  ·obtain ⟨l,h,hl⟩:=mA h;obtain ⟨hh,h,jG⟩:=mA h;obtain ⟨⟨b0,b1,b2⟩,h⟩:=h;refine ⟨_,h,fun bz w0 hH=>⟨by simp,fun o ν a w hle ho ha=>⟨_,.str _,?_⟩⟩⟩
   have hx:=(hx ν a (ha x u9)).sA;have e1:=hl ν a (fun y hy=>ha y (mem _ y (.inl rfl) hy))
   have e2:=jG ν a (fun y hy=>ha y (mem _ y (.inr (.inl rfl)) hy))
   have:=oQ (P:=P) (len:=s.size) (cap:=s.size) (lo:=lo.map a.eval) (hi:=hi.map a.eval) (mx:=none) (l:=l) (h:=hh) (m:=s.size) (e1.imp (fun ⟨p,q⟩=>⟨by rw [p]; rfl,q⟩) (fun x=>x)) (e2.imp (fun ⟨p,q⟩=>⟨by rw [p]; rfl,q⟩) (fun x=>x)) (.inl ⟨rfl,rfl⟩) b0 b1 b2 (Int.le_refl _) false w
   simp [execOp,ho,Instr.sliceAt,dO hu,Instr.slice,hx,this]
  ·exact h.elim
 ·rename_i e id row n c hk;rw [hk] at hd;have hd:d=.slice e:=hd;subst hd;obtain ⟨te,he,J⟩:=c5 h;clear h;obtain ⟨b,hb,h⟩:=gK J;clear J;obtain ⟨ei,fF,jq,_⟩:=(hT _ _ he).info
  split at h
  ·rename_i hq;have hq:b.ah=te.size:=Nat.eq_of_beq_eq_true hq
   -- what both forms come to
   have fin:∀ (o:Oper) (ν:Nu) (a:Act) (w:World) (l hh m:Int) (c1:Nat),o.op=.slice t x lo hi mx→(∀ x'∈(Op.slice t x lo hi mx).operands,fC ν tmps a x')→∀ (bz:Nu) (w0:World),bU bz H w0→bz.le ν →
     (∀ (lv hv:Nat) (c':Nat),n≤c'→(c'=c∨c=ao)→∃ mm:Int,(Instr.sliceBounds true n c' (lo.map a.eval) (hi.map a.eval) (mx.map a.eval)).run P w=.ok (l.toNat,hh.toNat,mm.toNat) w∧hh.toNat≤mm.toNat∧mm.toNat≤c'∧(mm.toNat - l.toNat=c1∨c1=ao)) →
     0≤l→l≤hh→hh≤n →
     ∃ v',au ν (.slice (some ⟨id,dR row l.toNat,none⟩) (hh.toNat - l.toNat) c1) v'∧(execOp a.eval o).run P w=.ok (.value v') w:=by
    intro o ν a w l hh m c1 ho ha bz w0 hH hle Qq b0 b1 b2;obtain ⟨l0,ff,hB⟩:=hH.aJ id b hb;have ff:=hle _ _ ff;rcases (hx ν a (ha x u9)).tX with ⟨lc,c',dX,hc,hn,hr,cK⟩ | ⟨hn,hc,bb,cK⟩
    ·rw [ff] at dX; cases dX;obtain ⟨mm,bK,m1,m2,m3⟩:=Qq 0 0 c' hn hc;by_cases hz:mm.toNat=l.toNat
     ·have e0:hh.toNat - l.toNat=0:=by omega
      refine ⟨.slice (some (l0.at row 0)) 0 0,?_,?_⟩
      ·rw [e0]; exact .void _ _ _ _ (m3.imp (fun h=>by omega) (fun h=>h))
      ·simp [execOp,ho,Instr.sliceAt,dO hu,Instr.slice,cK,bK,gB fF,hz,e0]
     ·refine ⟨.slice (some (l0.at (row+l.toNat) 0)) (hh.toNat - l.toNat) (mm.toNat - l.toNat),?_,?_⟩
      ·rw [ar]; exact .slice _ _ _ _ _ l0 ff m3 (by omega) (by omega)
      ·have k9:(l0.at row 0).add (l.toNat*ei.size)=l0.at (row+l.toNat) 0:=by
        rw [Loc.jS];unfold Loc.at
        congr 1
        rw [jq,← hq,← hB.ah,Nat.add_mul]; omega
       simp [execOp,ho,Instr.sliceAt,dO hu,Instr.slice,cK,bK,gB fF,hz,k9]
    ·obtain ⟨mm,bK,m1,m2,m3⟩:=Qq 0 0 0 (by omega) (hc.imp (fun h=>h) (fun h=>h))
     have e0:hh.toNat - l.toNat=0:=by omega
     have e1:mm.toNat - l.toNat=0:=by omega
     have e2:l.toNat=0:=by omega
     have e3:mm.toNat=0:=by omega
     have e4:hh.toNat=0:=by omega
     refine ⟨.slice (some bb) 0 0,?_,?_⟩
     ·rw [e0]; exact .void _ _ _ _ (m3.imp (fun h=>by omega) (fun h=>h))
     ·rw [e2,e3,e4] at bK;subst hn;simp [execOp,ho,Instr.sliceAt,dO hu,Instr.slice,cK,bK,gB fF]
   split at h
   ·obtain ⟨l,h,hl⟩:=mA h;obtain ⟨hh,h,jG⟩:=mA h;obtain ⟨⟨b0,b1,b2⟩,h⟩:=h;refine ⟨_,h,fun bz w0 hH=>⟨by simp,fun o ν a w hle ho ha=>fin o ν a w l hh 0 _ ho ha bz w0 hH hle (fun _ _ c' hn hc=>⟨c',?_,by omega,by omega,?_⟩) b0 b1 b2⟩⟩
    ·have e1:=hl ν a (fun y hy=>ha y (mem _ y (.inl rfl) hy))
     have e2:=jG ν a (fun y hy=>ha y (mem _ y (.inr (.inl rfl)) hy))
     exact oQ (P:=P) (e1.imp (fun ⟨p,q⟩=>⟨by rw [p]; rfl,q⟩) (fun x=>x)) (e2.imp (fun ⟨p,q⟩=>⟨by rw [p]; rfl,q⟩) (fun x=>x)) (.inl ⟨rfl,rfl⟩) b0 b1 (by omega) (Int.le_refl _) true w
    ·unfold uA;by_cases cL:c=ao
     ·right; simp [cL]
     ·left
      have:c'=c:=hc.resolve_right cL;simp [cL,this]
   ·rename_i h0 m0;obtain ⟨l,J,hl⟩:=mA h;clear h;obtain ⟨hv,h,jG⟩:=c9 J;clear J;obtain ⟨mv,J,hm⟩:=c9 h;clear h;have h:=J;clear J
    split at h
    ·rename_i q1 hh q2 m;obtain ⟨⟨b0,b1,b2,b3⟩,h⟩:=h;refine ⟨_,h,fun bz w0 hH=>⟨by simp,fun o ν a w hle ho ha=>fin o ν a w l hh m _ ho ha bz w0 hH hle (fun _ _ c' hn hc=>⟨m,?_,by omega,by omega,.inl rfl⟩) b0 b1 (by omega)⟩⟩
     have e1:=hl ν a (fun y hy=>ha y (mem _ y (.inl rfl) hy))
     have e2:=(jG ν a (ha h0 (mem _ h0 (.inr (.inl rfl)) (by simp)))).gh
     have e3:=(hm ν a (ha m0 (mem _ m0 (.inr (.inr rfl)) (by simp)))).gh
     exact oQ (P:=P) (e1.imp (fun ⟨p,q⟩=>⟨by rw [p]; rfl,q⟩) (fun x=>x)) (.inr ⟨q1,by simp [e2]⟩)
      (.inr ⟨⟨q2,by simp [e3]⟩,_,rfl⟩) b0 b1 (by omega) (by omega) true w
    ·exact h.elim
   ·exact h.elim
  ·exact h.elim
 ·rename_i e id row b0 n c hk;rw [hk] at hd;have hd:d=.slice e:=hd;subst hd;obtain ⟨te,he,J⟩:=c5 h;clear h;obtain ⟨b,hb,h⟩:=gK J;clear J;obtain ⟨ei,fF,jq,_⟩:=(hT _ _ he).info
  split at h
  ·rename_i hq;have hq:b.ah=te.size:=Nat.eq_of_beq_eq_true hq
   split at h
   ·obtain ⟨l,h,hl⟩:=mA h;obtain ⟨hh,h,jG⟩:=mA h;obtain ⟨⟨k0,k1,k2⟩,h⟩:=h;refine ⟨_,h,fun bz w0 hH=>⟨by simp,fun o ν a w hle ho ha=>?_⟩⟩
    obtain ⟨l0,ff,hB⟩:=hH.aJ id b hb;have ff:=hle _ _ ff;have e1:=hl ν a (fun y hy=>ha y (mem _ y (.inl rfl) hy))
    have e2:=jG ν a (fun y hy=>ha y (mem _ y (.inr (.inl rfl)) hy))
    rcases (hx ν a (ha x u9)).Ot with ⟨lc,c',dX,pH,hn,hr,cK⟩ | ⟨hn,iu,bb,cK⟩
    ·rw [ff] at dX; cases dX;have bK:=oQ (P:=P) (len:=n) (cap:=c') (lo:=lo.map a.eval) (hi:=hi.map a.eval) (mx:=none) (l:=l) (h:=hh) (m:=c') (e1.imp (fun ⟨p,q⟩=>⟨by rw [p]; rfl,q⟩) (fun x=>x)) (e2.imp (fun ⟨p,q⟩=>⟨by rw [p]; rfl,q⟩) (fun x=>x)) (.inl ⟨rfl,rfl⟩) k0 k1 (by omega) (Int.le_refl _) true w
     rw [Int.toNat_natCast] at bK;by_cases hz:c'=l.toNat
     ·have e0:hh.toNat - l.toNat=0:=by omega
      have e3:b0 - l.toNat=0:=by omega
      refine ⟨.slice (some (l0.at row 0)) 0 0,?_,?_⟩
      ·rw [e0,e3]; exact .kZ _ _ _
      ·simp [execOp,ho,Instr.sliceAt,dO hu,Instr.slice,cK,bK,gB fF,hz.symm,← hz]
       first | done | omega
     ·refine ⟨.slice (some (l0.at (row+l.toNat) 0)) (hh.toNat - l.toNat) (c' - l.toNat),?_,?_⟩
      ·rw [ar]; exact .mi _ _ _ _ _ l0 ff (by omega) (by omega) (by omega)
      ·have k9:(l0.at row 0).add (l.toNat*ei.size)=l0.at (row+l.toNat) 0:=by
        rw [Loc.jS];unfold Loc.at
        congr 1
        rw [jq,← hq,← hB.ah,Nat.add_mul]; omega
       simp [execOp,ho,Instr.sliceAt,dO hu,Instr.slice,cK,bK,gB fF,hz,k9]
    ·have bK:=oQ (P:=P) (len:=n) (cap:=0) (lo:=lo.map a.eval) (hi:=hi.map a.eval) (mx:=none) (l:=l) (h:=hh) (m:=(0:Nat)) (e1.imp (fun ⟨p,q⟩=>⟨by rw [p]; rfl,q⟩) (fun x=>x)) (e2.imp (fun ⟨p,q⟩=>⟨by rw [p]; rfl,q⟩) (fun x=>x)) (.inl ⟨rfl,rfl⟩) k0 k1 (by omega) (Int.le_refl _) true w
     have e2:l.toNat=0:=by omega
     have e4:hh.toNat=0:=by omega
     refine ⟨.slice (some bb) 0 0,?_,?_⟩
     ·rw [e4,e2,iu]; exact .kZ _ _ _
     ·rw [e2,e4] at bK;subst hn;simp [execOp,ho,Instr.sliceAt,dO hu,Instr.slice,cK,bK,gB fF]
   ·rename_i h0 m0;obtain ⟨l,J,hl⟩:=mA h;clear h;obtain ⟨hv,h,jG⟩:=c9 J;clear J;obtain ⟨mv,J,hm⟩:=c9 h;clear h;have h:=J;clear J
    split at h
    ·rename_i q1 hh q2 m;obtain ⟨⟨k0,k1,k2,k3⟩,h⟩:=h;refine ⟨_,h,fun bz w0 hH=>⟨by simp,fun o ν a w hle ho ha=>?_⟩⟩
     obtain ⟨l0,ff,hB⟩:=hH.aJ id b hb;have ff:=hle _ _ ff;have e1:=hl ν a (fun y hy=>ha y (mem _ y (.inl rfl) hy))
     have e2:=(jG ν a (ha h0 (mem _ h0 (.inr (.inl rfl)) (by simp)))).gh
     have e3:=(hm ν a (ha m0 (mem _ m0 (.inr (.inr rfl)) (by simp)))).gh
     rcases (hx ν a (ha x u9)).Ot with ⟨lc,c',dX,pH,hn,hr,cK⟩ | ⟨hn,iu,bb,cK⟩
     ·rw [ff] at dX; cases dX;have bK:=oQ (P:=P) (len:=n) (cap:=c') (lo:=lo.map a.eval) (hi:=some (a.eval h0)) (mx:=some (a.eval m0)) (l:=l) (h:=hh) (m:=m) (e1.imp (fun ⟨p,q⟩=>⟨by rw [p]; rfl,q⟩) (fun x=>x)) (.inr ⟨q1,by rw [e2]⟩) (.inr ⟨⟨q2,by rw [e3]⟩,_,rfl⟩) k0 k1 (by omega) (by omega) true w
      by_cases hz:m.toNat=l.toNat
      ·have e0:hh.toNat - l.toNat=0:=by omega
       have e4:m.toNat - l.toNat=0:=by omega
       refine ⟨.slice (some (l0.at row 0)) 0 0,?_,?_⟩
       ·rw [e0,e4]; exact .void _ _ _ _ (.inl rfl)
       ·simp [execOp,ho,Instr.sliceAt,dO hu,Instr.slice,cK,bK,gB fF,hz,e0]
      ·refine ⟨.slice (some (l0.at (row+l.toNat) 0)) (hh.toNat - l.toNat) (m.toNat - l.toNat),?_,?_⟩
       ·rw [ar]; exact .slice _ _ _ _ _ l0 ff (.inl rfl) (by omega) (by omega)
       ·have k9:(l0.at row 0).add (l.toNat*ei.size)=l0.at (row+l.toNat) 0:=by
         rw [Loc.jS];unfold Loc.at
         congr 1
         rw [jq,← hq,← hB.ah,Nat.add_mul]; omega
        simp [execOp,ho,Instr.sliceAt,dO hu,Instr.slice,cK,bK,gB fF,hz,k9]
     ·have bK:=oQ (P:=P) (len:=n) (cap:=0) (lo:=lo.map a.eval) (hi:=some (a.eval h0)) (mx:=some (a.eval m0)) (l:=l) (h:=hh) (m:=m) (e1.imp (fun ⟨p,q⟩=>⟨by rw [p]; rfl,q⟩) (fun x=>x)) (.inr ⟨q1,by rw [e2]⟩) (.inr ⟨⟨q2,by rw [e3]⟩,_,rfl⟩) k0 k1 (by omega) (by omega) true w
      have e5:l.toNat=0:=by omega
      have e6:hh.toNat=0:=by omega
      have e7:m.toNat=0:=by omega
      refine ⟨.slice (some bb) 0 0,?_,?_⟩
      ·rw [e5,e6,e7]; exact .void _ _ _ _ (.inl rfl)
      ·rw [e5,e6,e7] at bK;subst hn;simp [execOp,ho,Instr.sliceAt,dO hu,Instr.slice,cK,bK,gB fF]
    ·exact h.elim
   ·exact h.elim
  ·exact h.elim
 ·rename_i n e id row hk;rw [hk] at hd;have hd:d=.array n e:=hd;subst hd;obtain ⟨te,he,J⟩:=c5 h;clear h;obtain ⟨b,hb,h⟩:=gK J;clear J;obtain ⟨ei,fF,jq,_⟩:=(hT _ _ he).info
  split at h
  ·rename_i hq;have hq:b.ah=te.size:=Nat.eq_of_beq_eq_true hq
   split at h
   ·obtain ⟨l,h,hl⟩:=mA h;obtain ⟨hh,h,jG⟩:=mA h;obtain ⟨⟨b0,b1,b2,b3,b4⟩,h⟩:=h;refine ⟨_,h,fun bz w0 hH=>⟨by simp,fun o ν a w hle ho ha=>?_⟩⟩
    obtain ⟨l0,ff,hB⟩:=hH.aJ id b hb;have ff:=hle _ _ ff;obtain ⟨lp,Qr,cK⟩:=(hx ν a (ha x u9)).o4;rw [ff] at Qr; cases Qr;have cK:a.eval x=.pointer (some (l0.at row 0)):=cK;obtain ⟨_,_,_,_,fG⟩:=hB.own (ai.dm b4).1 (ai.dm b4).2;have e1:=hl ν a (fun y hy=>ha y (mem _ y (.inl rfl) hy))
    have e2:=jG ν a (fun y hy=>ha y (mem _ y (.inr (.inl rfl)) hy))
    have bK:=oQ (P:=P) (len:=n) (cap:=n) (lo:=lo.map a.eval) (hi:=hi.map a.eval) (mx:=none) (l:=l) (h:=hh) (m:=n) (e1.imp (fun ⟨p,q⟩=>⟨by rw [p]; rfl,q⟩) (fun x=>x)) (e2.imp (fun ⟨p,q⟩=>⟨by rw [p]; rfl,q⟩) (fun x=>x)) (.inl ⟨rfl,rfl⟩) b0 b1 b2 (Int.le_refl _) false w
    rw [Int.toNat_natCast] at bK;by_cases hz:n=l.toNat
    ·have e0:hh.toNat - l.toNat=0:=by omega
     have e3:n - l.toNat=0:=by omega
     refine ⟨.slice (some (l0.at row 0)) 0 0,?_,?_⟩
     ·rw [e0,e3]; exact .void _ _ _ _ (.inl rfl)
     ·simp [execOp,ho,Instr.sliceAt,dO hu,Instr.sureAddr,cK,bK,gB fF,hz.symm,← hz,e0]
      first | done | omega
    ·refine ⟨.slice (some (l0.at (row+l.toNat) 0)) (hh.toNat - l.toNat) (n - l.toNat),?_,?_⟩
     ·rw [ar]; exact .slice _ _ _ _ _ l0 ff (.inl rfl) (by omega) (by omega)
     ·have k9:(l0.at row 0).add (l.toNat*ei.size)=l0.at (row+l.toNat) 0:=by
       rw [Loc.jS];unfold Loc.at
       congr 1
       rw [jq,← hq,← hB.ah,Nat.add_mul]; omega
      simp [execOp,ho,Instr.sliceAt,dO hu,Instr.sureAddr,cK,bK,gB fF,hz,k9]
   ·exact h.elim
  ·exact h.elim
 ·rename_i e hk;rw [hk] at hd;have hd:d=.slice e:=hd;subst hd;obtain ⟨te,he,J⟩:=c5 h;clear h;obtain ⟨ei,fF,jq,_⟩:=(hT _ _ he).info
  split at J
  ·obtain ⟨l,h,hl⟩:=mA J;obtain ⟨hh,h,jG⟩:=mA h;obtain ⟨⟨b0,b1,b2⟩,h⟩:=h;refine ⟨_,h,fun bz w0 hH=>⟨by simp,fun o ν a w hle ho ha=>⟨_,.iR,?_⟩⟩⟩
   have hx:=(hx ν a (ha x u9)).p6;have e1:=hl ν a (fun y hy=>ha y (mem _ y (.inl rfl) hy))
   have e2:=jG ν a (fun y hy=>ha y (mem _ y (.inr (.inl rfl)) hy))
   have:=oQ (P:=P) (len:=0) (cap:=0) (lo:=lo.map a.eval) (hi:=hi.map a.eval) (mx:=none) (l:=l) (h:=hh) (m:=0) (e1.imp (fun ⟨p,q⟩=>⟨by rw [p]; rfl,q⟩) (fun x=>x)) (e2.imp (fun ⟨p,q⟩=>⟨by rw [p]; rfl,q⟩) (fun x=>x)) (.inl ⟨rfl,rfl⟩) b0 b1 b2 (by omega) true w
   rw [show l.toNat=0 by omega,show hh.toNat=0 by omega] at this
   simp [execOp,ho,Instr.sliceAt,dO hu,Instr.slice,hx,this,gB fF]
  ·rename_i h0 m0;obtain ⟨l,h,hl⟩:=mA J;clear J;obtain ⟨hv,J,jG⟩:=c9 h;clear h;obtain ⟨mv,h,hm⟩:=c9 J;clear J
   split at h
   ·rename_i q1 hh q2 m;obtain ⟨⟨b0,b1,b2,b3⟩,h⟩:=h;refine ⟨_,h,fun bz w0 hH=>⟨by simp,fun o ν a w hle ho ha=>⟨_,.iR,?_⟩⟩⟩
    have hx:=(hx ν a (ha x u9)).p6;have e1:=hl ν a (fun y hy=>ha y (mem _ y (.inl rfl) hy))
    have e2:=(jG ν a (ha h0 (mem _ h0 (.inr (.inl rfl)) (by simp)))).gh
    have e3:=(hm ν a (ha m0 (mem _ m0 (.inr (.inr rfl)) (by simp)))).gh
    have:=oQ (P:=P) (len:=0) (cap:=0) (lo:=lo.map a.eval) (hi:=some (a.eval h0)) (mx:=some (a.eval m0)) (l:=l) (h:=hh) (m:=m) (e1.imp (fun ⟨p,q⟩=>⟨by rw [p]; rfl,q⟩) (fun x=>x)) (.inr ⟨q1,by rw [e2]⟩)
     (.inr ⟨⟨q2,by rw [e3]⟩,_,rfl⟩) b0 b1 b2 (by omega) true w
    rw [show l.toNat=0 by omega,show hh.toNat=0 by omega,show m.toNat=0 by omega] at this
    simp [execOp,ho,Instr.sliceAt,dO hu,Instr.slice,hx,this,gB fF]
   ·exact h.elim
  ·exact J.elim
 ·exact h.elim
theorem W6 (hT:∀ t ti,tt t=some ti→aC P t ti) {t:TypeId} {x:Operand} {lo hi mx:Option Operand} (h:GY tt tmps H t x lo hi mx k):fj P (.slice t x lo hi mx) tmps H aK k:=by
 obtain ⟨v,hk,hp⟩:=Ks hT h;exact .value (by simp) hk fun o ν a w ho ha hH=>(hp ν w hH).2 o ν a w ν.le_refl ho ha
end
open Go Go.RowKit
section
variable {P:Program} {tt:TT} {Φ:zl} {o:Oper} {a:Act} {w:World} {ν:Nu} {aK:Nat} {k:QK} {tmps:List Value} {H:aA}
theorem au.ab8 {ν:Nu} {b:Option Addr} {m c:Nat} {z:Value} (h:au ν (.slice b m c) z):∃ b' c',z=.slice b' m c':=by cases h <;> exact ⟨_,_,rfl⟩
theorem au.rZ {ν:Nu} {fn:Fn} {x y:Array Value} {z:Value} (h:au ν (.func fn x y) z):∃ ys dy,z=.func fn ⟨ys⟩ ⟨dy⟩∧bn ν x.toList ys∧bn ν y.toList dy:=by
 cases h with | func _ xs ys nP dy h1 J h3 h4=>exact ⟨ys,dy,rfl,⟨h1,J⟩,⟨h3,h4⟩⟩
theorem Kt (hT:∀ t ti,tt t=some ti→aC P t ti) {t:TypeId} {x ix:Operand} (h:ER tt tmps H t x ix k):sS P (.indexAddr t x ix) tmps H k:=by
 obtain ⟨xv,J,hx⟩:=c9 h;clear h;obtain ⟨iv,h,hi⟩:=c9 J;clear J
 split at h
 ·rename_i q i;obtain ⟨ti,ht,J⟩:=c5 h;clear h;have h:=J;clear J;obtain ⟨d,hu,hd⟩:=(hT _ _ ht).under
  split at h
  ·rename_i e hk;rw [hk] at hd;have hd:d=.slice e:=hd;subst hd
   split at h
   ·rename_i id row m c;obtain ⟨te,he,h⟩:=c5 h;obtain ⟨b,hb,h⟩:=gK h;obtain ⟨⟨h0,h1⟩,h⟩:=h
    split at h
    ·rename_i hq;have hq:b.ah=te.size:=Nat.eq_of_beq_eq_true hq;obtain ⟨ei,fF,jq,_⟩:=(hT _ _ he).info;rw [ar] at h;refine .value (by simp) h fun o ν a w ho ha hH=>?_
     have hi:=(hi ν a (ha ix (by simp [Op.operands]))).gh
     obtain ⟨l0,ff,hB⟩:=hH.aJ id b hb;rcases (hx ν a (ha x (by simp [Op.operands]))).tX with ⟨l,c',hl,hc,hm,hr,cK⟩ | ⟨hm,_⟩
     ·rw [ff] at hl; cases hl;refine ⟨.pointer (some (l0.at (row+i.toNat) 0)),.ptr _ _ none _ ff,?_⟩;have ak:i < (m:Int):=h1;have k9:(l0.at row 0).add (i.toNat*ei.size)=l0.at (row+i.toNat) 0:=by
       rw [Loc.jS];unfold Loc.at
       congr 1
       rw [jq,← hq,← hB.ah,Nat.add_mul]; omega
      simp [execOp,ho,Instr.indexAt,hi,asIntOf,dO hu,cK,h0,ak,gB fF,k9]
     ·omega
    ·exact h.elim
   ·exact h.elim
  ·rename_i m e hk;rw [hk] at hd;have hd:d=.array m e:=hd;subst hd
   split at h
   ·rename_i id row;obtain ⟨te,he,h⟩:=c5 h;obtain ⟨b,hb,h⟩:=gK h;obtain ⟨⟨h0,h1⟩,h⟩:=h;obtain ⟨ei,fF,jq,_⟩:=(hT _ _ he).info
    split at h
    ·rename_i hq;have hq:b.ah=te.size:=Nat.eq_of_beq_eq_true hq;rw [ar] at h;refine .value (by simp) h fun o ν a w ho ha hH=>?_
     have hi:=(hi ν a (ha ix (by simp [Op.operands]))).gh
     obtain ⟨l0,ff,hB⟩:=hH.aJ id b hb;obtain ⟨l,hl,cK⟩:=(hx ν a (ha x (by simp [Op.operands]))).o4
     rw [ff] at hl; cases hl;refine ⟨.pointer (some (l0.at (row+i.toNat) 0)),.ptr _ _ none _ ff,?_⟩;have k9:(l0.at row 0).add (i.toNat*ei.size)=l0.at (row+i.toNat) 0:=by
      rw [Loc.jS];unfold Loc.at
      congr 1
      rw [jq,← hq,← hB.ah,Nat.add_mul]; omega
     have cK:a.eval x=.pointer (some (l0.at row 0)):=cK;simp [execOp,ho,Instr.indexAt,hi,asIntOf,dO hu,cK,Instr.sureAddr,h0,h1,gB fF,k9]
    ·refine .value (by simp) h fun o ν a w ho ha hH=>?_
     have hi:=(hi ν a (ha ix (by simp [Op.operands]))).gh
     obtain ⟨l,hl,cK⟩:=(hx ν a (ha x (by simp [Op.operands]))).o4
     have cK:a.eval x=.pointer (some (l.at row 0)):=cK;refine ⟨.pointer (some (l.at row (0+i.toNat*te.size))),.ptr _ _ (some _) _ hl,?_⟩;simp [execOp,ho,Instr.indexAt,hi,asIntOf,dO hu,cK,Instr.sureAddr,h0,h1,gB fF,Loc.jS,jq]
   ·rename_i id row c;obtain ⟨te,he,h⟩:=c5 h;obtain ⟨⟨h0,h1⟩,h⟩:=h;obtain ⟨ei,fF,jq,_⟩:=(hT _ _ he).info;refine .value (by simp) h fun o ν a w ho ha hH=>?_
    have hi:=(hi ν a (ha ix (by simp [Op.operands]))).gh
    obtain ⟨l,hl,cK⟩:=(hx ν a (ha x (by simp [Op.operands]))).o4
    have cK:a.eval x=.pointer (some (l.at row c)):=cK;refine ⟨.pointer (some (l.at row (c+i.toNat*te.size))),.ptr _ _ (some _) _ hl,?_⟩;simp [execOp,ho,Instr.indexAt,hi,asIntOf,dO hu,cK,Instr.sureAddr,h0,h1,gB fF,Loc.jS,jq]
   ·exact h.elim
  ·exact h.elim
 ·exact h.elim
theorem Sp (hT:∀ t ti,tt t=some ti→aC P t ti) {t:TypeId} {x ix:Operand} (h:ER tt tmps H t x ix k):fj P (.indexAddr t x ix) tmps H aK k:=(Kt hT h).ok
theorem SX (s:ByteArray) (i:Nat) (h:i < s.size):s[i]?=some (s[i]'h)∧((s[i]'h).toNat=cg s i):=by
 refine ⟨by simp [h],?_⟩
 unfold cg;rw [List.getD_eq_getElem?_getD,Array.getElem?_toList];have:s.data[i]?=some (s[i]'h):=by rw [Array.getElem?_eq_getElem (by simpa using h)]; rfl
 rw [this]; rfl
theorem W7 (hT:∀ t ti,tt t=some ti→aC P t ti) {t:TypeId} {x ix:Operand} (h:Oo tt tmps t x ix k):fj P (.index t x ix) tmps H aK k:=by
 obtain ⟨xv,J,hx⟩:=c9 h;clear h;obtain ⟨iv,h,hi⟩:=c9 J;clear J
 split at h
 ·rename_i q i;obtain ⟨ti,ht,J⟩:=c5 h;clear h;have h:=J;clear J;obtain ⟨d,hu,hd⟩:=(hT _ _ ht).under
  split at h
  ·rename_i hk;rw [hk] at hd;have hd:d=.string:=hd;subst hd
   split at h
   ·rename_i s;obtain ⟨⟨h0,h1⟩,h⟩:=h;have ak:i.toNat < s.size:=by omega
    obtain ⟨J,h3⟩:=SX s i.toNat ak;refine .value (by simp) h fun o ν a w ho ha hH=>⟨_,.int _ _,?_⟩
    have hi:=(hi ν a (ha ix (by simp [Op.operands]))).gh
    have hx:=(hx ν a (ha x (by simp [Op.operands]))).sA
    simp [execOp,ho,Instr.index,hi,asIntOf,dO hu,hx,h0,J,h3]
   ·exact h.elim
  ·exact h.elim
 ·exact h.elim
def Cr (op:BinOp) (q:IntKind) (a b:Int):Sem Value :=
 match op with
 | .add | .sub | .mul=>Op.intArith op q a b
 | .quo | .rem=>Op.intDiv op q a b
 | .and | .or | .xor | .andNot=>Op.intBits op q a b
 | _=>Op.intCmp op a b
theorem Uj (op:BinOp) (t:TypeId) (q:IntKind) (a b:Int) (h1:op≠.shl) (J:op≠.shr):binOp op t (.int q a) (.int q b)=Cr op q a b:=by
 cases op <;> first | exact absurd rfl h1 | exact absurd rfl J | (cases q <;> rfl)
theorem binOp_shl (t:TypeId) (q q':IntKind) (a b:Int):binOp .shl t (.int q a) (.int q' b)=Op.shift .shl q a q' b:=rfl
theorem binOp_shr (t:TypeId) (q q':IntKind) (a b:Int):binOp .shr t (.int q a) (.int q' b)=Op.shift .shr q a q' b:=rfl
theorem Uk (op:BinOp) (t:TypeId) (x y:Operand) (q q':IntKind) (a b:Int) (w:World):(eqGuard op t x y (.int q a) (.int q' b)).run P w=.ok () w:=by cases op <;> rfl
theorem Ul (op:BinOp) (t:TypeId) (x y:Operand) (a b:ByteArray) (w:World):(eqGuard op t x y (.string a) (.string b)).run P w=.ok () w:=by cases op <;> rfl
theorem SY (op:BinOp) (t:TypeId) (x y:Operand) (a b:Bool) (w:World):(eqGuard op t x y (.bool a) (.bool b)).run P w=.ok () w:=by cases op <;> rfl
theorem yS {op:BinOp} {t ty:TypeId} {x y:Operand} (ho:o.op=.binOp op t x y ty) {u v z:Value} (hx:a.eval x=u) (hy:a.eval y=v) (hg:(eqGuard op t x y u v).run P w=.ok () w)
  (hb:(binOp op t u v).run P w=.ok z w):(execOp a.eval o).run P w=.ok (.value z) w:=by
 simp only [execOp,ho,hx,hy,Sem.run_bind,hg,hb,Result.andThen_ok,Sem.run_pure]
theorem Cs {op:BinOp} {t:TypeId} {q:IntKind} {x y:Int} (h:OW op q x y k):∃ z,k z none∧cW z=true∧∀ w,(Cr op q x y).run P w=.ok z w:=by
 cases op <;> first | exact h.elim | skip
 case and=>exact ⟨.int q (q.wrap (BitVec.ofInt q.bits x &&& BitVec.ofInt q.bits y).toNat),h,rfl,fun w=>rfl⟩
 case or=>exact ⟨.int q (q.wrap (BitVec.ofInt q.bits x ||| BitVec.ofInt q.bits y).toNat),h,rfl,fun w=>rfl⟩
 case xor=>exact ⟨.int q (q.wrap (BitVec.ofInt q.bits x ^^^ BitVec.ofInt q.bits y).toNat),h,rfl,fun w=>rfl⟩
 case andNot=>exact ⟨.int q (q.wrap (BitVec.ofInt q.bits x &&& ~~~(BitVec.ofInt q.bits y)).toNat),h,rfl,fun w=>rfl⟩
theorem Vt {op:BinOp} {t:TypeId} {q q':IntKind} {x y:Int} (h:B7 op q q' x y k):∃ z,k z none∧cW z=true∧∀ w,(binOp op t (.int q x) (.int q' y)).run P w=.ok z w:=by
 by_cases re:op=.shl
 ·subst re;obtain ⟨h0,h⟩:=Bs h;exact ⟨_,h,rfl,fun w=>by rw [binOp_shl]; simp [Op.shift,show ¬ y < 0 by omega]⟩
 by_cases Dy:op=.shr
 ·subst Dy;obtain ⟨h0,h⟩:=Bs h;exact ⟨_,h,rfl,fun w=>by rw [binOp_shr]; simp [Op.shift,show ¬ y < 0 by omega]⟩
 by_cases hq:q=q'
 ·subst hq;have e:=Uj op t q x y re Dy;rw [e];have hd:decide (q=q)=true:=by simp
  cases op <;> first | exact absurd rfl re | exact absurd rfl Dy | skip
  all_goals (unfold B7 at h; rw [hd] at h; dsimp only at h)
  case quo=>obtain ⟨h0,h⟩:=Bs h; exact ⟨_,h,rfl,fun w=>by simp [Cr,Op.intDiv,h0]⟩
  case rem=>obtain ⟨h0,h⟩:=Bs h; exact ⟨_,h,rfl,fun w=>by simp [Cr,Op.intDiv,h0]⟩
  case and=>exact Cs (t:=t) h
  case or=>exact Cs (t:=t) h
  case xor=>exact Cs (t:=t) h
  case andNot=>exact Cs (t:=t) h
  all_goals exact ⟨_,h,rfl,fun w=>rfl⟩
 ·have hd:decide (q=q')=false:=by simp [hq]
  cases op <;> first | exact absurd rfl re | exact absurd rfl Dy | (unfold B7 at h; rw [hd] at h; exact h.elim)
theorem Vu {op:BinOp} {t:TypeId} {x y:ByteArray} (h:NB op x y k):∃ z,k z none∧cW z=true∧∀ w,(binOp op t (.string x) (.string y)).run P w=.ok z w:=by
 cases op <;> first | exact h.elim | exact ⟨_,h,rfl,fun w=>rfl⟩ | skip
 obtain ⟨h0,h⟩:=h;refine ⟨_,h,rfl,fun w=>?_⟩
 have:¬ (((x.size+y.size:Nat):Int) > IntKind.i64.max):=by
  have:IntKind.i64.max=9223372036854775807:=by decide
  rw [this]; omega
 show (Op.stringOp .add x y).run P w=_
 unfold Op.stringOp
 dsimp only
 rw [if_neg this]
 rfl
theorem r4 {t:TypeId} {x y:Value} {b:Bool} (hs:∀ q a,x≠.int q a) (an:∀ s,x≠.string s) (hf:∀ q a,x≠.float q a) (hc:∀ q a b,x≠.complex q a b) (hp:∀ a,x≠.pointer a)
  (h:(Op.equal t x y).run P w=.ok b w):(binOp .eql t x y).run P w=.ok (.bool b) w∧(binOp .neq t x y).run P w=.ok (.bool !b) w:=by
 have e1:binOp .eql t x y=(do pure (.bool (← Op.equal t x y)):Sem Value):=by
  cases x <;> first | exact absurd rfl (hs _ _) | exact absurd rfl (an _) | exact absurd rfl (hf _ _) | exact absurd rfl (hc _ _ _) | exact absurd rfl (hp _) | rfl
 have e2:binOp .neq t x y=(do pure (.bool (!(← Op.equal t x y))):Sem Value):=by
  cases x <;> first | exact absurd rfl (hs _ _) | exact absurd rfl (an _) | exact absurd rfl (hf _ _) | exact absurd rfl (hc _ _ _) | exact absurd rfl (hp _) | rfl
 rw [e1,e2];simp only [Sem.run_bind,h,Result.andThen_ok];exact ⟨rfl,rfl⟩
theorem run_equal_bool {t:TypeId} (hu:P.underlying t=some .bool) (b b':Bool) (w:World):(Op.equal t (.bool b) (.bool b')).run P w=.ok (b == b') w:=by
 show (Op.equalIn (9999+1) t (.bool b) (.bool b')).run P w=_
 rw [Op.equalIn];simp only [Sem.run_bind,dO hu,Result.andThen_ok]
 rfl
theorem Um {ti:TI} {op:BinOp} {t:TypeId} {x y:Bool} (hu:ti.kind=.bool→P.underlying t=some .bool) (h:FK ti.kind op x y k):∃ z,k z none∧cW z=true∧∀ w,(binOp op t (.bool x) (.bool y)).run P w=.ok z w:=by
 unfold FK at h
 split at h
 ·rename_i hk;exact ⟨_,h,rfl,fun w=>(r4 (by simp) (by simp) (by simp) (by simp) (by simp) (run_equal_bool (hu hk) x y w)).1⟩
 ·rename_i hk;exact ⟨_,h,rfl,fun w=>(r4 (by simp) (by simp) (by simp) (by simp) (by simp) (run_equal_bool (hu hk) x y w)).2⟩
 ·exact h.elim
theorem tJ:∀ {l m:List Value},fp l m=true→∀ v∈l,cW v=true
 | [],[],_=>fun v hv=>by simp at hv
 | .bool _::l,.bool _::m,h=>fun v hv=>by
  rcases List.mem_cons.1 hv with e | e
  ·rw [e]; rfl
  ·exact tJ (l:=l) (m:=m) h v e
 | .int q _::l,.int q' _::m,h=>fun v hv=>by
  rcases List.mem_cons.1 hv with e | e
  ·rw [e]; rfl
  ·exact tJ (l:=l) (m:=m) (by simp only [fp,Bool.and_eq_true] at h; exact h.2) v e
 | .string _::l,.string _::m,h=>fun v hv=>by
  rcases List.mem_cons.1 hv with e | e
  ·rw [e]; rfl
  ·exact tJ (l:=l) (m:=m) h v e
theorem bn.kl {ν:Nu}:∀ {l m:List Value},(∀ v∈l,cW v=true)→bn ν l m→m=l
 | [],m,_,h=>h.jb
 | v::l,m,hs,h=>by
  obtain ⟨y,ys,rfl,h1,J⟩:=h.jw;rw [h1.kl (hs v (by simp)),bn.kl (fun u hu=>hs u (by simp [hu])) J]
theorem Vv {eqs:List TypeId} {zero:List Value} {op:BinOp} {t:TypeId} {xs ys:List Value} (hE:∀ t∈eqs,∀ ti,tt t=some ti→xH P t ti.zero) {ti:TI} (ht:tt t=some ti) (h:Gj eqs t ti.zero op xs ys k) :
  ∃ z,k z none∧cW z=true∧(∀ v∈xs,cW v=true)∧(∀ v∈ys,cW v=true)∧∀ w,(binOp op t (.agg ⟨xs⟩) (.agg ⟨ys⟩)).run P w=.ok z w∧∀ x y,(eqGuard op t x y (.agg ⟨xs⟩) (.agg ⟨ys⟩)).run P w=.ok () w:=by
 unfold Gj at h
 split at h
 ·rename_i hb;simp only [Bool.and_eq_true] at hb;obtain ⟨⟨h1,J⟩,h3⟩:=hb;have hq:=hE t (by simpa using h1) ti ht
  exact ⟨_,h,rfl,tJ J,tJ h3,fun w=>⟨(r4 (by simp) (by simp) (by simp) (by simp) (by simp) (hq xs ys w J h3).1).1,fun x y=>(hq xs ys w J h3).2 x y _⟩⟩
 ·rename_i hb;simp only [Bool.and_eq_true] at hb;obtain ⟨⟨h1,J⟩,h3⟩:=hb;have hq:=hE t (by simpa using h1) ti ht
  exact ⟨_,h,rfl,tJ J,tJ h3,fun w=>⟨(r4 (by simp) (by simp) (by simp) (by simp) (by simp) (hq xs ys w J h3).1).2,fun x y=>(hq xs ys w J h3).2 x y _⟩⟩
 ·exact h.elim
theorem Sq (op:BinOp) (t:TypeId) (x y:Operand) (a b:Option Addr) (n c n' c':Nat) (w:World):(eqGuard op t x y (.slice a n c) (.slice b n' c')).run P w=.ok () w:=by cases op <;> rfl
theorem au.Un {ν:Nu} {a:Option Addr} {n c:Nat} {z:Value} (h:au ν (.slice a n c) z):∃ a' n' c',z=.slice a' n' c'∧a'.isNone=a.isNone:=by
 cases h with
 | iR=>exact ⟨none,0,0,rfl,rfl⟩
 | slice id row n c c' l h hc hn hr=>exact ⟨_,_,_,rfl,rfl⟩
 | void id row c a hc=>exact ⟨_,_,_,rfl,rfl⟩
 | mi id row m n c' l h hm hn hr=>exact ⟨_,_,_,rfl,rfl⟩
 | kZ id row a=>exact ⟨_,_,_,rfl,rfl⟩
theorem A0 {t e:TypeId} (hu:P.underlying t=some (.slice e)) (a:Option Addr) (n c:Nat) (w:World):(Op.equal t (.slice a n c) (.slice none 0 0)).run P w=.ok a.isNone w:=by
 show (Op.equalIn (9999+1) t (.slice a n c) (.slice none 0 0)).run P w=_
 rw [Op.equalIn];simp only [Sem.run_bind,dO hu,Result.andThen_ok];cases a <;> rfl
theorem Vw {ti:TI} {op:BinOp} {t:TypeId} {a:Option Addr} (hu:∀ e,ti.kind=.slice e→P.underlying t=some (.slice e)) (h:Gk ti.kind op a k) :
  ∃ z,k z none∧cW z=true∧∀ (a':Option Addr) (n c:Nat) w,a'.isNone=a.isNone→(binOp op t (.slice a' n c) (.slice none 0 0)).run P w=.ok z w:=by
 unfold Gk at h
 split at h
 ·rename_i e hk;refine ⟨_,h,rfl,fun a' n c w ha=>?_⟩
  rw [(r4 (by simp) (by simp) (by simp) (by simp) (by simp) (A0 (hu _ hk) a' n c w)).1,ha]; rfl
 ·rename_i e b hk;refine ⟨_,h,rfl,fun a' n c w ha=>?_⟩
  rw [(r4 (by simp) (by simp) (by simp) (by simp) (by simp) (A0 (hu _ hk) a' n c w)).1,ha]; rfl
 ·rename_i e hk;refine ⟨_,h,rfl,fun a' n c w ha=>?_⟩
  rw [(r4 (by simp) (by simp) (by simp) (by simp) (by simp) (A0 (hu _ hk) a' n c w)).2,ha]; rfl
 ·rename_i e b hk;refine ⟨_,h,rfl,fun a' n c w ha=>?_⟩
  rw [(r4 (by simp) (by simp) (by simp) (by simp) (by simp) (A0 (hu _ hk) a' n c w)).2,ha]; rfl
 ·exact h.elim
theorem Lb (hT:∀ t ti,tt t=some ti→aC P t ti) {eqs:List TypeId} (hE:∀ t∈eqs,∀ ti,tt t=some ti→xH P t ti.zero) {op:BinOp} {t ty:TypeId} {x y:Operand} (h:Dd tt eqs tmps op t x y k):∃ v,k v none∧∀ bz,qB P bz (.binOp op t x y ty) tmps v:=by
 obtain ⟨xv,J,hx⟩:=c9 h;clear h;obtain ⟨yv,h,hy⟩:=c9 J;clear J
 split at h
 ·obtain ⟨z,hk,hs,hr⟩:=Vt (P:=P) (t:=t) h;refine ⟨_,hk,fun bz=>⟨by simp,fun o ν a w hle ho ha=>⟨_,au.kj hs,?_⟩⟩⟩
  exact yS ho (hx ν a (ha x (by simp [Op.operands]))).gh (hy ν a (ha y (by simp [Op.operands]))).gh (Uk ..) (hr w)
 ·obtain ⟨z,hk,hs,hr⟩:=Vu (P:=P) (t:=t) h;refine ⟨_,hk,fun bz=>⟨by simp,fun o ν a w hle ho ha=>⟨_,au.kj hs,?_⟩⟩⟩
  exact yS ho (hx ν a (ha x (by simp [Op.operands]))).sA (hy ν a (ha y (by simp [Op.operands]))).sA (Ul ..) (hr w)
 ·obtain ⟨ti,ht,h⟩:=c5 h;obtain ⟨d,hu,hd⟩:=(hT _ _ ht).under;obtain ⟨z,hk,hs,hr⟩:=Um (P:=P) (t:=t) (fun hk=>by rw [hk] at hd; have hd:d=.bool:=hd; rw [hu,hd]) h
  refine ⟨_,hk,fun bz=>⟨by simp,fun o ν a w hle ho ha=>⟨_,au.kj hs,?_⟩⟩⟩
  exact yS ho (hx ν a (ha x (by simp [Op.operands]))).km (hy ν a (ha y (by simp [Op.operands]))).km (SY ..) (hr w)
 ·rename_i xs ys;obtain ⟨ti,ht,h⟩:=c5 h;obtain ⟨z,hk,hs,h1,J,hr⟩:=Vv (xs:=xs.toList) (ys:=ys.toList) (zero:=[]) hE ht h;refine ⟨_,hk,fun bz=>⟨by simp,fun o ν a w hle ho ha=>⟨_,au.kj hs,?_⟩⟩⟩
  obtain ⟨nP,xQ,mU⟩:=au.uy (xs:=xs.toList) (hx ν a (ha x (by simp [Op.operands])))
  obtain ⟨dy,pI,mV⟩:=au.uy (xs:=ys.toList) (hy ν a (ha y (by simp [Op.operands])))
  rw [bn.kl h1 mU] at xQ;rw [bn.kl J mV] at pI;exact yS ho xQ pI ((hr w).2 x y) (hr w).1
 ·rename_i b n c;obtain ⟨ti,ht,h⟩:=c5 h;obtain ⟨d,hu,hd⟩:=(hT _ _ ht).under;obtain ⟨z,hk,hs,hr⟩:=Vw (P:=P) (t:=t) (fun e hk=>by rw [hk] at hd; have hd:d=.slice e:=hd; rw [hu,hd]) h
  refine ⟨_,hk,fun bz=>⟨by simp,fun o ν a w hle ho ha=>⟨_,au.kj hs,?_⟩⟩⟩
  obtain ⟨a1,n1,c1,e1,h1⟩:=(hx ν a (ha x (by simp [Op.operands]))).Un
  have e2:a.eval y=.slice none 0 0:=by
   have J:=hy ν a (ha y (by simp [Op.operands]))
   generalize a.eval y=z at J;cases J
   rfl
  exact yS ho e1 e2 (Sq ..) (hr a1 n1 c1 w h1)
 ·exact h.elim
theorem ab9 (hT:∀ t ti,tt t=some ti→aC P t ti) {eqs:List TypeId} (hE:∀ t∈eqs,∀ ti,tt t=some ti→xH P t ti.zero) {op:BinOp} {t ty:TypeId} {x y:Operand} (h:Dd tt eqs tmps op t x y k):fj P (.binOp op t x y ty) tmps H aK k:=by
 obtain ⟨v,hk,hp⟩:=Lb hT hE (ty:=ty) h;exact .value (by simp) hk fun o ν a w ho ha hH=>(hp ν).2 o ν a w ν.le_refl ho ha
theorem ND {P:Program} {t:TypeId} {ty:TypeId} {d:TypeDesc} (hu:P.underlying t=some d) {x:Value} {m:Int} (w:World)
  (h:(∃ s,d=.string∧x=.string s∧m=s.size)∨(∃ e b n c,d=.slice e∧x=.slice b n c∧m=(n:Int))) :
  (Builtin.len_ #[t] ty #[x]).run P w=.ok (.int .i64 m) w:=by
 rcases h with ⟨s,rfl,rfl,rfl⟩ | ⟨e,b,n,c,rfl,rfl,rfl⟩ <;> simp [Builtin.len_,dO hu,goInt]
theorem Ou (hT:∀ t ti,tt t=some ti→aC P t ti) {c:Call} (hc:c.callee=.builtin .len) {t:TypeId} {x:Operand} (hx:c.args=#[x]) (ht:c.argTypes=#[t]) (h:HX tmps tt t x k):sS P (.call c) tmps H k:=by
 obtain ⟨xv,J,hv⟩:=c9 h;clear h;obtain ⟨ti,IS,h⟩:=c5 J;clear J;obtain ⟨d,hu,hd⟩:=(hT _ _ IS).under
 split at h
 ·rename_i s hk;rw [hk] at hd;refine .value (by simp) h fun o ν a w ho ha hH=>⟨_,.int _ _,?_⟩
  have hv:=hv ν a (ha x (by simp [Op.operands,Call.operands,hc,hx]))
  have hr:=ND (P:=P) (ty:=o.type) hu w (.inl ⟨_,hd,hv.sA,rfl⟩);simp [execOp,ho,resolve,hc,hx,ht,invoke,builtin,hr]
 ·rename_i e b m c hk;rw [hk] at hd;refine .value (by simp) h fun o ν a w ho ha hH=>⟨_,.int _ _,?_⟩
  obtain ⟨b',c',he⟩:=(hv ν a (ha x (by simp [Op.operands,Call.operands,hc,hx]))).ab8
  have hr:=ND (P:=P) (ty:=o.type) hu w (.inr ⟨_,_,_,_,hd,he,rfl⟩);simp [execOp,ho,resolve,hc,hx,ht,invoke,builtin,hr]
 ·exact h.elim
theorem aca (hT:∀ t ti,tt t=some ti→aC P t ti) {c:Call} (hc:c.callee=.builtin .len) {t:TypeId} {x:Operand} (hx:c.args=#[x]) (ht:c.argTypes=#[t]) (h:HX tmps tt t x k):fj P (.call c) tmps H aK k:=(Ou hT hc hx ht h).ok
theorem acb {c:Call} (hc:c.callee=.builtin .max) {x y:Operand} (hx:c.args=#[x,y]) (h:Pz tmps x y k):fj P (.call c) tmps H aK k:=by
 obtain ⟨xv,J,h1⟩:=c9 h;clear h;obtain ⟨yv,h,J⟩:=c9 J
 split at h
 ·refine .value (by simp) h fun o ν a w ho ha hH=>⟨_,.int _ _,?_⟩
  have h1:=(h1 ν a (ha x (by simp [Op.operands,Call.operands,hc,hx]))).gh
  have J:=(J ν a (ha y (by simp [Op.operands,Call.operands,hc,hx]))).gh
  simp [execOp,ho,resolve,hc,hx,invoke,builtin,Builtin.max_,h1,J,Builtin.max2]
 ·exact h.elim
theorem acd {c:Call} (hc:c.callee=.builtin .min) {x y:Operand} (hx:c.args=#[x,y]) (h:PA tmps x y k):fj P (.call c) tmps H aK k:=by
 obtain ⟨xv,J,h1⟩:=c9 h;clear h;obtain ⟨yv,h,J⟩:=c9 J
 split at h
 ·refine .value (by simp) h fun o ν a w ho ha hH=>⟨_,.int _ _,?_⟩
  have h1:=(h1 ν a (ha x (by simp [Op.operands,Call.operands,hc,hx]))).gh
  have J:=(J ν a (ha y (by simp [Op.operands,Call.operands,hc,hx]))).gh
  simp [execOp,ho,resolve,hc,hx,invoke,builtin,Builtin.min_,h1,J,Builtin.min2]
 ·exact h.elim
theorem Fe {fs:List (Nat × Nat × Bool)}
  {Ct:Nat→Option (Nat × Nat)} (hp:∀ (i:Nat) x,fs[i]?=some x→Ct i=some (x.1,x.2.1)) :
  ∀ {ps:List (Nat × Operand)} {cs:List Value} {k:List Value→Prop},CP tmps fs ps cs k →
  ∃ ds,k ds∧∀ (ν:Nu) (a:Act),(∀ p∈ps,fC ν tmps a p.2)→∀ (fe:List Value),bn ν cs fe→∃ tb,bn ν ds tb∧Instr.fill Ct ⟨fe⟩ (ps.map fun p=>(p.1,a.eval p.2))=some ⟨tb⟩
 | [],cs,k,h=>⟨cs,h,fun ν a _ fe hc=>⟨fe,hc,rfl⟩⟩
 | p::ps,cs,k,h=>by
  obtain ⟨v,J,hv⟩:=c9 h;clear h;have h:=A9 J;clear J;obtain ⟨x,hx,J⟩:=Ba h;clear h
  split at J
  ·rename_i a9;obtain ⟨hl,h1⟩:=yd a9;obtain ⟨cs2,h3,jo,hle,pJ,xI⟩:=yx J;obtain ⟨ds,k1,k0⟩:=Fe hp h3;refine ⟨ds,k1,fun ν a ha fe hc=>?_⟩
   have vv:=(hv ν a (ha p (by simp))).cells
   -- the same cells written over in the real struct
   have Hv:∀ (us:List Value) (o:Nat) (acc:List Value) (m:Nat),((us.zipIdx m).foldl (fun cs (c,j)=>cs.setIfInBounds (o+j) c) (⟨acc⟩:Array Value)).size=acc.length ∧
     ∀ j,((us.zipIdx m).foldl (fun cs (c,j)=>cs.setIfInBounds (o+j) c) (⟨acc⟩:Array Value))[j]?=if j < acc.length∧o+m≤j∧j < o+m+us.length then us[j - (o+m)]? else acc[j]?:=by
    intro us
    induction us with
    | nil =>
     intro o acc m;refine ⟨by simp,fun j=>?_⟩
     simp
     intros
     omega
    | cons u us ih =>
     intro o acc m;simp only [List.zipIdx_cons,List.foldl_cons];have e:(⟨acc⟩:Array Value).setIfInBounds (o+m) u=⟨acc.set (o+m) u⟩:=by apply Array.ext'; simp
     rw [e];obtain ⟨i1,i2⟩:=ih o (acc.set (o+m) u) (m+1);refine ⟨by rw [i1]; simp,fun j=>?_⟩
     rw [i2 j];simp only [List.length_set,List.length_cons];by_cases hj:j < acc.length
     ·by_cases h1:o+(m+1)≤j∧j < o+(m+1)+us.length
      ·rw [if_pos ⟨hj,h1⟩,if_pos ⟨hj,by omega,by omega⟩]
       rw [show j - (o+m)=(j - (o+(m+1)))+1 by omega]; simp
      ·rw [if_neg (by omega)]
       by_cases J:j=o+m
       ·subst J;rw [if_pos ⟨hj,by omega,by omega⟩]
        simp [List.getElem?_set,hj]
       ·rw [if_neg (by omega),List.getElem?_set_ne (by omega)]
     ·rw [if_neg (by omega),if_neg (by omega)]
      rw [List.getElem?_eq_none (by simp; omega),List.getElem?_eq_none (by omega)]
   obtain ⟨f1,f2⟩:=Hv (a.eval p.2).cells.toList x.1 fe 0;generalize HZ:(((a.eval p.2).cells.toList.zipIdx 0).foldl (fun cs (c,j)=>cs.setIfInBounds (x.1+j) c) (⟨fe⟩:Array Value))=G at f1 f2
   have H0:bn ν cs2 G.toList:=by
    refine ⟨by rw [jo,hc.1]; simpa using f1.symm,fun j y z hy hz=>?_⟩
    rw [Array.getElem?_toList,f2 j] at hz
    split at hz
    ·rename_i hj;have ak:j - (x.1+0) < v.cells.toList.length:=by rw [vv.1]; omega
     have:=pJ (j - (x.1+0)) _ (List.getElem?_eq_getElem ak);rw [show x.1+(j - (x.1+0))=j by omega] at this
     rw [this] at hy; cases hy;exact vv.2 _ _ _ (List.getElem?_eq_getElem ak) hz
    ·rename_i hj;have ace:=xI j (by
      have IT:j < fe.length:=(List.getElem?_eq_some_iff.1 hz).1;have:=vv.1;omega)
     rw [ace] at hy;exact hc.2 _ _ _ hy hz
   obtain ⟨tb,k2,k3⟩:=k0 ν a (fun q hq=>ha q (by simp [hq])) _ H0
   refine ⟨tb,k2,?_⟩;have uK:(a.eval p.2).cells.size=x.2.1:=by rw [← Array.length_toList,← vv.1,hl]
   simp only [List.map_cons,Instr.fill,hp p.1 x hx];rw [if_neg]
   ·have:(((a.eval p.2).cells.zipIdx).foldl (fun cs (c,j)=>cs.setIfInBounds (x.1+j) c) (⟨fe⟩:Array Value))=⟨G.toList⟩:=by
     rw [← HZ,← Array.foldl_toList];simp
    rw [this];exact k3
   ·have:((⟨fe⟩:Array Value).size)=cs.length:=by simp [hc.1]
    simp only [uK,this];simp;omega
  ·exact J.elim
theorem L8 {sz:Nat}:∀ {n off i:Nat} {x:Nat × Nat × Bool},(xl sz off n)[i]?=some x→x.1=off+i*sz∧x.2.1=sz
 | 0,off,i,x,h=>by simp [xl] at h
 | n+1,off,0,x,h=>by simp [xl] at h; subst h; simp
 | n+1,off,i+1,x,h=>by
  obtain ⟨h1,J⟩:=L8 (n:=n) (off:=off+sz) (i:=i) (by simpa [xl] using h)
  exact ⟨by rw [h1,Nat.succ_mul]; omega,J⟩
theorem W8 (hT:∀ t ti,tt t=some ti→aC P t ti) {t:TypeId} {ps:Array (Nat × Operand)} (h:Oq tt tmps t ps.toList k):fj P (.build t ps) tmps H aK k:=by
 obtain ⟨ti,ht,J⟩:=c5 h;clear h;have a9:=hT _ _ ht;obtain ⟨d,hu,hd⟩:=a9.under;obtain ⟨i,hi,_,_,z,hz,iH⟩:=a9.info
 split at J
 ·rename_i fs hk;rw [hk] at hd;obtain ⟨fields,rfl,aY,hf⟩:=hd
  -- the places that the model reckons
  have adO:∀ (w:World) (l:List Field) (m:List (Nat × Nat × Bool)),l.length=m.length→(∀ (i:Nat) f x,l[i]?=some f→m[i]?=some x→yR P f x) →
    (l.mapM (m:=Sem) fun f=>do pure (f.offset,← sizeOf f.type)).run P w=.ok (m.map fun x=>(x.1,x.2.1)) w:=by
   intro w l
   induction l with
   | nil=>intro m hl _; cases m with
    | nil=>rfl
    | cons=>simp at hl
   | cons f l ih =>
    intro m hl hf;cases m with
    | nil=>simp at hl
    | cons x m =>
     obtain ⟨h1,J,⟨i,h3,h4⟩,_⟩:=hf 0 f x rfl rfl;have ih:=ih m (by simpa using hl) (fun i f' x' h h'=>hf (i+1) f' x' (by simpa using h) (by simpa using h'))
     simp only [List.mapM_cons,Sem.run_bind,gB h3,Result.andThen_ok,Sem.run_pure,ih,List.map_cons,h1,h4]
  obtain ⟨ds,k1,k0⟩:=Fe (Ct:=((fs.map fun x=>(x.1,x.2.1)).toArray[·]?)) (fun i x hx=>by simp [hx]) J
  refine .value (by simp) k1 fun o ν a w ho ha hH=>?_
  have hm:=adO w fields.toList fs (by simpa using aY) (fun i f x h h'=>hf i f x (by simpa using h) h')
  obtain ⟨tb,k2,k3⟩:=k0 ν a (fun p hp=>ha p.2 (by simp [Op.operands]; exact ⟨p.1,by simpa using hp⟩)) _ (a9.self ν)
  refine ⟨.agg ⟨tb⟩,.agg _ _ k2.1 k2.2,?_⟩;simp only [execOp,ho,Instr.build,Sem.run_bind,vV hi hz,Result.andThen_ok,dO hu,iH];have IU:(fields.mapM (m:=Sem) fun f=>do pure (f.offset,← sizeOf f.type)).run P w=.ok (fs.map fun x=>(x.1,x.2.1)).toArray w:=by
   rw [Array.mapM_eq_mapM_toList];simp only [Sem.run_map,hm,Result.andThen_ok]
  simp only [IU,Sem.run_bind,Result.andThen_ok];have e:(ps.map fun x=>(x.1,a.eval x.2)).toList=ps.toList.map fun p=>(p.1,a.eval p.2):=by simp
  have e2:(ps.map fun (x:Nat × Operand)=>match x with | (i,x)=>(i,a.eval x))=(ps.map fun x=>(x.1,a.eval x.2)):=rfl
  rw [e2,e,k3]
  rfl
 ·rename_i n e hk;rw [hk] at hd;have hd:d=.array n e:=hd;subst hd;obtain ⟨te,he,h⟩:=c5 J;obtain ⟨ei,fF,jq,_⟩:=(hT _ _ he).info;obtain ⟨ds,k1,k0⟩:=Fe (Ct:=fun i=>some (i*ei.size,ei.size)) (fun i x hx=>by
   obtain ⟨h1,J⟩:=L8 hx;rw [h1,J,jq,Nat.zero_add]) h
  refine .value (by simp) k1 fun o ν a w ho ha hH=>?_
  obtain ⟨tb,k2,k3⟩:=k0 ν a (fun p hp=>ha p.2 (by simp [Op.operands]; exact ⟨p.1,by simpa using hp⟩)) _ (a9.self ν)
  refine ⟨.agg ⟨tb⟩,.agg _ _ k2.1 k2.2,?_⟩;simp only [execOp,ho,Instr.build,Sem.run_bind,vV hi hz,Result.andThen_ok,dO hu,iH,gB fF];have e:(ps.map fun x=>(x.1,a.eval x.2)).toList=ps.toList.map fun p=>(p.1,a.eval p.2):=by simp
  have e2:(ps.map fun (x:Nat × Operand)=>match x with | (i,x)=>(i,a.eval x))=(ps.map fun x=>(x.1,a.eval x.2)):=rfl
  rw [e2,e,k3]
  rfl
 ·exact J.elim
end
open Go Go.RowKit
section
variable {P:Program} {tt:TT} {w:World} {ν:Nu} {aK:Nat} {k:QK} {tmps:List Value} {H:aA}
theorem Km (z:Array Value) (n j:Nat) (h:j < n) (hz:0 < z.size):(madeCells z n)[j]?=z[j % z.size]?:=by
 unfold madeCells;rw [Array.getElem?_map,Array.getElem?_range,if_pos h];simp only [Option.map_some];have:j % z.size < z.size:=Nat.mod_lt _ hz;rw [Array.getElem?_eq_getElem this];simp [this]
theorem Gl (r e j:Nat) (h:j < e):(r*e+j) % e=j:=by
 rw [Nat.add_comm,Nat.add_mul_mod_self_right,Nat.mod_eq_of_lt h]
theorem Sr (hT:∀ t ti,tt t=some ti→aC P t ti) {t:TypeId} {x y:Operand} (h:K8 tt tmps t x y aK k):fj P (.makeSlice t x y) tmps H aK k:=by
 obtain ⟨xv,J,hx⟩:=c9 h;clear h;obtain ⟨yv,h,hy⟩:=c9 J;clear J;obtain ⟨ti,ht,J⟩:=c5 h;clear h;obtain ⟨d,hu,hd⟩:=(hT _ _ ht).under
 split at J
 ·rename_i e hk;rw [hk] at hd;have hd:d=.slice e:=hd;subst hd;obtain ⟨te,he,h⟩:=c5 J;clear J;have a9:=hT _ _ he;obtain ⟨i,hi,gG,nQ,z,hz,iH⟩:=a9.info
  split at h
  ·rename_i q n q' m dp;obtain ⟨⟨b0,b1,b2⟩,h⟩:=h;refine ⟨_,_,h,fun o ν a w r nn ho ha hH hn next Q hN=>?_⟩
   have hx:=(hx ν a (ha x (by simp [Op.operands]))).gh
   have hy:=(hy ν a (ha y (by simp [Op.operands]))).gh
   have lZ:=a9.bit;have hm1:m≤m*te.bytes:=by
    have:m*1≤m*(te.bytes:Int):=Int.mul_le_mul_of_nonneg_left (by omega) (by omega)
    omega
   have bK:=run_make (P:=P) w t e i z hu hi hz q q' n m b0 b1 (by rw [nQ,Int.mul_comm]; omega) (by omega)
   refine jP (w':=w.alloc (.cells (madeCells z.cells (m.toNat*i.size)) e)) (v':=.slice (some ⟨w.heap.size,0,none⟩) n.toNat m.toNat) (by simp [ho]) (by simp [execOp,ho,hx,hy,bK]) next Q
    (hN _ _ (ν.add aK ⟨w.heap.size,0,te.size,m.toNat⟩) (nh hn ?_ (yp _ _) (Nat.le_refl _) ?_))
   ·have dM:(w.alloc (.cells (madeCells z.cells (m.toNat*i.size)) e)).heap[w.heap.size]?=some (.cells (madeCells z.cells (m.toNat*i.size)) e (0,0)):=by show (w.heap.push _)[w.heap.size]?=_; simp
    have jH:z.cells.size=te.size:=by rw [iH]; simpa using a9.len
    refine ⟨rfl,fun r hr=>a9.len,fun r hr j v hv=>⟨v,?_,au.kj (dQ dp v (List.mem_of_getElem? hv))⟩,fun _ r hr v hv=>dQ dp v hv,fun r hr v hv=>a9.one v hv,fun _ _=>⟨_,_,dM,?_,?_⟩,(fun r h=>nomatch h),?_⟩
    ·have hr:r < n.toNat:=hr;have hv:te.zero[j]?=some v:=hv;have hj:j < te.size:=by rw [← a9.len]; exact (List.getElem?_eq_some_iff.1 hv).1
     simp only [Loc.at,World.cell?,Nat.zero_add];rw [dM];have ak:r*te.size+j < m.toNat*i.size:=by
      rw [gG];have:(r+1)*te.size≤m.toNat*te.size:=Nat.mul_le_mul_right _ (by omega)
      rw [Nat.add_mul] at this; omega
     simp only [Option.isSome_none,Bool.false_eq_true,if_false];rw [Km _ _ _ ak (by omega),jH,Gl _ _ _ hj,iH]
     simpa using hv
    ·simp [size_madeCells,gG]
    ·simp only [ai.n]; omega
    ·show w.heap.size < (w.alloc _).heap.size
     simp
   ·have:=au.slice (ν:=ν.add aK ⟨w.heap.size,0,te.size,m.toNat⟩) aK 0 n.toNat m.toNat m.toNat _ Nu.add_same (.inl rfl) (by omega) (by simp)
    simpa [Loc.at] using this
  ·exact h.elim
 ·exact J.elim
theorem L9:∀ {n:Nat} {r:List Value} {k:List (List Value)→Prop},HY n r k→k (List.replicate n r)
 | 0,_,_,h=>h
 | n+1,r,k,h=>by have:=L9 (n:=n) h; simpa [List.replicate_succ] using this
theorem KO:∀ {rs:List (List Value)} {n:Nat} {r:List Value} {k:List (List Value)→Prop},setRow rs n r k→n < rs.length∧k (rs.set n r)
 | [],_,_,_,h=>h.elim
 | _::rs,0,_,_,h=>⟨by simp,h⟩
 | q::rs,n+1,r,k,h=>by obtain ⟨h1,J⟩:=KO (rs:=rs) h; exact ⟨by simpa using h1,by simpa using J⟩
def B8 (ν:Nu) (sz:Nat) (rows:List (List Value)) (C:Array Value):Prop :=
 C.size=rows.length*sz∧(∀ row∈rows,row.length=sz)∧∀ r j row v,rows[r]?=some row→row[j]?=some v→∃ v',C[r*sz+j]?=some v'∧au ν v v'
theorem KP {sz n:Nat}:∀ {ps:List (Nat × Operand)} {rows:List (List Value)} {k:List (List Value)→Prop},rowsOf tmps sz ps rows k→rows.length=n →
  ∃ jg,k jg∧jg.length=n∧((∀ row∈rows,∀ v∈row,v.oneCell'=true)→∀ row∈jg,∀ v∈row,v.oneCell'=true) ∧
   ∀ (ν:Nu) (a:Act),(∀ p∈ps,fC ν tmps a p.2)→∀ C,B8 ν sz rows C→∃ C',B8 ν sz jg C'∧Instr.fill (fun i=>some (i*sz,sz)) C (ps.map fun p=>(p.1,a.eval p.2))=some C'
 | [],rows,k,h,hl=>⟨rows,h,hl,fun h=>h,fun ν a _ C hC=>⟨C,hC,rfl⟩⟩
 | p::ps,rows,k,h,hl=>by
  obtain ⟨v,J,hv⟩:=c9 h;clear h;have h:=A9 J;clear J
  split at h
  ·rename_i a9;obtain ⟨hlen,qQ⟩:=yd a9;obtain ⟨ak,J⟩:=KO h;obtain ⟨jg,k1,k2,k3,k4⟩:=KP (n:=n) (ps:=ps) J (by rw [List.length_set]; exact hl)
   refine ⟨jg,k1,k2,fun h0=>k3 (fun row bd u hu=>?_),fun ν a ha C hC=>?_⟩
   ·rcases List.mem_or_eq_of_mem_set bd with h | h
    ·exact h0 row h u hu
    ·rw [h] at hu; exact qQ u hu
   ·obtain ⟨c1,c2,c3⟩:=hC;have vv:=(hv ν a (ha p (by simp))).cells
    have uK:(a.eval p.2).cells.size=sz:=by rw [← Array.length_toList,← vv.1,hlen]
    have Hv:∀ (us:List Value) (o:Nat) (acc:Array Value) (m:Nat),((us.zipIdx m).foldl (fun cs (c,j)=>cs.setIfInBounds (o+j) c) acc).size=acc.size ∧
      ∀ j,((us.zipIdx m).foldl (fun cs (c,j)=>cs.setIfInBounds (o+j) c) acc)[j]?=if j < acc.size∧o+m≤j∧j < o+m+us.length then us[j - (o+m)]? else acc[j]?:=by
     intro us
     induction us with
     | nil =>
      intro o acc m;refine ⟨by simp,fun j=>?_⟩
      simp
      intros
      omega
     | cons u us ih =>
      intro o acc m;simp only [List.zipIdx_cons,List.foldl_cons];obtain ⟨i1,i2⟩:=ih o (acc.setIfInBounds (o+m) u) (m+1);refine ⟨by rw [i1]; simp,fun j=>?_⟩
      rw [i2 j];simp only [Array.size_setIfInBounds,List.length_cons];by_cases hj:j < acc.size
      ·by_cases h1:o+(m+1)≤j∧j < o+(m+1)+us.length
       ·rw [if_pos ⟨hj,h1⟩,if_pos ⟨hj,by omega,by omega⟩]
        rw [show j - (o+m)=(j - (o+(m+1)))+1 by omega]; simp
       ·rw [if_neg (by omega)]
        by_cases J:j=o+m
        ·subst J;rw [if_pos ⟨hj,by omega,by omega⟩]
         simp [hj]
        ·rw [if_neg (by omega),Array.getElem?_setIfInBounds_ne (by omega)]
      ·rw [if_neg (by omega),if_neg (by omega)]
       rw [Array.getElem?_eq_none (by simp; omega),Array.getElem?_eq_none (by omega)]
    obtain ⟨f1,f2⟩:=Hv (a.eval p.2).cells.toList (p.1*sz) C 0;have fk:(a.eval p.2).cells.toList.length=sz:=by simpa using uK
    have hbound:(p.1+1)*sz≤rows.length*sz:=Nat.mul_le_mul_right _ ak;rw [Nat.add_mul] at hbound;have HZ:(((a.eval p.2).cells.toList.zipIdx 0).foldl (fun cs (c,j)=>cs.setIfInBounds (p.1*sz+j) c) C)=((a.eval p.2).cells.zipIdx.foldl (fun cs (c,j)=>cs.setIfInBounds (p.1*sz+j) c) C):=by
     rw [← Array.foldl_toList]; simp
    have H0:B8 ν sz (rows.set p.1 v.cells.toList) ((a.eval p.2).cells.zipIdx.foldl (fun cs (c,j)=>cs.setIfInBounds (p.1*sz+j) c) C):=by
     rw [← HZ];refine ⟨by rw [f1,c1,List.length_set],fun row bd=>?_,fun r j row u hr hj=>?_⟩
     ·rcases List.mem_or_eq_of_mem_set bd with h | h
      ·exact c2 row h
      ·rw [h]; exact hlen
     ·rw [f2];have aeT:j < sz:=by
       have gY:=List.mem_of_getElem? hr;have:row.length=sz:=by
        rcases List.mem_or_eq_of_mem_set gY with h | h
        ·exact c2 row h
        ·rw [h]; exact hlen
       rw [← this]; exact (List.getElem?_eq_some_iff.1 hj).1
      by_cases e:r=p.1
      ·subst e;rw [List.getElem?_set_self ak] at hr;cases hr;rw [if_pos ⟨by omega,by omega,by omega⟩]
       rw [show p.1*sz+j - (p.1*sz+0)=j by omega]
       exact vv.get hj
      ·rw [List.getElem?_set_ne (Ne.symm e)] at hr;have aN:¬ (p.1*sz+0≤r*sz+j∧r*sz+j < p.1*sz+0+(a.eval p.2).cells.toList.length):=by
        rw [fk];rcases Nat.lt_or_ge r p.1 with h | h
        ·have:(r+1)*sz≤p.1*sz:=Nat.mul_le_mul_right _ h;rw [Nat.add_mul] at this; omega
        ·have:(p.1+1)*sz≤r*sz:=Nat.mul_le_mul_right _ (by omega)
         rw [Nat.add_mul] at this; omega
       rw [if_neg (fun h=>aN h.2)]
       exact c3 r j row u hr hj
    obtain ⟨C',q1,q2⟩:=k4 ν a (fun q hq=>ha q (by simp [hq])) _ H0
    refine ⟨C',q1,?_⟩;simp only [List.map_cons,Instr.fill];rw [if_neg]
    ·exact q2
    ·simp only [uK];simp;omega
  ·exact h.elim
theorem Ss {ah:Nat} {rows:List (List Value)} {k:ai→Prop} (h:GX ah rows k):∃ b,k b∧∀ (ν:Nu) (l:Loc) (w:World),bS ν l (.aR true ah rows) w→bS ν l b w:=by
 unfold GX at h
 split at h
 ·refine ⟨_,h,fun ν l w hB=>⟨hB.ah,fun r hr=>absurd hr (Nat.not_lt_zero r),fun r hr=>absurd hr (Nat.not_lt_zero r),fun _ r hr=>absurd hr (Nat.not_lt_zero r),fun r hr=>absurd hr (Nat.not_lt_zero r),fun _ _=>?_,(fun r h=>nomatch h),hB.live⟩⟩
  obtain ⟨cur,t,h1,J,_⟩:=hB.own rfl rfl;exact ⟨cur,t,h1,J,Nat.zero_le _⟩
 ·exact ⟨_,h,fun ν l w hB=>hB⟩
theorem R1 (hT:∀ t ti,tt t=some ti→aC P t ti) {t:TypeId} {n:Nat} {ps:Array (Nat × Operand)} (h:KN tt tmps t n ps.toList aK k):fj P (.buildSlice t n ps) tmps H aK k:=by
 obtain ⟨ti,ht,J⟩:=c5 h;clear h;obtain ⟨d,hu,hd⟩:=(hT _ _ ht).under
 split at J
 ·rename_i e hk;rw [hk] at hd;have hd:d=.slice e:=hd;subst hd;obtain ⟨te,he,h⟩:=c5 J;clear J;have a9:=hT _ _ he;obtain ⟨i,hi,gG,nQ,z,hz,iH⟩:=a9.info
  split at h
  ·rename_i sT;have sT:=Nat.le_of_ble_eq_true sT;have h:=L9 h;obtain ⟨rows,k1,k2,k3,k4⟩:=KP (n:=n) h (by simp)
   obtain ⟨b,k1,kb⟩:=Ss k1;refine ⟨_,_,k1,fun o ν a w r nn ho ha hH hn next Q hN=>?_⟩
   have jH:z.cells.size=te.size:=by rw [iH]; simpa using a9.len
   -- the zero rows
   have z8:B8 ν te.size (List.replicate n te.zero) (madeCells z.cells (n*te.size)):=by
    refine ⟨by simp [size_madeCells],fun row bd=>by rw [(List.mem_replicate.1 bd).2]; exact a9.len,fun r j row v hr hj=>?_⟩
    have bd:=(List.mem_replicate.1 (List.mem_of_getElem? hr)).2;subst bd;have adP:r < n:=by have:=(List.getElem?_eq_some_iff.1 hr).1; simpa using this
    have gy:j < te.size:=by rw [← a9.len]; exact (List.getElem?_eq_some_iff.1 hj).1
    have ak:r*te.size+j < n*te.size:=by
     have:(r+1)*te.size≤n*te.size:=Nat.mul_le_mul_right _ adP;rw [Nat.add_mul] at this; omega
    obtain ⟨v',h1,J⟩:=(a9.self ν).get hj;rw [hj] at h1; cases h1;exact ⟨v,by rw [Km _ _ _ ak (by have:=a9.bit.1; omega),jH,Gl _ _ _ gy,iH]; simpa using hj,J⟩
   obtain ⟨C',q1,q2⟩:=k4 ν a (fun p hp=>ha p.2 (by simp [Op.operands]; exact ⟨p.1,by simpa using hp⟩)) _ z8
   have bK:(execOp a.eval o).run P w=.ok (.value (.slice (some ⟨w.heap.size,0,none⟩) n n)) { w with heap:=w.heap.push (.cells C' e) }:=by
    have e1:(ps.map fun (x:Nat × Operand)=>match x with | (i,x)=>(i,a.eval x))=(ps.map fun x=>(x.1,a.eval x.2)):=rfl
    have e2:(ps.map fun x=>(x.1,a.eval x.2)).toList=ps.toList.map fun p=>(p.1,a.eval p.2):=by simp
    have Qs:¬ (n*te.size > 2 ^ 24):=by omega
    have Dz:Instr.fill (fun i=>some (i*te.size,te.size)) ((Array.range (n*te.size)).map (z.cells[· % z.cells.size]!)) (ps.map fun x=>(x.1,a.eval x.2)).toList=some C':=by rw [e2]; exact q2
    simp only [execOp,ho,Instr.buildSlice,Sem.run_bind,dO hu,Result.andThen_ok,gB hi,gG,e1];rw [if_neg Qs];by_cases h0:n*te.size=0
    ·have e0:(Array.range (n*te.size)).map (z.cells[· % z.cells.size]!)=(Array.range (n*te.size)).map ((#[]:Array Value)[· % (#[]:Array Value).size]!):=by rw [h0]; simp
     rw [e0] at Dz;simp only [Sem.run_bind,Sem.run_ite,h0,if_true,Sem.run_pure,Result.andThen_ok,newRow,run_newObj];rw [h0] at Dz;simp only [Dz,Sem.run_bind,Sem.run_pure,Result.andThen_ok,newRow,run_newObj]
    ·simp only [Sem.run_bind,Sem.run_ite,h0,if_false,Sem.run_pure,vV hi hz,Result.andThen_ok];simp only [Dz,Sem.run_bind,Sem.run_pure,Result.andThen_ok,newRow,run_newObj]
   have dM:({ w with heap:=w.heap.push (.cells C' e) }:World).heap[w.heap.size]?=some (.cells C' e (0,0)):=by simp
   obtain ⟨c1,c2,c3⟩:=q1;refine jP (by simp [ho]) bK next Q (hN _ _ (ν.add aK ⟨w.heap.size,0,te.size,n⟩) (nh hn ?_ (yp _ _) (Nat.le_refl _) ?_))
   ·refine kb _ _ _ ⟨rfl,fun r hr=>?_,fun r hr j v hv=>?_,fun h=>by simp [ai.jd] at h,fun r hr v hv=>?_,fun _ _=>⟨_,_,dM,?_,?_⟩,(fun r h=>nomatch h),by simp⟩
    ·have hr:r < rows.length:=hr;simp only [ai.row,List.getD,List.getElem?_eq_getElem hr,Option.getD_some];exact c2 _ (List.getElem_mem _)
    ·have hr:r < rows.length:=hr;simp only [ai.row,List.getD,List.getElem?_eq_getElem hr,Option.getD_some] at hv;obtain ⟨v',h1,J⟩:=c3 r j _ v (List.getElem?_eq_getElem hr) hv;refine ⟨v',?_,J.mono (Nu.ko hn)⟩;simp only [Loc.at,World.cell?,Nat.zero_add];rw [dM]
     simpa using h1
    ·have hr:r < rows.length:=hr;simp only [ai.row,List.getD,List.getElem?_eq_getElem hr,Option.getD_some] at hv;exact k3 (fun row bd u hu=>by rw [(List.mem_replicate.1 bd).2] at hu; exact a9.one u hu) _ (List.getElem_mem _) v hv
    ·simp [c1,k2]
    ·simp [ai.n,k2]
   ·have:=au.slice (ν:=ν.add aK ⟨w.heap.size,0,te.size,n⟩) aK 0 n n n _ Nu.add_same (.inl rfl) (Nat.le_refl _) (by simp)
    simpa [Loc.at] using this
  ·exact h.elim
 ·exact J.elim
end
open Go Go.RowKit
section
variable {P:Program} {tt:TT} {w:World} {ν:Nu} {aK:Nat} {k:QK} {tmps:List Value} {H:aA}
theorem foldl_push (ns:List Int):∀ r:ByteArray,ns.foldl (fun r n=>r.push (UInt8.ofNat n.toNat)) r=⟨r.data++(ns.map fun n=>UInt8.ofNat n.toNat).toArray⟩:=by
 induction ns with
 | nil=>intro r; simp
 | cons n ns ih=>intro r; rw [List.foldl_cons,ih]; simp [ByteArray.push]
theorem SZ {a:Addr} {c:Nat} (w:World):(Conv.bytesToString (.slice (some a) 0 c)).run P w=.ok (.string ⟨#[]⟩) w:=by
 rw [run_bytesToString w a 0 c [] (by simpa using run_loadCells_list (P:=P) w a [] (fun j v h=>by simp at h))]
 rfl
theorem Uo (hT:∀ t ti,tt t=some ti→aC P t ti) {s d:TypeId} {x:Operand} (h:MQ tt tmps H s d x aK k):fj P (.convert s d x) tmps H aK k:=by
 obtain ⟨xv,J,hx⟩:=c9 h;clear h;obtain ⟨ts,hs,h⟩:=c5 J;clear J;obtain ⟨td,hd,J⟩:=c5 h;clear h;have h:=J;clear J;obtain ⟨ds,tc,fg⟩:=(hT _ _ hs).under;obtain ⟨dd,xR,dx⟩:=(hT _ _ hd).under
 split at h
 ·rename_i q q' m hk;rw [hk] at dx;have dx:dd=.int q:=dx;subst dx
  split at h
  ·rename_i qs jI;rw [jI] at fg;have fg:ds=.int qs:=fg;subst fg;refine .value (by simp) h fun o ν a w ho ha hH=>⟨_,.int _ _,?_⟩
   have hx:=(hx ν a (ha x (by simp [Op.operands]))).gh
   simp [execOp,ho,hx,convert,dO tc,dO xR,Conv.intToInt]
  ·exact h.elim
 ·rename_i s hk;rw [hk] at dx;have dx:dd=.string:=dx;subst dx
  split at h
  ·rename_i jI;rw [jI] at fg;have fg:ds=.string:=fg;subst fg;refine .value (by simp) h fun o ν a w ho ha hH=>⟨_,.str _,?_⟩
   have hx:=(hx ν a (ha x (by simp [Op.operands]))).sA
   simp [execOp,ho,hx,convert,dO tc,dO xR]
  ·exact h.elim
 ·rename_i id row n c hk;rw [hk] at dx;have dx:dd=.string:=dx;subst dx
  split at h
  ·rename_i e jI;rw [jI] at fg;have fg:ds=.slice e:=fg;subst fg;obtain ⟨te,he,J⟩:=c5 h;clear h;obtain ⟨de,xS,kE⟩:=(hT _ _ he).under
   split at J
   ·rename_i z9;rw [z9] at kE;have kE:de=.int .u8:=kE;subst kE;have OX:∀ (o:Oper) (ν:Nu) (a:Act) (w:World),o.op=.convert s d x→(∀ x'∈(Op.convert s d x).operands,fC ν tmps a x')→∃ ad c',a.eval x=.slice (some ad) n c'∧(0 < n→∃ l,ν id=some l∧ad=l.at row 0):=by
     intro o ν a w ho ha;rcases (hx ν a (ha x (by simp [Op.operands]))).tX with ⟨l,c',hl,hc,hn,hr,cK⟩ | ⟨hn,hc,bb,cK⟩
     ·exact ⟨_,_,cK,fun _=>⟨l,hl,rfl⟩⟩
     ·subst hn;exact ⟨_,_,cK,fun h=>absurd h (by omega)⟩
    split at J
    ·refine .value (by simp) J fun o ν a w ho ha hH=>⟨_,.str _,?_⟩
     obtain ⟨ad,c',cK,_⟩:=OX o ν a w ho ha;have:=run_convert_bytes_string (P:=P) w s d e (some ad) 0 c' tc xS xR;simp [execOp,ho,cK,this,SZ]
    ·rename_i m;obtain ⟨b,hb,h⟩:=gK J;clear J
     split at h
     ·rename_i H6;obtain ⟨⟨hle,OY⟩,h⟩:=h;refine .value (by simp) h fun o ν a w ho ha hH=>⟨_,.str _,?_⟩
      obtain ⟨ad,c',cK,hl⟩:=OX o ν a w ho ha;obtain ⟨l,ff,rfl⟩:=hl (by omega)
      clear hl;obtain ⟨l',cP,hB⟩:=hH.aJ id b hb;rw [ff] at cP; cases cP;have hc:=run_convert_bytes_string (P:=P) w s d e (some (l.at row 0)) (m+1) c' tc xS xR
      let ns:List Int:=(List.range (m+1)).map fun r=>match b.row (row+r) with | .int _ x::_=>x | _=>0
      have ZQ:(loadCells (l.at row 0) (m+1)).run P w=.ok (ns.map (Value.int .u8)).toArray w:=by
       have:=run_loadCells_list (P:=P) w (l.at row 0) (ns.map (Value.int .u8)) (fun j v hj=>by
        have gy:j < m+1:=by
         have:=(List.getElem?_eq_some_iff.1 hj).1
         simpa [ns] using this
        obtain ⟨y,hy⟩:=OY j gy;obtain ⟨v',h1,J⟩:=hB.cell (row+j) (by omega) 0 (.int .u8 y) (by rw [hy]; rfl)
        have J:=J.gh;subst J;have hv:v=.int .u8 y:=by
         simp only [ns,List.map_map,List.getElem?_map,List.getElem?_range gy,Option.map_some,Function.comp,hy] at hj;exact (Option.some.inj hj).symm
        rw [Loc.jS,hv,← h1];simp only [Loc.at,hB.ah,H6]
        congr 2
        omega)
       simpa [ns] using this
      have bK:=run_bytesToString (P:=P) w (l.at row 0) (m+1) c' ns ZQ;rw [foldl_push] at bK;have e:(⟨ByteArray.empty.data++(ns.map fun n=>UInt8.ofNat n.toNat).toArray⟩:ByteArray)=⟨⟨bytesOf b.row row (m+1)⟩⟩:=by
       have e0:ByteArray.empty.data=#[]:=rfl;rw [e0]
       congr 1
       simp only [Array.empty_append,bytesOf,ns,List.map_map]
       congr 1
       apply List.map_congr_left;intro r hr;obtain ⟨y,hy⟩:=OY r (List.mem_range.1 hr);simp [hy]
      rw [e] at bK;simp [execOp,ho,cK,hc,bK]
     ·exact h.elim
   ·exact J.elim
  ·exact h.elim
 ·rename_i hk;rw [hk] at dx;have dx:dd=.string:=dx;subst dx
  split at h
  ·rename_i e jI;rw [jI] at fg;have fg:ds=.slice e:=fg;subst fg;obtain ⟨te,he,J⟩:=c5 h;clear h;obtain ⟨de,xS,kE⟩:=(hT _ _ he).under
   split at J
   ·rename_i z9;rw [z9] at kE;have kE:de=.int .u8:=kE;subst kE;refine .value (by simp) J fun o ν a w ho ha hH=>⟨_,.str _,?_⟩
    have hx:=(hx ν a (ha x (by simp [Op.operands]))).p6
    have:=run_convert_bytes_string (P:=P) w s d e none 0 0 tc xS xR;simp [execOp,ho,hx,this,Conv.bytesToString]
    rfl
   ·exact J.elim
  ·exact h.elim
 ·rename_i e str hk;rw [hk] at dx;have dx:dd=.slice e:=dx;subst dx
  split at h
  ·rename_i jI;rw [jI] at fg;have fg:ds=.string:=fg;subst fg;obtain ⟨te,he,J⟩:=c5 h;clear h;obtain ⟨de,xS,kE⟩:=(hT _ _ he).under
   split at J
   ·rename_i z9;rw [z9] at kE;have kE:de=.int .u8:=kE;subst kE;refine ⟨_,_,J,fun o ν a w r nn ho ha hH hn next Q hN=>?_⟩
    have hx:=(hx ν a (ha x (by simp [Op.operands]))).sA
    have bK:=run_bytes_of_string (P:=P) w s d e str tc xR xS;have eY:=grownCap_ge w str.size 0 e;have hb:Below w.heap.size w (w.drew.alloc (.cells (bytesRow str (grownCap w str.size 0 e)) e ((bytesRow str (grownCap w str.size 0 e)).size,(bytesRow str (grownCap w str.size 0 e)).size+1))):=((Below.refl _ w).drew).alloc (Nat.le_refl _) _;have acf:(execOp a.eval o).run P w=.ok (.value (.slice (some ⟨w.heap.size,0,none⟩) str.size (grownCap w str.size 0 e))) (w.drew.alloc (.cells (bytesRow str (grownCap w str.size 0 e)) e ((bytesRow str (grownCap w str.size 0 e)).size,(bytesRow str (grownCap w str.size 0 e)).size+1))):=by
     simp [execOp,ho,hx,bK]
    refine jP (by simp [ho]) acf next Q
     (hN _ _ (ν.add aK ⟨w.heap.size,0,1,grownCap w str.size 0 e⟩) (nh hn ?_ hb (Nat.le_refl _) ?_))
    ·have dM:(w.drew.alloc (.cells (bytesRow str (grownCap w str.size 0 e)) e ((bytesRow str (grownCap w str.size 0 e)).size,(bytesRow str (grownCap w str.size 0 e)).size+1))).heap[w.heap.size]?=some (.cells (bytesRow str (grownCap w str.size 0 e)) e ((bytesRow str (grownCap w str.size 0 e)).size,(bytesRow str (grownCap w str.size 0 e)).size+1)):=by
      show (w.heap.push _)[w.heap.size]?=_; simp
     refine ⟨rfl,fun r hr=>rfl,fun r hr j v hv=>⟨v,?_,au.kj ?_⟩,fun _ r hr v hv=>?_,fun r hr v hv=>?_,fun h _=>by simp [ai.own] at h,(fun r h=>nomatch h),?_⟩
     ·have hr:r < str.size:=hr;have hv:[Value.int .u8 (cg str r)][j]?=some v:=hv;have hj:j=0:=by
       have:=(List.getElem?_eq_some_iff.1 hv).1
       simpa using this
      subst hj;simp only [Loc.at,World.cell?,Nat.zero_add];rw [dM];simp only [Option.isSome_none,Bool.false_eq_true,if_false];have ak:r < str.data.size:=hr;simp [bytesRow,cg] at hv ⊢;rw [Array.getElem?_append_left (by simpa using ak)]
      have hg:str.data[r]?=some (str.data[r]'ak):=Array.getElem?_eq_getElem ak;rw [hg] at hv;rw [Array.getElem?_map,hg,← hv]
      rfl
     ·have hv:[Value.int .u8 (cg str r)][j]?=some v:=hv;have:=List.mem_of_getElem? hv;simp at this;rw [this]; rfl
     ·have hv:v∈[Value.int .u8 (cg str r)]:=hv;simp at hv; rw [hv]; rfl
     ·have hv:v∈[Value.int .u8 (cg str r)]:=hv;simp at hv; rw [hv]; rfl
     ·show w.heap.size < (w.drew.alloc _).heap.size
      simp
    ·have:=au.slice (ν:=ν.add aK ⟨w.heap.size,0,1,grownCap w str.size 0 e⟩) aK 0 str.size ao (grownCap w str.size 0 e) _ Nu.add_same (.inr rfl) eY (by simp)
     simpa [Loc.at] using this
   ·exact J.elim
  ·exact h.elim
 ·exact h.elim
theorem acg (hT:∀ t ti,tt t=some ti→aC P t ti) {c:Call} (hc:c.callee=.builtin .cap) {t:TypeId} {x:Operand} (hx:c.args=#[x]) (ht:c.argTypes=#[t]) (h:PB tmps tt t x k):fj P (.call c) tmps H aK k:=by
 obtain ⟨xv,J,hv⟩:=c9 h;clear h;obtain ⟨ti,IS,h⟩:=c5 J;clear J;obtain ⟨d,hu,hd⟩:=(hT _ _ IS).under
 split at h
 ·rename_i e hk;rw [hk] at hd;have hd:d=.slice e:=hd;subst hd;refine .value (by simp) h fun o ν a w ho ha hH=>⟨_,.int _ _,?_⟩
  have he:=(hv ν a (ha x (by simp [Op.operands,Call.operands,hc,hx]))).p6
  simp [execOp,ho,resolve,hc,hx,ht,invoke,builtin,Builtin.cap_,run_underlying hu,he,goInt]
 ·exact h.elim
theorem wrap_small {m:Nat} (h:m≤140737488355328):IntKind.i64.wrap (m:Int)=(m:Int):=by
 have e:IntKind.i64.wrap (m:Int)=if (true && decide ((m:Int) % (2 ^ 64:Int) ≥ (2 ^ 63:Int)))=true then (m:Int) % (2 ^ 64:Int) - (2 ^ 64:Int) else (m:Int) % (2 ^ 64:Int):=rfl
 rw [e];simp only [Bool.true_and,decide_eq_true_eq]
 split <;> omega
theorem RL {t u ty e:TypeId} {q:IntKind} {i:TypeInfo} {z:Value} (ht:P.underlying t=some (.slice e)) (hu:P.underlying u=some (.int q)) (hi:P.info? e=some i) (hz:i.zero=some z)
  {n:Int} (h0:0 < n) (Qt:n*i.bytes≤140737488355328) (h63:n≤140737488355328) :
  (Builtin.append_ #[t,u] ty #[.slice none 0 0,.int .i64 n]).run P w =
   .ok (.slice (some ⟨w.heap.size,0,none⟩) n.toNat (grownCap w n.toNat 0 e))
    (w.drew.alloc (.cells ((if n.toNat*i.size=0 then #[] else Builtin.zeroCells z.cells n.toNat)++Builtin.zeroCells z.cells (grownCap w n.toNat 0 e - n.toNat)) e)):=by
 obtain ⟨m,rfl⟩:∃ m:Nat,n=m:=⟨n.toNat,by omega⟩
 have hw:IntKind.i64.wrap (m:Int)=(m:Int):=wrap_small (by omega)
 have hn:m≠0:=by omega
 have h1:¬ ((m:Int) < 0):=by omega
 have J:¬ (281474976710656 < (m:Int)*(i.bytes:Int)):=by omega
 have PC:¬ (9223372036854775807 < (m:Int)):=by omega
 have PD:¬ (281474976710656 < Builtin.nextslicecap m 0*i.bytes):=by
  rw [nextslicecap_zero (by omega)]
  have Qt:((m*i.bytes:Nat):Int)≤140737488355328:=by rw [Int.natCast_mul]; exact Qt
  omega
 by_cases hs:m*i.size=0
 ·simp [Builtin.append_,run_underlying ht,run_underlying hu,sizeOf,typeInfo,zeroValue,hi,hz,asInt,asIntOf,hw,h1,J,hn,PC,PD,Question.forced,newRow,grownCap,Builtin.firstCells,hs]
 ·simp [Builtin.append_,run_underlying ht,run_underlying hu,sizeOf,typeInfo,zeroValue,hi,hz,asInt,asIntOf,hw,h1,J,hn,PC,PD,Question.forced,newRow,grownCap,Builtin.firstCells,hs]
theorem Kn (z:Array Value) (n j:Nat) (h:j < n*z.size) (hz:0 < z.size):(Builtin.zeroCells z n)[j]?=z[j % z.size]?:=by
 unfold Builtin.zeroCells;rw [Array.getElem?_map,Array.getElem?_range,if_pos h];simp only [Option.map_some];have:j % z.size < z.size:=Nat.mod_lt _ hz;rw [Array.getElem?_eq_getElem this];simp [this]
theorem S0 (hT:∀ t ti,tt t=some ti→aC P t ti) {c:Call} (hc:c.callee=.builtin .append) {t u:TypeId} {x y:Operand} (hx:c.args=#[x,y]) (Aa:c.argTypes=#[t,u]) (h:L6 tt tmps t u x y aK k):fj P (.call c) tmps H aK k:=by
 obtain ⟨xv,J,vw⟩:=c9 h;clear h;obtain ⟨yv,h,vx⟩:=c9 J;clear J;obtain ⟨ti,ht,J⟩:=c5 h;clear h;obtain ⟨d,hu,hd⟩:=(hT _ _ ht).under
 split at J
 ·rename_i e hk;rw [hk] at hd;have hd:d=.slice e:=hd;subst hd;obtain ⟨te,he,h⟩:=c5 J;clear J;obtain ⟨tu,htu,J⟩:=c5 h;clear h;obtain ⟨du,huu,DA⟩:=(hT _ _ htu).under;have a9:=hT _ _ he;obtain ⟨i,hi,gG,nQ,z,hz,iH⟩:=a9.info
  split at J
  ·rename_i q n hku dp;rw [hku] at DA;have DA:du=.int q:=DA;subst DA;obtain ⟨⟨b0,b1⟩,h⟩:=J;refine ⟨_,_,h,fun o ν a w r nn ho ha hH hn next Q hN=>?_⟩
   have q9:=(vw ν a (ha x (by simp [Op.operands,Call.operands,hc,hx]))).p6
   have Ab:=(vx ν a (ha y (by simp [Op.operands,Call.operands,hc,hx]))).gh
   have lZ:=a9.bit.2;have Ac:n≤n*te.bytes:=by
    have:n*1≤n*(te.bytes:Int):=Int.mul_le_mul_of_nonneg_left (by omega) (by omega)
    omega
   have bK:=RL (P:=P) (w:=w) (ty:=o.type) hu huu hi hz b0 (by rw [nQ]; exact b1) (by omega)
   have eY:=grownCap_ge w n.toNat 0 e;have ou:∀ C:Array Value,Below w.heap.size w (w.drew.alloc (.cells C e)):=fun C=>((Below.refl _ w).drew).alloc (Nat.le_refl _) _
   have hpz:0 < te.size:=a9.bit.1;have jH:z.cells.size=te.size:=by rw [iH]; simpa using a9.len
   have hm:¬ (n.toNat*i.size=0):=by
    rw [gG];intro h0;rcases Nat.mul_eq_zero.1 h0 with h | h <;> omega
   rw [if_neg hm] at bK;generalize hC:Builtin.zeroCells z.cells n.toNat++Builtin.zeroCells z.cells (grownCap w n.toNat 0 e - n.toNat)=C at bK;refine jP (w':=w.drew.alloc (.cells C e)) (v':=.slice (some ⟨w.heap.size,0,none⟩) n.toNat (grownCap w n.toNat 0 e)) (by simp [ho]) (by simp [execOp,ho,resolve,hc,hx,Aa,invoke,builtin,q9,Ab,bK]) next Q
    (hN _ _ (ν.add aK ⟨w.heap.size,0,te.size,grownCap w n.toNat 0 e⟩) (nh hn ?_ (ou _) (Nat.le_refl _) ?_))
   ·have DC:C.size=grownCap w n.toNat 0 e*te.size:=by
     rw [← hC,Array.size_append];simp only [Builtin.zeroCells,Array.size_map,Array.size_range,jH];rw [← Nat.add_mul]
     congr 1
     omega
    have dM:(w.drew.alloc (.cells C e)).heap[w.heap.size]?=some (.cells C e (0,0)):=by show (w.heap.push _)[w.heap.size]?=_; simp
    refine ⟨rfl,fun r hr=>a9.len,fun r hr j v hv=>⟨v,?_,au.kj (dQ dp v (List.mem_of_getElem? hv))⟩,fun _ r hr v hv=>dQ dp v hv,fun r hr v hv=>a9.one v hv,fun _ _=>⟨_,_,dM,?_,?_⟩,(fun r h=>nomatch h),?_⟩
    ·have hr:r < n.toNat:=hr;have hv:te.zero[j]?=some v:=hv;have hj:j < te.size:=by rw [← a9.len]; exact (List.getElem?_eq_some_iff.1 hv).1
     simp only [Loc.at,World.cell?,Nat.zero_add];rw [dM];have ak:r*te.size+j < n.toNat*te.size:=by
      have:(r+1)*te.size≤n.toNat*te.size:=Nat.mul_le_mul_right _ (by omega)
      rw [Nat.add_mul] at this; omega
     simp only [Option.isSome_none,Bool.false_eq_true,if_false];rw [← hC,Array.getElem?_append_left (by simp only [Builtin.zeroCells,Array.size_map,Array.size_range,jH]; exact ak),Kn _ _ _ (by rw [jH]; exact ak) (by omega),jH,Gl _ _ _ hj,iH]
     simpa using hv
    ·rw [DC]; simp
    ·simp only [ai.n]; omega
    ·show w.heap.size < (w.drew.alloc _).heap.size
     simp
   ·have:=au.slice (ν:=ν.add aK ⟨w.heap.size,0,te.size,grownCap w n.toNat 0 e⟩) aK 0 n.toNat ao (grownCap w n.toNat 0 e) _ Nu.add_same (.inr rfl) eY (by simp)
    simpa [Loc.at] using this
  ·exact J.elim
 ·exact J.elim
end
open Go Go.RowKit
section
variable {P:Program} {tt:TT} {Φ:zl} {w:World} {ν:Nu} {aK:Nat} {k:QK} {tmps:List Value} {H:aA}
def Nu.comp (ν:Nu) (τ:List Nat):Nu:=fun j=>(τ[j]?).bind ν
theorem Ff {τ:List Nat} {m:Nat} {x:Value} {xs l:List Value} (h:mK τ m (x::xs)=some l):∃ y ys,l=y::ys∧dn τ m x=some y∧mK τ m xs=some ys:=by
 unfold mK at h;rw [List.foldr_cons] at h
 split at h
 ·rename_i y ys h1 J;exact ⟨y,ys,(Option.some.inj h).symm,h1,J⟩
 ·cases h
theorem FM {τ:List Nat} {m:Nat} {l:List Value} (h:mK τ m []=some l):l=[]:=by
 simp [mK] at h; exact h
theorem tY {τ:List Nat} {m:Nat} (h:∀ v v2 r,dn τ m v=some v2→au ν v2 r→au (ν.comp τ) v r):∀ {xs l rs:List Value},mK τ m xs=some l→bn ν l rs→bn (ν.comp τ) xs rs
 | [],l,rs,h1,J=>by rw [FM h1] at J; rw [J.jb]; exact .nil _
 | x::xs,l,rs,h1,J=>by
  obtain ⟨y,ys,rfl,e1,e2⟩:=Ff h1;obtain ⟨r,ck,rfl,k1,k2⟩:=J.jw;exact .cons (h _ _ _ e1 k1) (tY h e2 k2)
theorem yC {τ:List Nat} {m:Nat} (h:∀ v v2 r,dn τ m v=some v2→au (ν.comp τ) v r→au ν v2 r):∀ {xs l rs:List Value},mK τ m xs=some l→bn (ν.comp τ) xs rs→bn ν l rs
 | [],l,rs,h1,J=>by rw [FM h1]; rw [J.jb]; exact .nil _
 | x::xs,l,rs,h1,J=>by
  obtain ⟨y,ys,rfl,e1,e2⟩:=Ff h1;obtain ⟨r,ck,rfl,k1,k2⟩:=J.jw;exact .cons (h _ _ _ e1 k1) (yC h e2 k2)
theorem wz {τ:List Nat}:∀ (m:Nat) (v v2 r:Value),dn τ m v=some v2→au ν v2 r→au (ν.comp τ) v r:=by
 intro m
 induction m with
 | zero=>intro v v2 r h; simp [dn] at h
 | succ m ih =>
  intro v v2 r h hr;unfold dn at h
  split at h
  ·cases h; rw [hr.kl rfl]; exact .bool _
  ·cases h; rw [hr.kl rfl]; exact .int _ _
  ·cases h; rw [hr.kl rfl]; exact .str _
  ·cases h; cases hr; exact .mI
  ·split at h
   ·rename_i vt e;cases h;obtain ⟨l,h1,rfl⟩:=hr.o4;exact .ptr _ _ _ l (by simp [Nu.comp,e,h1])
   ·cases h
  ·cases h; cases hr; exact .iR
  ·split at h
   ·rename_i vt e;cases h;rcases hr.tX with ⟨l,c',h1,J,h3,h4,rfl⟩ | ⟨rfl,J,b,rfl⟩
    ·exact .slice _ _ _ _ _ l (by simp [Nu.comp,e,h1]) J h3 h4
    ·exact .void _ _ _ _ J
   ·cases h
  ·cases h; cases hr; exact .mJ
  ·split at h
   ·rename_i l l' e;cases h;obtain ⟨ys,rfl,hy⟩:=hr.uy;have:=tY ih e hy;exact .agg _ _ this.1 this.2
   ·cases h
  ·split at h
   ·rename_i l l' e;cases h;obtain ⟨ys,rfl,hy⟩:=hr.n6;have:=tY ih e hy;exact .tuple _ _ this.1 this.2
   ·cases h
  ·split at h
   ·rename_i l1 l2 l1' l2' e1 e2;cases h;obtain ⟨ys,dy,rfl,hy,Ab⟩:=hr.rZ;have t1:=tY ih e1 hy;have t2:=tY ih e2 Ab;exact .func _ _ _ _ _ t1.1 t1.2 t2.1 t2.2
   ·cases h
  ·cases h
theorem FN {τ:List Nat}:∀ (m:Nat) (v v2 r:Value),dn τ m v=some v2→au (ν.comp τ) v r→au ν v2 r:=by
 intro m
 induction m with
 | zero=>intro v v2 r h; simp [dn] at h
 | succ m ih =>
  intro v v2 r h hr;unfold dn at h
  split at h
  ·cases h; rw [hr.kl rfl]; exact .bool _
  ·cases h; rw [hr.kl rfl]; exact .int _ _
  ·cases h; rw [hr.kl rfl]; exact .str _
  ·cases h; cases hr; exact .mI
  ·split at h
   ·rename_i vt e;cases h;obtain ⟨l,h1,rfl⟩:=hr.o4;simp [Nu.comp,e] at h1;exact .ptr _ _ _ l h1
   ·cases h
  ·cases h; cases hr; exact .iR
  ·split at h
   ·rename_i vt e;cases h;rcases hr.tX with ⟨l,c',h1,J,h3,h4,rfl⟩ | ⟨rfl,J,b,rfl⟩
    ·simp [Nu.comp,e] at h1;exact .slice _ _ _ _ _ l h1 J h3 h4
    ·exact .void _ _ _ _ J
   ·cases h
  ·cases h; cases hr; exact .mJ
  ·split at h
   ·rename_i l l' e;cases h;obtain ⟨ys,rfl,hy⟩:=hr.uy;have:=yC ih e hy;exact .agg _ _ this.1 this.2
   ·cases h
  ·split at h
   ·rename_i l l' e;cases h;obtain ⟨ys,rfl,hy⟩:=hr.n6;have:=yC ih e hy;exact .tuple _ _ this.1 this.2
   ·cases h
  ·split at h
   ·rename_i l1 l2 l1' l2' e1 e2;cases h;obtain ⟨ys,dy,rfl,hy,Ab⟩:=hr.rZ;have t1:=yC ih e1 hy;have t2:=yC ih e2 Ab;exact .func _ _ _ _ _ t1.1 t1.2 t2.1 t2.2
   ·cases h
  ·cases h
structure Cu (b c:ai):Prop extends aq b c where
 rc:b.rc=none
theorem ES {k:Prop}:∀ {σ:List Nat} {bs:List ai},zn H σ bs k→σ.length=bs.length∧(∀ (j s:Nat) (b:ai),σ[j]?=some s→bs[j]?=some b→∃ c,H[s]?=some (some c)∧Cu b c)∧k
 | [],[],h=>⟨rfl,fun j s b h=>by simp at h,h⟩
 | s::σ,b::bs,h=>by
  have iu:b.rc=none∧gX H s fun c=>aq b c∧zn H σ bs k:=by
   cases b with
   | aR o e r=>exact ⟨rfl,h⟩
   | flat o n e g=>exact ⟨rfl,h⟩
   | cB r=>exact h.elim
  obtain ⟨iu,h⟩:=iu;obtain ⟨c,h1,J,h3⟩:=gK h;obtain ⟨e1,e2,e3⟩:=ES h3;refine ⟨by simp [e1],fun j s' b' hs hb=>?_,e3⟩
  cases j with
  | zero=>simp at hs hb; subst hs; subst hb; exact ⟨c,h1,J,iu⟩
  | succ j=>exact e2 j s' b' (by simpa using hs) (by simpa using hb)
 | [],_::_,h=>h.elim
 | _::_,[],h=>h.elim
theorem bS.FO {ν aj:Nu} {l:Loc} {b:ai} {w:World} (h:bS ν l b w) (hs:∀ r,r < b.n→∀ v∈b.row r,cW v=true):bS aj l b w :=
 ⟨h.ah,h.len,fun r hr j v hv=>by
  obtain ⟨v',h1,J⟩:=h.cell r hr j v hv;have Ad:=hs r hr v (List.mem_of_getElem? hv);rw [J.kl Ad] at h1;exact ⟨v,h1,au.kj Ad⟩,h.plain,h.one,h.own,h.lr,h.live⟩
theorem bS.le {ν aj:Nu} {l:Loc} {b c:ai} {w:World} (h:bS ν l c w) (hle:Cu b c):bS aj l b w:=by
 refine ⟨h.ah.trans hle.ah,fun r hr=>?_,fun r hr j v hv=>?_,fun _ r hr v hv=>hle.flat r hr v hv,fun r hr v hv=>?_,fun ho _=>?_,(fun r h=>by rw [hle.rc] at h; cases h),h.live⟩
 ·rw [hle.row r hr,h.len r (Nat.lt_of_lt_of_le hr hle.n),hle.ah]
 ·rw [hle.row r hr] at hv;obtain ⟨v',h1,J⟩:=h.cell r (Nat.lt_of_lt_of_le hr hle.n) j v hv;have Ad:=hle.flat r hr v (by rw [hle.row r hr]; exact List.mem_of_getElem? hv)
  rw [J.kl Ad] at h1;exact ⟨v,h1,au.kj Ad⟩
 ·rw [hle.row r hr] at hv;exact h.one r (Nat.lt_of_lt_of_le hr hle.n) v hv
 ·obtain ⟨h1,J⟩:=hle.own ho;obtain ⟨cur,t,q1,q2,q3⟩:=h.own (ai.dm h1).1 (ai.dm h1).2;exact ⟨cur,t,q1,q2,by omega⟩
theorem NF {σ:List Nat}:(ν.comp σ).le (ν.comp (σ++[aK])):=by
 intro j l h;unfold Nu.comp at h ⊢;cases e:σ[j]? with
 | none=>rw [e] at h; cases h
 | some s =>
  rw [List.getElem?_append_left (List.getElem?_eq_some_iff.1 e).1,e]
  rwa [e] at h
theorem KQ {k:Prop} {τ:List Nat}:∀ {σ:List Nat} {bs:List ai},Cp H τ σ bs k→σ.length=bs.length∧(∀ (j s:Nat) (b:ai),σ[j]?=some s→bs[j]?=some b→∃ c,H[s]?=some (some c)∧De τ b c∧b.rc=none)∧k
 | [],[],h=>⟨rfl,fun j s b h=>by simp at h,h⟩
 | s::σ,b::bs,h=>by
  have iu:b.rc=none∧gX H s fun c=>De τ b c∧Cp H τ σ bs k:=by
   cases b with
   | aR o e r=>exact ⟨rfl,h⟩
   | flat o n e g=>exact ⟨rfl,h⟩
   | cB r=>exact h.elim
  obtain ⟨iu,h⟩:=iu;obtain ⟨c,h1,J,h3⟩:=gK h;obtain ⟨e1,e2,e3⟩:=KQ h3;refine ⟨by simp [e1],fun j s' b' hs hb=>?_,e3⟩
  cases j with
  | zero=>simp at hs hb; subst hs; subst hb; exact ⟨c,h1,J,iu⟩
  | succ j=>exact e2 j s' b' (by simpa using hs) (by simpa using hb)
 | [],_::_,h=>h.elim
 | _::_,[],h=>h.elim
theorem MS {τ:List Nat} {m:Nat}:∀ {xs l:List Value},mK τ m xs=some l→xs.length=l.length∧∀ (j:Nat) v,xs[j]?=some v→∃ v2,l[j]?=some v2∧dn τ m v=some v2
 | [],l,h=>by rw [FM h]; exact ⟨rfl,fun j v h=>by simp at h⟩
 | x::xs,l,h=>by
  obtain ⟨y,ys,rfl,h1,J⟩:=Ff h;obtain ⟨h3,h4⟩:=MS J;refine ⟨by simp [h3],fun j v hj=>?_⟩
  cases j with
  | zero=>simp at hj; subst hj; exact ⟨y,rfl,h1⟩
  | succ j=>exact h4 j v (by simpa using hj)
theorem Vx {τ:List Nat} {m:Nat} {v v2:Value} (h:dn τ m v=some v2) (J:v2.oneCell'=true):v.oneCell'=true:=by
 cases m with
 | zero=>simp [dn] at h
 | succ m =>
  unfold dn at h
  split at h <;> first | rfl | (cases h; exact J) | (split at h <;> cases h <;> exact J) | (cases h)
theorem bS.ler {ν:Nu} {σ:List Nat} {l:Loc} {b c:ai} {w:World} (h:bS ν l c w) (hle:De σ b c) (IW:b.rc=none):bS (ν.comp σ) l b w:=by
 rcases hle with hle | ⟨o,e,r,r',rfl,rfl,hr⟩
 ·exact h.le ⟨hle,IW⟩
 ·obtain ⟨h1,J⟩:=MS hr;have one:∀ q,q < 1→q=0:=fun q hq=>by omega
  refine ⟨h.ah,fun q hq=>?_,fun q hq j v hv=>?_,(fun h=>nomatch h),fun q hq v hv=>?_,(fun h=>nomatch h),(fun r h=>nomatch h),h.live⟩
  ·obtain rfl:=one q hq;exact h1.trans (h.len 0 hq)
  ·obtain rfl:=one q hq;obtain ⟨v2,h3,h4⟩:=J j v hv;obtain ⟨v',h5,h6⟩:=h.cell 0 hq j v2 h3;exact ⟨v',h5,wz 3 _ _ _ h4 h6⟩
  ·obtain rfl:=one q hq;obtain ⟨j,hj⟩:=List.getElem?_of_mem (show v∈r from hv)
   obtain ⟨v2,h3,h4⟩:=J j v hj;exact Vx h4 (h.one 0 hq v2 (List.mem_of_getElem? h3))
theorem ZR {c:Call} {f:Operand} (hc:c.callee=.value f) (IX:∀ g S,Φ g=some S→Db P g S)
  (h:b9 tmps f fun fv=>match fv with
   | .func (.func g) x y=>qf tmps c.args.toList fun vs=>qP x.toList vs fun l=>qP l y.toList fun args=>Hu Φ g args H aK k
   | _=>False):fj P (.call c) tmps H aK k:=by
 obtain ⟨fv,J,hf⟩:=c9 h;clear h
 split at J
 ·rename_i g x y;obtain ⟨vs,h,fJ⟩:=Bm J;clear J;have J:=wg (wg h);clear h;have Ov:∀ (o:Oper) (ν:Nu) (a:Act),(∀ z∈(Op.call c).operands,fC ν tmps a z)→∃ ys dy,a.eval f=.func (.func g) ⟨ys⟩ ⟨dy⟩∧bn ν (x.toList++vs++y.toList) ((ys++c.args.toList.map a.eval)++dy):=by
   intro o ν a ha;have fJ:=fJ ν a (fun z hz=>ha z (by simp [Op.operands,Call.operands,hc]; exact .inr (by simpa using hz)))
   obtain ⟨ys,dy,j7,h1,J⟩:=(hf ν a (ha f (by simp [Op.operands,Call.operands,hc]))).rZ
   exact ⟨ys,dy,j7,(h1.append fJ).append J⟩
  have OZ:∀ (o:Oper) (a:Act) (w:World) (ys dy:List Value),(∀ args w,(callFunc g args).run P w=.ok (.enter g args) w)→o.op=.call c→a.eval f=.func (.func g) ⟨ys⟩ ⟨dy⟩ →
    (execOp a.eval o).run P w=.ok (.enter g ⟨(ys++c.args.toList.map a.eval)++dy⟩) w:=by
   intro o a w ys dy ov ho j7;simp only [execOp,ho,resolve,hc,j7,Deferred.ofValue,Sem.run_bind,Sem.run_pure,Result.andThen_ok,invoke,ov]
   congr 2
   apply Array.ext';simp
  have core:∀ (S:ax) (i:S.ι) (σ:List Nat) (v:Value),dj P g S→mK σ 3 (S.args i)=some (x.toList++vs++y.toList)→S.pre i→σ.length=(S.ae i).length →
    (∀ (ν:Nu) (w:World),bU ν H w→∀ id b,(S.ae i)[id]?=some b→∃ l,(ν.comp σ) id=some l∧bS (ν.comp σ) l b w)→dn (σ++[aK]) 3 (S.val i)=some v→k v (S.new i)→fj P (.call c) tmps H aK k:=by
   intro S i σ v hs oi hp hlen H8 hv h;refine ⟨_,_,h,fun o ν a w r n ho ha hH hn next Q hN=>⟨fun _ _=>trivial,?_⟩⟩
   obtain ⟨ys,dy,j7,od⟩:=Ov o ν a ha;have ZS:=tY (wz (ν:=ν) 3) oi od;rw [Oper.semAt_eq _ _ _ (by simp [ho]),OZ o a w ys dy hs.enters ho j7]
   refine ⟨fun h=>by simp [WF,Fence.wide] at h,?_⟩
   have kF:bU (ν.comp σ) ((S.ae i).map some) w:=by
    have ld:∀ (id:Nat) (b:ai),((S.ae i).map some)[id]?=some (some b)→(S.ae i)[id]?=some b:=by
     intro id b bu;rw [List.getElem?_map] at bu;cases e:(S.ae i)[id]? with
     | none=>rw [e] at bu; cases bu
     | some b'=>rw [e] at bu; simp at bu; rw [bu]
    refine ⟨fun id b bu=>H8 ν w hH id b (ld id b bu),fun p q bp bq lp lq IY _ _ ho=>?_⟩
    have:=hs.ro i bp (List.mem_of_getElem? (ld p bp IY));rw [this] at ho; cases ho
   have gz:∀ id,(S.ae i).length≤id→(ν.comp σ) id=none:=by
    intro id bu;simp [Nu.comp,List.getElem?_eq_none (show σ.length≤id by omega)]
   have zo:=hs.calls i hp (ν.comp σ) _ w (n - 1) ZS kF gz;have yZ:CallsIn (WF r) (n - 1) P g ⟨(ys++c.args.toList.map a.eval)++dy⟩ w fun e w'=>∃ v' aj,e=.returned v'∧nz (ν.comp σ) aj (S.ae i).length w w' (S.val i) v' (S.new i):=zo
   refine yZ.mono ?_
   rintro e w' ⟨v',eF,rfl,hq⟩
   cases dM:S.new i with
   | none =>
    have e1:=hq.z6 dM;refine hN _ _ ν ⟨ν.le_refl,fun _ _=>rfl,?_,hq.below,fun _=>rfl,(fun b hb=>by rw [dM] at hb; cases hb)⟩
    refine FN 3 _ _ _ hv (hq.val.mono ?_);rw [e1]; exact NF
   | some b =>
    obtain ⟨l,h1,J,h3⟩:=hq.il b dM;have hle:eF.le ((ν.add aK l).comp (σ++[aK])):=by
     intro j lj hj;by_cases e:j=(S.ae i).length
     ·subst e;rw [h1] at hj; cases hj;simp [Nu.comp,← hlen,Nu.add_same]
     ·rw [hq.only j e] at hj;have:=NF (aK:=aK) j lj hj;unfold Nu.comp at this ⊢;cases e2:(σ++[aK])[j]? with
      | none=>rw [e2] at this; cases this
      | some s =>
       rw [e2] at this;exact Nu.ko hn s lj this
    have tf:=hs.fl i b dM;refine hN _ _ (ν.add aK l) ⟨Nu.ko hn,fun id bu=>Nu.jc bu,FN 3 _ _ _ hv (hq.val.mono hle),hq.below,(fun h=>by rw [dM] at h; cases h),(fun b' bE=>?_)⟩
    rw [dM] at bE; cases bE;exact ⟨l,Nu.add_same,J.FO (J.plain tf),h3⟩
  unfold Hu at J
  split at J
  ·rename_i S hS;obtain ⟨i,hi,hp,h⟩:=J;have h:=vW h;have hs:bc P g S:=IX g _ hS;refine ⟨_,none,h,fun o ν a w r n ho ha hH hn next Q hN=>⟨fun _ _=>trivial,?_⟩⟩
   obtain ⟨ys,dy,j7,od⟩:=Ov o ν a ha;rw [← hi] at od;rw [Oper.semAt_eq _ _ _ (by simp [ho]),OZ o a w ys dy hs.enters ho j7]
   refine ⟨fun h=>by simp [WF,Fence.wide] at h,?_⟩
   have zo:=hs.calls i hp ν _ w (n - 1) od;have yZ:CallsIn (WF r) (n - 1) P g ⟨(ys++c.args.toList.map a.eval)++dy⟩ w fun e w'=>∃ v',e=.returned v'∧au ν (S.val i) v'∧Below w.heap.size w w':=zo
   refine yZ.mono ?_
   rintro e w' ⟨v',rfl,hv,hb⟩
   exact hN _ _ ν ⟨ν.le_refl,fun _ _=>rfl,hv,hb,fun _=>rfl,(fun b hb=>by cases hb)⟩
  ·rename_i S hS;obtain ⟨i,σ,oi,hp,h⟩:=J;obtain ⟨hlen,ou,v,hv,h⟩:=ES h;refine core S i σ v (IX g _ hS) oi hp hlen (fun ν w hH id b bu=>?_) hv (vW h)
   have ak:id < σ.length:=by rw [hlen]; exact (List.getElem?_eq_some_iff.1 bu).1
   obtain ⟨cb,h1,J⟩:=ou id _ b (List.getElem?_eq_getElem ak) bu;obtain ⟨l,h3,h4⟩:=hH.aJ _ _ h1;exact ⟨l,by simp [Nu.comp,List.getElem?_eq_getElem ak,h3],h4.le J⟩
  ·rename_i S hS;obtain ⟨i,σ,oi,hp,h⟩:=J;obtain ⟨hlen,ou,v,hv,h⟩:=KQ h;refine core S i σ v (IX g _ hS) oi hp hlen (fun ν w hH id b bu=>?_) hv (vW h)
   have ak:id < σ.length:=by rw [hlen]; exact (List.getElem?_eq_some_iff.1 bu).1
   obtain ⟨cb,h1,J,h5⟩:=ou id _ b (List.getElem?_eq_getElem ak) bu;obtain ⟨l,h3,h4⟩:=hH.aJ _ _ h1;exact ⟨l,by simp [Nu.comp,List.getElem?_eq_getElem ak,h3],h4.ler J h5⟩
  ·exact J.elim
 ·exact J.elim
structure Kept (O:Nat→Prop) (w w':World):Prop where
 os:w'.os=w.os
 tape:w'.tape=w.tape
 output:w'.output=w.output
 size:w.heap.size≤w'.heap.size
 aJ:∀ b,b < w.heap.size→¬ O b→w'.heap[b]?=w.heap[b]?
theorem Kept.refl {O:Nat→Prop} (w:World):Kept O w w:=⟨rfl,rfl,rfl,Nat.le_refl _,fun _ _ _=>rfl⟩
theorem Kept.below {O:Nat→Prop} {W w w':World} (h:Kept O W w) (hb:Below w.heap.size w w'):Kept O W w' :=
 ⟨hb.os.trans h.os,hb.tape.trans h.tape,hb.output.trans h.output,Nat.le_trans h.size hb.size,fun b h1 J=>(hb.block b (Nat.lt_of_lt_of_le h1 h.size)).trans (h.aJ b h1 J)⟩
theorem Kept.then {O O':Nat→Prop} {W w w':World} (h:Kept O W w) (h':Kept O' w w') (hO:∀ b,O' b→O b∨W.heap.size≤b):Kept O W w' :=
 ⟨h'.os.trans h.os,h'.tape.trans h.tape,h'.output.trans h.output,Nat.le_trans h.size h'.size,fun b h1 J =>
  (h'.aJ b (Nat.lt_of_lt_of_le h1 h.size) (fun h3=>(hO b h3).elim J (fun h4=>by omega))).trans (h.aJ b h1 J)⟩
structure gj (P:Program) (f:FuncId) (F:FT):Prop where
 enters:∀ args w,(callFunc f args).run P w=.ok (.enter f args) w
 calls:∀ (args:List Value) (H:aA) (K:Value→aA→Prop),F args H K→∀ (ν:Nu) (as:List Value) (w:World) (n:Nat) (O:Nat→Prop),bn ν args as→bU ν H w→(∀ id,H.length≤id→ν id=none) →
  (∀ id b l,H[id]?=some (some b)→b.own=true→ν id=some l→O l.aJ) →
  CallsIn Fence.wide n P f ⟨as⟩ w fun e w'=>∃ v v' aj H',e=.returned v'∧K v H'∧au aj v v'∧ν.le aj∧bU aj H' w'∧(∀ id,H'.length≤id→aj id=none)∧Kept O w w' ∧
   ∀ id b l,H'[id]?=some (some b)→b.own=true→aj id=some l→O l.aJ∨w.heap.size≤l.aJ
structure EnvOk (P:Program) (E:Env):Prop where
 ty:∀ t ti,E.tt t=some ti→aC P t ti
 eq:∀ t∈E.eqs,∀ ti,E.tt t=some ti→xH P t ti.zero
 fn:∀ g S,E.Φ g=some S→Db P g S
 ft:∀ g F,E.Ψ g=some F→gj P g F:=by intro g F h; cases h
def GZ (K:Value→aA→Prop) (ν:Nu) (O:Nat→Prop) (w:World) (e:Ending) (w':World):Prop :=
 ∃ v v' aj H',e=.returned v'∧K v H'∧au aj v v'∧ν.le aj∧bU aj H' w'∧(∀ id,H'.length≤id→aj id=none)∧Kept O w w' ∧
   ∀ id b l,H'[id]?=some (some b)→b.own=true→aj id=some l→O l.aJ∨w.heap.size≤l.aJ
def Qu (P:Program) (l:Nat) (G:FT) (bz:Nu):Prop :=
 ∀ (args:List Value) (H:aA) (K:Value→aA→Prop),G args H K→∀ (ν:Nu) (as:List Value) (w:World) (n:Nat) (O:Nat→Prop),bz.le ν→bn ν args as→bU ν H w→(∀ id,H.length≤id→ν id=none) →
  (∀ id b l,H[id]?=some (some b)→b.own=true→ν id=some l→O l.aJ)→YieldAt Fence.wide n P l ⟨as⟩ w (GZ K ν O w)
structure zM (P:Program) (f:FuncId) (I:Nat→FT→Nu→FT):Prop where
 enters:∀ args w,(callFunc f args).run P w=.ok (.enter f args) w
 calls:∀ l G bz,Qu P l G bz→∀ (args:List Value) (H:aA) (K:Value→aA→Prop),I l G bz args H K→∀ (ν:Nu) (as:List Value) (w:World) (n:Nat) (O:Nat→Prop),bz.le ν→bn ν args as→bU ν H w→(∀ id,H.length≤id→ν id=none) →
  (∀ id b l,H[id]?=some (some b)→b.own=true→ν id=some l→O l.aJ)→CallsIn Fence.wide n P f ⟨as⟩ w (GZ K ν O w)
def iD (P:Program) (E:Env):Prop:=∀ f I,E.It f=some I→zM P f I
theorem iD.none {P:Program} {E:Env} (h:E.It=fun _=>none):iD P E:=fun f I hI=>by rw [h] at hI; cases hI
structure j4 (P:Program) (E:Env):Prop extends EnvOk P E where
 IZ:iD P E
 ys:∀ l G r,E.ys=(l,G)::r→Qu P l G E.nu
theorem EnvOk.x {P:Program} {E:Env} (h:EnvOk P E) (hI:iD P E) (hy:E.ys=[]):j4 P E:=⟨h,hI,fun l G r e=>by rw [hy] at e; cases e⟩
def qC {α:Type _}:List (Nat × α)→Nat→Option α
 | [],_=>none
 | c::l,g=>match Nat.beq c.1 g with
  | true=>some c.2
  | false=>qC l g
def vd {α:Type _} (Q:Nat→α→Prop):List (Nat × α)→Prop
 | []=>True
 | c::l=>Q c.1 c.2∧vd Q l
theorem wA {α:Type _} {Q:Nat→α→Prop}:∀ {l:List (Nat × α)} {g:Nat} {S:α},vd Q l→qC l g=some S→Q g S
 | c::l,g,S,hq,h=>by
  unfold qC at h
  split at h
  ·rename_i e; cases h; rw [← Nat.eq_of_beq_eq_true e]; exact hq.1
  ·exact wA hq.2 h
theorem Bt {E:Env} (hE:EnvOk P E) {op:Op} (h:lB E op tmps H aK k):fj P op tmps H aK k:=by
 cases op
 case move=>exact ZN h
 case assign=>exact Vs h
 case pick=>exact ZO h
 case alloc=>exact W3 hE.ty h
 case box=>exact ab7 hE.ty h
 case build=>exact W8 hE.ty h
 case load=>exact ZP hE.ty h
 case fieldAddr=>exact So hE.ty h
 case field=>exact W4 hE.ty h
 case indexAddr=>exact Sp hE.ty h
 case index=>exact W7 hE.ty h
 case extract=>exact Ui h
 case makeFunc=>exact SW h
 case unOp=>exact adN h
 case binOp=>exact ab9 hE.ty hE.eq h
 case convert=>exact Uo hE.ty h
 case buildSlice=>exact R1 hE.ty h
 case makeSlice=>exact Sr hE.ty h
 case slice=>exact W6 hE.ty h
 case call c =>
  unfold lB at h
  dsimp only at h
  split at h
  ·rename_i f hc;exact ZR hc hE.fn h
  ·rename_i hc
   split at h
   ·rename_i x t hx ht;exact aca hE.ty hc (Array.ext' hx) (Array.ext' ht) h
   ·exact h.elim
  ·rename_i hc
   split at h
   ·rename_i x y hx;exact acb hc (Array.ext' hx) h
   ·exact h.elim
  ·rename_i hc
   split at h
   ·rename_i x t hx ht;exact acg hE.ty hc (Array.ext' hx) (Array.ext' ht) h
   ·exact h.elim
  ·rename_i hc
   split at h
   ·rename_i x y t u hx ht;exact S0 hE.ty hc (Array.ext' hx) (Array.ext' ht) h
   ·exact h.elim
  ·rename_i hc
   split at h
   ·rename_i x y hx;exact acd hc (Array.ext' hx) h
   ·exact h.elim
  ·exact h.elim
 all_goals exact h.elim
end
open Go Go.RowKit
abbrev SK:=List Value→aA→Prop
def Gm:List (List Value)→Nat→Nat→List Value→(List (List Value)→Prop)→Prop
 | [],_,_,_,_=>False
 | r::rs,0,c,vs,k=>u7 r c vs fun r'=>k (r'::rs)
 | r::rs,n+1,c,vs,k=>Gm rs n c vs fun ck=>k (r::ck)
theorem Ku:∀ {rs:List (List Value)} {n c:Nat} {vs:List Value} {k:List (List Value)→Prop},Gm rs n c vs k →
  ∃ r r',rs[n]?=some r∧(r'.length=r.length∧c+vs.length≤r.length∧(∀ (j:Nat) v,vs[j]?=some v→r'[c+j]?=some v)∧∀ (j:Nat),(j < c∨c+vs.length≤j)→r'[j]?=r[j]?)∧k (rs.set n r')
 | [],_,_,_,_,h=>h.elim
 | r::rs,0,c,vs,k,h=>by
  obtain ⟨l',h0,h1⟩:=yx h;exact ⟨r,l',rfl,h1,by simpa using h0⟩
 | r::rs,n+1,c,vs,k,h=>by
  obtain ⟨q,q',h1,J,h3⟩:=Ku (rs:=rs) h;exact ⟨q,q',by simpa using h1,J,by simpa using h3⟩
def jQ:List Value→Bool
 | []=>true
 | v::l=>cW v && jQ l
theorem ye:∀ {l:List Value},jQ l=true→∀ v∈l,cW v=true
 | [],_,v,hv=>by simp at hv
 | v::l,h,u,hu=>by
  simp only [jQ,Bool.and_eq_true] at h;rcases List.mem_cons.1 hu with e | e
  ·rw [e]; exact h.1
  ·exact ye h.2 u e
def MT (b:ai) (row cj:Nat) (cs:List Value) (k:ai→Prop):Prop :=
 match b with
 | .aR true ah rows=>Gm rows row cj cs fun jg=>k (.aR true ah jg)
 | .flat true n ah get=>row < n∧match jQ cs with
  | true=>u7 (get row) cj cs fun r'=>k (.flat true n ah fun j=>if j=row then r' else get j)
  | false=>False
 | _=>False
def Cv (E:Env) (tmps:List Value) (H:aA) (t:TypeId) (x y:Operand) (k:SK):Prop :=
 b9 tmps x fun av=>match av with
  | .pointer (some ⟨id,row,sp⟩)=>b9 tmps y fun v=>wY v fun cs=>cY E.tt t fun ti=>match p5 cs ti.size with
   | true=>gX H id fun b=>MT b row (sp.getD 0) cs fun b'=>jD H id (some b') fun H'=>k tmps H'
   | false=>False
  | _=>False
def dD (tmps:List Value) (d:Option Tmp) (v:Value) (k:List Value→Prop):Prop :=
 match d with
 | none=>k tmps
 | some d=>xF tmps d v k
def ve (H:aA) (nb:Option ai) (k:aA→Prop):Prop :=
 match nb with
 | none=>k H
 | some b=>pf H (some b) k
structure Fr where
 W:World
 O:Nat→Prop
 ν:Nu
 n0:Nat
 fresh:∀ id,n0≤id→ν id=none
structure lC (F:Fr) (E:Env):Prop where
 n0:F.n0≤E.base
 nu:E.nu.le F.ν
def Marks (n:Nat) (ds:List Deferred) (w:World):Prop :=
 ds.Nodup∧∀ d∈ds,∃ D,d={ target:=.collected D,args:=#[] }∧n≤D∧w.heap[D]?=some (.deferred (some []))
theorem Marks.nil (n:Nat) (w:World):Marks n [] w:=⟨.nil,fun d hd=>by cases hd⟩
theorem Bu {n:Nat} {ds:List Deferred} {w w':World} (h:Marks n ds w) (hk:∀ D:Nat,w.heap[D]?=some (Obj.deferred (some []))→w'.heap[D]?=some (Obj.deferred (some []))):Marks n ds w' :=
 ⟨h.1,fun d hd=>let ⟨D,h1,J,h3⟩:=h.2 d hd; ⟨D,h1,J,hk D h3⟩⟩
theorem Marks.below {n:Nat} {ds:List Deferred} {w w':World} (h:Marks n ds w) (hb:Below w.heap.size w w'):Marks n ds w' :=
 Bu h fun D hD=>(hb.block D (Array.getElem?_eq_some_iff.1 hD).1).trans hD
theorem Marks.fZ {n:Nat} {ds:List Deferred} {w w':World} (h:Marks n ds w) {b:Nat} {cur:Array Value} {t:TypeId} {z:Nat × Nat} (hb:w.heap[b]?=some (Obj.cells cur t z)) (hk:∀ q:Nat,q≠b→w'.heap[q]?=w.heap[q]?):Marks n ds w' :=
 Bu h fun D hD=>(hk D (fun e=>by rw [e,hb] at hD; cases hD)).trans hD
structure bD (F:Fr) (ν:Nu) (tmps:List Value) (H:aA) (a:Act) (w:World):Prop where
 tm:bn ν tmps a.tmps.toList
 df:Marks F.W.heap.size a.defers w
 hp:bU ν H w
 fr:∀ id,H.length≤id→ν id=none
 kp:Kept F.O F.W w
 own:∀ id b l,H[id]?=some (some b)→b.own=true→ν id=some l→F.O l.aJ∨F.W.heap.size≤l.aJ
 mono:F.ν.le ν
section
variable {P:Program} {E:Env} {r:Option Nat} {n:Nat} {F:Fr}
theorem bD.mE {ν:Nu} {tmps:List Value} {H:aA} {a:Act} {w:World} (h:bD F ν tmps H a w) (x:Operand):fC ν tmps a x:=by
 intro t ht v hv;obtain ⟨v',h1,J⟩:=h.tm.get hv;exact ⟨v',by simpa using h1,J⟩
theorem rS (a:Act) (d:Tmp) (v:Value):(a.put (some d) v).tmps.toList=a.tmps.toList.set d v:=by simp [Act.put]
theorem bD.dst {ν:Nu} {tmps:List Value} {H:aA} {a:Act} {w:World} (h:bD F ν tmps H a w) {d:Option Tmp} {v v':Value} (hv:au ν v v') {k:List Value→Prop} (hk:dD tmps d v k) :
  ∃ t',k t'∧bD F ν t' H (a.put d v') w:=by
 cases d with
 | none=>exact ⟨tmps,hk,h⟩
 | some d =>
  obtain ⟨h1,J⟩:=oT hk;exact ⟨_,J,⟨by rw [rS]; exact h.tm.set hv d,h.df,h.hp,h.fr,h.kp,h.own,h.mono⟩⟩
theorem bD.quiet {ν aj:Nu} {tmps:List Value} {H:aA} {a:Act} {w w':World} (h:bD F ν tmps H a w) {v v':Value} {nb:Option ai} (hq:nz ν aj H.length w w' v v' nb)
  {k:aA→Prop} (hk:ve H nb k):∃ H',k H'∧bD F aj tmps H' a w':=by
 have hb:=hq.below;cases nb with
 | none =>
  have:=hq.z6 rfl;subst this;exact ⟨H,hk,⟨h.tm,h.df.below hb,h.hp.below hb,h.fr,h.kp.below hb,h.own,h.mono⟩⟩
 | some b =>
  obtain ⟨l,hl,hB,hle⟩:=hq.il b rfl;refine ⟨_,yo hk,⟨h.tm.mono hq.le,h.df.below hb,?_,fun id bu=>?_,h.kp.below hb,fun id c lc hc ho dX=>?_,Nu.le_trans h.mono hq.le⟩⟩
  ·have k9:aj=ν.add H.length l:=by
    funext id
    by_cases e:id=H.length
    ·subst e; rw [hl,Nu.add_same]
    ·rw [hq.only id e,Nu.jc e]
   subst k9;refine h.hp.push hb (h.fr _ (Nat.le_refl _)) _ (fun j c hj=>?_) hle hB
   rw [List.getElem?_append] at hj
   split at hj
   ·rename_i ak; exact .inr ⟨by omega,hj⟩
   ·rename_i eY;have:j - H.length=0:=by
     have:=(List.getElem?_eq_some_iff.1 hj).1;simp at this; omega
    rw [this] at hj;simp at hj;exact .inl ⟨by omega,hj.symm⟩
  ·rw [List.length_append,List.length_singleton] at bu;rw [hq.only id (by omega)]
   exact h.fr id (by omega)
  ·rw [List.getElem?_append] at hc
   split at hc
   ·rename_i ak;have aN:id≠H.length:=by omega
    rw [hq.only id aN] at dX;exact h.own id c lc hc ho dX
   ·rename_i eY;have:id - H.length=0:=by
     have:=(List.getElem?_eq_some_iff.1 hc).1;simp at this; omega
    have:id=H.length:=by omega
    subst this;rw [hl] at dX; cases dX;exact .inr (Nat.le_trans h.kp.size hle)
structure xT (b b':ai) (row cj:Nat) (cs:List Value):Prop where
 own:b.oh=true
 PF:b'.oh=true
 n:b'.n=b.n
 ah:b'.ah=b.ah
 flat:b'.jd=b.jd
 lt:row < b.n
 len:(b'.row row).length=(b.row row).length
 fit:cj+cs.length≤(b.row row).length
 I0:∀ j v,cs[j]?=some v→(b'.row row)[cj+j]?=some v
 out:∀ j,(j < cj∨cj+cs.length≤j)→(b'.row row)[j]?=(b.row row)[j]?
 DD:∀ q,q≠row→b'.row q=b.row q
 pl:b.jd=true→∀ v∈cs,cW v=true
theorem RS {b:ai} {row cj:Nat} {cs:List Value} {k:ai→Prop} (h:MT b row cj cs k):∃ b',xT b b' row cj cs∧k b':=by
 cases b with
 | aR o ah rows =>
  cases o with
  | false=>exact h.elim
  | true =>
   obtain ⟨q,l',h1,⟨k1,k2,k3,k4⟩,h3⟩:=Ku h;have ak:row < rows.length:=(List.getElem?_eq_some_iff.1 h1).1;have e1:(ai.aR true ah (rows.set row l')).row row=l':=by simp [ai.row,List.getD,ak]
   have e2:(ai.aR true ah rows).row row=q:=by simp [ai.row,List.getD,h1]
   refine ⟨.aR true ah (rows.set row l'),⟨rfl,rfl,by simp [ai.n],rfl,rfl,ak,by rw [e1,e2]; exact k1,by rw [e2]; exact k2,by rw [e1]; exact k3,by rw [e1,e2]; exact k4,fun p hp=>?_,fun h=>by simp [ai.jd] at h⟩,h3⟩
   simp [ai.row,List.getD,List.getElem?_set,Ne.symm hp]
 | flat o n ah get =>
  cases o with
  | false=>exact h.elim
  | true =>
   obtain ⟨ak,h⟩:=h
   split at h
   ·rename_i hs;obtain ⟨l',h0,k1,k2,k3,k4⟩:=yx h;have e1:(ai.flat true n ah fun j=>if j=row then l' else get j).row row=l':=by simp [ai.row]
    exact ⟨.flat true n ah fun j=>if j=row then l' else get j,⟨rfl,rfl,rfl,rfl,rfl,ak,by rw [e1]; exact k1,k2,by rw [e1]; exact k3,by rw [e1]; exact k4,fun p hp=>by simp [ai.row,hp],fun _=>ye hs⟩,h0⟩
   ·exact h.elim
 | cB r=>exact h.elim
theorem xT.o {b b':ai} {row cj:Nat} {cs:List Value} (h:xT b b' row cj cs):b.own=true:=(ai.dm h.own).1
theorem xT.o' {b b':ai} {row cj:Nat} {cs:List Value} (h:xT b b' row cj cs):b'.own=true:=(ai.dm h.PF).1
theorem oO (b:Nat):∀ (vs:List Value) (o:Nat) (w:World),(w.setCells b o vs).heap.size=w.heap.size
 | [],_,_=>rfl
 | v::r,o,w=>by rw [World.setCells,oO b r]; simp [World.setCell]
theorem rK (b:Nat):∀ (vs:List Value) (o:Nat) (w:World) (k:Nat),k≠b→(w.setCells b o vs).heap[k]?=w.heap[k]?
 | [],_,_,_,_=>rfl
 | v::r,o,w,k,hk=>by rw [World.setCells,rK b r _ _ k hk]; exact Below.heap_setCell _ _ _ _ hk
theorem A1 (b:Nat):∀ (vs:List Value) (o:Nat) (w:World) (cur:Array Value) (t:TypeId),w.heap[b]?=some (.cells cur t (0,0)) →
  ∃ pA,(w.setCells b o vs).heap[b]?=some (.cells pA t (0,0))∧pA.size=cur.size
 | [],_,w,cur,t,h=>⟨cur,h,rfl⟩
 | v::r,o,w,cur,t,h=>by
  rw [World.setCells];have h1:(w.setCell ⟨b,o,none⟩ v).heap[b]?=some (.cells (cur.setIfInBounds o v) t (0,0)):=by
   simp [World.setCell,Array.getElem?_modify,h]
  obtain ⟨pA,J,h3⟩:=A1 b r (o+1) _ _ t h1;exact ⟨pA,J,by rw [h3]; simp⟩
theorem vX (b:Nat):∀ (vs:List Value) (o:Nat) (w:World),(w.setCells b o vs).os=w.os∧(w.setCells b o vs).tape=w.tape∧(w.setCells b o vs).output=w.output
 | [],_,_=>⟨rfl,rfl,rfl⟩
 | v::r,o,w=>by rw [World.setCells]; exact vX b r _ _
theorem bU.store {ν:Nu} {H:aA} {w:World} (h:bU ν H w) {id:Nat} {b b':ai} {l:Loc} (hb:H[id]?=some (some b)) (hl:ν id=some l) {row cj:Nat} {cs fe:List Value}
  (hu:xT b b' row cj cs) (hr:bn ν cs fe) (h1:∀ v∈cs,v.oneCell'=true) :
  bU ν (H.set id (some b')) (w.setCells l.aJ (l.base+row*l.ah+cj) fe):=by
 obtain ⟨l',cP,hB⟩:=h.aJ id b hb;rw [hl] at cP; cases cP;have bu:id < H.length:=(List.getElem?_eq_some_iff.1 hb).1;have ld:∀ j c,(H.set id (some b'))[j]?=some (some c)→(j=id∧c=b')∨(j≠id∧H[j]?=some (some c)):=by
  intro j c hj;by_cases e:j=id
  ·subst e; rw [List.getElem?_set_self bu] at hj; cases hj; exact .inl ⟨rfl,rfl⟩
  ·rw [List.getElem?_set_ne (Ne.symm e)] at hj; exact .inr ⟨e,hj⟩
 have H6:=hB.ah;have hlen:=hB.len row hu.lt;obtain ⟨cur,t,j5,fG,O0⟩:=hB.own hu.o (ai.dm hu.own).2;have fk:fe.length=cs.length:=hr.1.symm
 -- the cells of other places
 have xI:∀ r j,r < b.n→j < b.ah→(r≠row∨j < cj∨cj+cs.length≤j)→(w.setCells l.aJ (l.base+row*l.ah+cj) fe).cell? (l.at r j)=w.cell? (l.at r j):=by
  intro r j iV hj aN;refine World.cell?_setCells_out l.aJ _ _ _ _ (fun _ _=>?_)
  have xJ:=hu.fit;rw [hlen] at xJ;simp only [Loc.at,H6,fk];rcases Nat.lt_trichotomy r row with h | h | h
  ·left
   have:(r+1)*b.ah≤row*b.ah:=Nat.mul_le_mul_right _ h;rw [Nat.add_mul] at this;omega
  ·subst h;rcases aN with aN | aN | aN
   ·exact absurd rfl aN
   ·left; omega
   ·right; omega
  ·right
   have:(row+1)*b.ah≤r*b.ah:=Nat.mul_le_mul_right _ h;rw [Nat.add_mul] at this;omega
 have pJ:∀ j v,fe[j]?=some v→(w.setCells l.aJ (l.base+row*l.ah+cj) fe).cell? (l.at row (cj+j))=some v:=by
  intro j v hv;have hj:j < fe.length:=(List.getElem?_eq_some_iff.1 hv).1;have xJ:=hu.fit;have:=World.cell?_setCells_in l.aJ fe (l.base+row*l.ah+cj) w (fun m hm=>by
   have IU:cj+m < (b.row row).length:=by omega
   obtain ⟨u,rf,_⟩:=hB.cell row hu.lt (cj+m) _ (List.getElem?_eq_getElem IU);simp only [Loc.at] at rf;rw [show l.base+row*l.ah+cj+m=l.base+row*l.ah+(cj+m) by omega,rf]; rfl) j hj
  simp only [Loc.at];rw [show l.base+row*l.ah+(cj+j)=l.base+row*l.ah+cj+j by omega,this]
  rw [← hv];simp
 refine ⟨fun j c hj=>?_,fun i j bi bj li lj hi hj aN ho e1 e2=>?_⟩
 ·rcases ld j c hj with ⟨rfl,rfl⟩ | ⟨aN,gy⟩
  ·refine ⟨l,hl,⟨by rw [hu.ah]; exact hB.ah,fun q hq=>?_,fun q hq j v hv=>?_,fun hf q hq v hv=>?_,fun q hq v hv=>?_,fun _ _=>?_,(fun r h=>by rw [(ai.dm hu.PF).2] at h; cases h),?_⟩⟩
   ·rw [hu.n] at hq;by_cases e:q=row
    ·subst e; rw [hu.len,hu.ah]; exact hlen
    ·rw [hu.DD q e,hu.ah]; exact hB.len q hq
   ·rw [hu.n] at hq;by_cases e:q=row
    ·subst e;by_cases hj:cj≤j∧j < cj+cs.length
     ·have DE:j - cj < cs.length:=by omega
      have:=hu.I0 (j - cj) _ (List.getElem?_eq_getElem DE);rw [show cj+(j - cj)=j by omega,hv] at this
      cases this;obtain ⟨v',J,h3⟩:=hr.get (List.getElem?_eq_getElem DE);have:=pJ (j - cj) v' J;rw [show cj+(j - cj)=j by omega] at this
      exact ⟨v',this,h3⟩
     ·have vy:=hu.out j (by omega)
      rw [vy] at hv;obtain ⟨v',J,h3⟩:=hB.cell q hq j v hv;have gy:j < b.ah:=by rw [← hlen]; exact (List.getElem?_eq_some_iff.1 hv).1
      exact ⟨v',by rw [xI q j hq gy (.inr (by omega))]; exact J,h3⟩
    ·rw [hu.DD q e] at hv;obtain ⟨v',J,h3⟩:=hB.cell q hq j v hv;have gy:j < b.ah:=by rw [← hB.len q hq]; exact (List.getElem?_eq_some_iff.1 hv).1
     exact ⟨v',by rw [xI q j hq gy (.inl e)]; exact J,h3⟩
   ·rw [hu.n] at hq; rw [hu.flat] at hf;by_cases e:q=row
    ·subst e;obtain ⟨j,hj,rfl⟩:=List.getElem_of_mem hv;by_cases DE:cj≤j∧j < cj+cs.length
     ·have:=hu.I0 (j - cj) _ (List.getElem?_eq_getElem (by omega:j - cj < cs.length))
      rw [show cj+(j - cj)=j by omega,List.getElem?_eq_getElem hj] at this
      injection this with this
      rw [this];exact hu.pl hf _ (List.getElem_mem _)
     ·have:=hu.out j (by omega)
      rw [List.getElem?_eq_getElem hj] at this;exact hB.plain hf q hq _ (List.mem_of_getElem? this.symm)
    ·rw [hu.DD q e] at hv; exact hB.plain hf q hq v hv
   ·rw [hu.n] at hq;by_cases e:q=row
    ·subst e;obtain ⟨j,hj,rfl⟩:=List.getElem_of_mem hv;by_cases DE:cj≤j∧j < cj+cs.length
     ·have:=hu.I0 (j - cj) _ (List.getElem?_eq_getElem (by omega:j - cj < cs.length))
      rw [show cj+(j - cj)=j by omega,List.getElem?_eq_getElem hj] at this
      injection this with this
      rw [this];exact h1 _ (List.getElem_mem _)
     ·have:=hu.out j (by omega)
      rw [List.getElem?_eq_getElem hj] at this;exact hB.one q hq _ (List.mem_of_getElem? this.symm)
    ·rw [hu.DD q e] at hv; exact hB.one q hq v hv
   ·obtain ⟨pA,J,h3⟩:=A1 l.aJ fe (l.base+row*l.ah+cj) w cur t j5;exact ⟨pA,t,J,by rw [h3]; exact fG,by rw [hu.n]; exact O0⟩
   ·rw [oO]; exact hB.live
  ·obtain ⟨lj,dq,rh⟩:=h.aJ j c gy;have H9:=h.sep id j b c l lj hb gy (Ne.symm aN) hu.o hl dq;exact ⟨lj,dq,rh.same (rK _ _ _ _ _ (Ne.symm H9)) (by rw [oO]; exact Nat.le_refl _)⟩
 ·rcases ld i bi hi with ⟨rfl,rfl⟩ | ⟨hni,aS⟩ <;> rcases ld j bj hj with ⟨rfl,rfl⟩ | ⟨hnj,gy⟩
  ·exact absurd rfl aN
  ·exact h.sep _ j b bj li lj hb gy aN hu.o e1 e2
  ·exact h.sep i _ bi b li lj aS hb aN ho e1 e2
  ·exact h.sep i j bi bj li lj aS gy aN ho e1 e2
theorem Lc (hE:EnvOk P E) {o:Oper} {t:TypeId} {x y:Operand} (ho:o.op=.store t x y) {ν:Nu} {tmps ts:List Value} {H:aA} {a b:Act} {w:World} (hi:bD F ν ts H b w) {k:SK}
  (hx:fC ν tmps a x) (hy:fC ν tmps a y) (h:Cv E tmps H t x y k):∃ w' H',(execOp a.eval o).run P w=.ok .skip w'∧bD F ν ts H' b w'∧k tmps H':=by
 obtain ⟨av,J,hv⟩:=kQ h hx;clear h
 split at J
 ·rename_i id row sp;obtain ⟨v,h,hvv⟩:=kQ J hy;clear J;have J:=A9 h;clear h;obtain ⟨ti,ht,h⟩:=c5 J;clear J
  split at h
  ·rename_i a9;obtain ⟨hlen,qQ⟩:=yd a9;obtain ⟨bl,hb,J⟩:=gK h;clear h;obtain ⟨b',hu,h⟩:=RS J;clear J;obtain ⟨ak,J⟩:=my h;clear h;obtain ⟨l,hl,he⟩:=hv.o4;obtain ⟨l',cP,hB⟩:=hi.hp.aJ id bl hb;rw [hl] at cP; cases cP;have hc:=hvv.cells;obtain ⟨cur,tt',j5,fG,O0⟩:=hB.own hu.o (ai.dm hu.own).2;obtain ⟨i,iS,gG,_⟩:=(hE.ty _ _ ht).info;have ach:∀ u∈(a.eval y).cells.toList,u.oneCell'=true:=by
    intro u tg;obtain ⟨j,hj,rfl⟩:=List.getElem_of_mem tg;have gy:j < v.cells.toList.length:=by rw [hc.1]; exact hj
    have:=hc.2 j _ _ (List.getElem?_eq_getElem gy) (List.getElem?_eq_getElem hj);rw [this.B5]; exact qQ _ (List.getElem_mem _)
   have an:(storeCells (l.at row (sp.getD 0)) (a.eval y).cells.toList).run P w=.ok () (w.setCells l.aJ (l.base+row*l.ah+sp.getD 0) (a.eval y).cells.toList):=by
    have:=run_storeCells_cells (P:=P) l.aJ (l.base+row*l.ah+sp.getD 0) (a.eval y).cells.toList 0 w (fun j hj=>by
     have xJ:=hu.fit;rw [hc.1] at xJ;obtain ⟨u,rf,_⟩:=hB.cell row hu.lt (sp.getD 0+j) _ (List.getElem?_eq_getElem (by omega))
     simp only [Loc.at] at rf;rw [show l.base+row*l.ah+sp.getD 0+0+j=l.base+row*l.ah+(sp.getD 0+j) by omega,rf]; rfl) (fun j hj=>by
     simp [World.frozen?,j5]) ach
    simpa [Loc.at] using this
   have aY:(a.eval y).cells.size=i.size:=by rw [gG,← hlen,hc.1]; simp
   have bK:(execOp a.eval o).run P w=.ok .skip (w.setCells l.aJ (l.base+row*l.ah+sp.getD 0) (a.eval y).cells.toList):=by
    simp [execOp,ho,Instr.storeAt,he,Instr.sureAddr,storeVar,gB iS,aY,an]
   have aS:bD F ν ts (H.set id (some b')) b (w.setCells l.aJ (l.base+row*l.ah+sp.getD 0) (a.eval y).cells.toList):=by
    obtain ⟨o1,o2,o3⟩:=vX l.aJ (a.eval y).cells.toList (l.base+row*l.ah+sp.getD 0) w;refine ⟨hi.tm,hi.df.fZ j5 (fun q hq=>rK _ _ _ _ _ hq),hi.hp.store hb hl hu hc qQ,fun j hj=>hi.fr j (by simpa using hj),⟨o1.trans hi.kp.os,o2.trans hi.kp.tape,o3.trans hi.kp.output,by rw [oO]; exact hi.kp.size,fun q h1 J=>?_⟩,fun j c lc hj mW dX=>?_,hi.mono⟩
    ·rw [rK]
     ·exact hi.kp.aJ q h1 J
     ·intro e;subst e;rcases hi.own id bl l hb hu.o hl with h | h
      ·exact J h
      ·omega
    ·by_cases e:j=id
     ·subst e;rw [hl] at dX; cases dX;exact hi.own j bl l hb hu.o hl
     ·rw [List.getElem?_set_ne (Ne.symm e)] at hj;exact hi.own j c lc hj mW dX
   exact ⟨_,_,bK,aS,J⟩
  ·exact h.elim
 ·exact J.elim
theorem St (hE:EnvOk P E) {o:Oper} {t:TypeId} {x y:Operand} (ho:o.op=.store t x y) {ν:Nu} {tmps:List Value} {H:aA} {a:Act} {w:World} (hi:bD F ν tmps H a w) {k:SK}
  (h:Cv E tmps H t x y fun t' H'=>dD t' o.dst undef fun vz=>k vz H') {next:Act→World→Prop} {Q:Exit→Act→World→Prop}
  (hk:∀ ν t' H' a' w',bD F ν t' H' a' w'→k t' H'→next a' w'):o.wpIn (WF r) n P a w next Q:=by
 obtain ⟨w',H',bK,aS,J⟩:=Lc hE ho hi (hi.mE x) (hi.mE y) h;obtain ⟨t',I3,adQ⟩:=aS.dst (.undef ν) J;refine ⟨fun _ _=>trivial,?_⟩
 rw [Oper.semAt_eq _ _ _ (by simp [ho]),bK]
 exact hk _ _ _ _ _ adQ I3
end
open Go Go.RowKit
def pg (id:Nat):Nat→Value→Bool
 | 0,_=>true
 | k+1,v=>match v with
  | .bool _ | .int _ _ | .string _ | .pointer none | .slice none _ _ | .nilFunc | .chan none=>false
  | .pointer (some ⟨j,_,_⟩)=>Nat.beq j id
  | .slice (some ⟨j,_,_⟩) _ _=>Nat.beq j id
  | .func _ ⟨l⟩ ⟨m⟩=>l.foldr (fun v acc=>pg id k v || acc) false || m.foldr (fun v acc=>pg id k v || acc) false
  | .agg ⟨l⟩=>l.foldr (fun v acc=>pg id k v || acc) false
  | .tuple ⟨l⟩=>l.foldr (fun v acc=>pg id k v || acc) false
  | _=>true
def sH (id k:Nat) (l:List Value):Bool:=l.foldr (fun v acc=>pg id k v || acc) false
theorem v5 {id k:Nat}:∀ {l:List Value},sH id k l=false→∀ v∈l,pg id k v=false
 | [],_,v,hv=>by simp at hv
 | x::l,h,v,hv=>by
  simp only [sH,List.foldr_cons,Bool.or_eq_false_iff] at h;rcases List.mem_cons.1 hv with e | e
  ·rw [e]; exact h.1
  ·exact v5 (l:=l) h.2 v e
def Nu.off (ν aj:Nu) (id:Nat):Prop:=∀ j,j≠id→aj j=ν j
theorem bn.map {ν aj:Nu} {xs ys:List Value} (h:bn ν xs ys) (hm:∀ v∈xs,∀ r,au ν v r→au aj v r):bn aj xs ys :=
 ⟨h.1,fun i x y hx hy=>hm x (List.mem_of_getElem? hx) y (h.2 i x y hx hy)⟩
theorem EH {id:Nat} {ν aj:Nu} (ib:ν.off aj id):∀ (k:Nat) (v r:Value),pg id k v=false→au ν v r→au aj v r:=by
 intro k
 induction k with
 | zero=>intro v r h; simp [pg] at h
 | succ k ih =>
  intro v r h hr;cases hr with
  | bool b=>exact .bool b
  | int q n=>exact .int q n
  | str s=>exact .str s
  | mI=>exact .mI
  | ptr j row sp l hl=>exact .ptr j row sp l (by rw [ib j (Nat.ne_of_beq_eq_false h)]; exact hl)
  | iR=>exact .iR
  | slice j row n c c' l hl hc hn hr=>exact .slice j row n c c' l (by rw [ib j (Nat.ne_of_beq_eq_false h)]; exact hl) hc hn hr
  | void j row c a hc=>exact .void j row c a hc
  | mi j row m n c' l hl hm hn hr=>exact .mi j row m n c' l (by rw [ib j (Nat.ne_of_beq_eq_false h)]; exact hl) hm hn hr
  | kZ j row a=>exact .kZ j row a
  | mJ=>exact .mJ
  | func fn xs ys nP dy h1 J h3 h4 =>
   have h:(sH id k xs || sH id k nP)=false:=h;rw [Bool.or_eq_false_iff] at h;have a1:=bn.map (aj:=aj) ⟨h1,J⟩ (fun v hv r hr=>ih v r (v5 h.1 v hv) hr)
   have a2:=bn.map (aj:=aj) ⟨h3,h4⟩ (fun v hv r hr=>ih v r (v5 h.2 v hv) hr)
   exact .func fn _ _ _ _ a1.1 a1.2 a2.1 a2.2
  | agg xs ys h1 J =>
   have h:sH id k xs=false:=h;have a1:=bn.map (aj:=aj) ⟨h1,J⟩ (fun v hv r hr=>ih v r (v5 h v hv) hr)
   exact .agg _ _ a1.1 a1.2
  | tuple xs ys h1 J =>
   have h:sH id k xs=false:=h;have a1:=bn.map (aj:=aj) ⟨h1,J⟩ (fun v hv r hr=>ih v r (v5 h v hv) hr)
   exact .tuple _ _ a1.1 a1.2
  | dead=>exact .dead _ (by assumption)
def qD (id:Nat):Nat→Value→Option Value
 | 0,_=>none
 | k+1,v=>match pg id 3 v with
  | false=>some v
  | true=>match v.oneCell' with
   | true=>some (.chan none)
   | false=>match v with
    | .agg ⟨l⟩=>match l.foldr (fun v acc=>match qD id k v,acc with | some x,some xs=>some (x::xs) | _,_=>none) (some []) with | some l'=>some (.agg ⟨l'⟩) | none=>none
    | .tuple ⟨l⟩=>match l.foldr (fun v acc=>match qD id k v,acc with | some x,some xs=>some (x::xs) | _,_=>none) (some []) with | some l'=>some (.tuple ⟨l'⟩) | none=>none
    | _=>none
def zt (id k:Nat) (l:List Value):Option (List Value):=l.foldr (fun v acc=>match qD id k v,acc with | some x,some xs=>some (x::xs) | _,_=>none) (some [])
theorem S3 {id m:Nat} {x:Value} {xs l:List Value} (h:zt id m (x::xs)=some l):∃ y ys,l=y::ys∧qD id m x=some y∧zt id m xs=some ys:=by
 unfold zt at h;rw [List.foldr_cons] at h
 split at h
 ·rename_i y ys h1 J;exact ⟨y,ys,(Option.some.inj h).symm,h1,J⟩
 ·cases h
theorem Fg {id m:Nat} {ν aj:Nu} (h:∀ v v2 r,qD id m v=some v2→au ν v r→au aj v2 r):∀ {xs l rs:List Value},zt id m xs=some l→bn ν xs rs→bn aj l rs
 | [],l,rs,h1,J=>by
  have:l=[]:=by simp [zt] at h1; exact h1
  rw [this,J.jb]; exact .nil _
 | x::xs,l,rs,h1,J=>by
  obtain ⟨y,ys,rfl,e1,e2⟩:=S3 h1;obtain ⟨r,ck,rfl,k1,k2⟩:=J.jw;exact .cons (h _ _ _ e1 k1) (Fg h e2 k2)
theorem Up {id:Nat} {ν aj:Nu} (ib:ν.off aj id):∀ (m:Nat) (v v2 r:Value),qD id m v=some v2→au ν v r→au aj v2 r:=by
 intro m
 induction m with
 | zero=>intro v v2 r h; simp [qD] at h
 | succ m ih =>
  intro v v2 r h hr;unfold qD at h
  split at h
  ·rename_i hm;cases h;exact EH ib 3 v r hm hr
  ·split at h
   ·rename_i h1;cases h;exact .dead _ (by rw [hr.B5]; exact h1)
   ·split at h
    ·split at h
     ·rename_i l l' e;cases h;obtain ⟨ys,rfl,hy⟩:=hr.uy;have:=Fg (ih) e hy;exact .agg _ _ this.1 this.2
     ·cases h
    ·split at h
     ·rename_i l l' e;cases h;obtain ⟨ys,rfl,hy⟩:=hr.n6;have:=Fg (ih) e hy;exact .tuple _ _ this.1 this.2
     ·cases h
    ·cases h
def zN {α:Type} (o:Option α) (k:α→Prop):Prop:=match o with | some a=>k a | none=>False
theorem Fh {α:Type} {o:Option α} {k:α→Prop} (h:zN o k):∃ a,o=some a∧k a:=by
 unfold zN at h; split at h
 ·exact ⟨_,rfl,h⟩
 ·exact h.elim
theorem EJ {P:Value→Value→Prop}:∀ {ys:List Value},(∀ y∈ys,∃ x,P x y)→∃ xs:List Value,xs.length=ys.length∧∀ (i:Nat) x y,xs[i]?=some x→ys[i]?=some y→P x y
 | [],_=>⟨[],rfl,fun i x y hx=>by simp at hx⟩
 | y::ys,h=>by
  obtain ⟨x,hx⟩:=h y (by simp)
  obtain ⟨xs,h1,J⟩:=EJ (ys:=ys) (fun z hz=>h z (by simp [hz]))
  refine ⟨x::xs,by simp [h1],fun i a b ha hb=>?_⟩
  cases i with
  | zero=>simp at ha hb; subst ha; subst hb; exact hx
  | succ i=>exact J i a b (by simpa using ha) (by simpa using hb)
theorem au.any {ν:Nu} {v r:Value} (h:au ν v r):∃ x,∀ aj,au aj x r:=by
 induction h with
 | agg xs ys h1 _ ih =>
  obtain ⟨zs,e1,e2⟩:=EJ (P:=fun x y=>∀ aj,au aj x y) (ys:=ys) (fun y hy=>by
   obtain ⟨i,hi,rfl⟩:=List.getElem_of_mem hy;exact ih i _ _ (List.getElem?_eq_getElem (h1 ▸ hi)) (List.getElem?_eq_getElem hi))
  exact ⟨.agg ⟨zs⟩,fun aj=>.agg _ _ e1 (fun i x y hx hy=>e2 i x y hx hy aj)⟩
 | tuple xs ys h1 _ ih =>
  obtain ⟨zs,e1,e2⟩:=EJ (P:=fun x y=>∀ aj,au aj x y) (ys:=ys) (fun y hy=>by
   obtain ⟨i,hi,rfl⟩:=List.getElem_of_mem hy;exact ih i _ _ (List.getElem?_eq_getElem (h1 ▸ hi)) (List.getElem?_eq_getElem hi))
  exact ⟨.tuple ⟨zs⟩,fun aj=>.tuple _ _ e1 (fun i x y hx hy=>e2 i x y hx hy aj)⟩
 | dead w hw=>exact ⟨.chan none,fun aj=>.dead w hw⟩
 | _=>exact ⟨.chan none,fun aj=>.dead _ rfl⟩
def I5 (i:Nat):List Nat→Bool
 | []=>false
 | a::l=>match Nat.beq a i with
  | true=>true
  | false=>I5 i l
def uL (a:Nat→Value) (id:Nat) (aa:List Nat):Nat→List Value→(List Value→Prop)→Prop
 | _,[],k=>k []
 | i,v::l,k=>match I5 i aa with
  | true=>zN (qD id 3 v) fun v'=>uL a id aa (i+1) l fun l'=>k (v'::l')
  | false=>uL a id aa (i+1) l fun l'=>k (a i::l')
theorem NG {ν:Nu} {t r:List Value} (h:bn ν t r):∃ a:Nat→Value,∀ (j:Nat) (y:Value),r[j]?=some y→∀ aj,au aj (a j) y:=by
 have hx:∀ j:Nat,∃ x:Value,∀ y:Value,r[j]?=some y→∀ aj,au aj x y:=by
  intro j;cases hj:r[j]? with
  | none=>exact ⟨undef,fun y hy=>by simp at hy⟩
  | some y =>
   have ak:j < t.length:=by
    rw [h.1];exact (List.getElem?_eq_some_iff.1 hj).1
   obtain ⟨x,hx⟩:=(h.2 j t[j] y (List.getElem?_eq_getElem ak) hj).any;exact ⟨x,fun y' hy=>by cases hy; exact hx⟩
 exact ⟨fun j=>Classical.choose (hx j),fun j y hy=>Classical.choose_spec (hx j) y hy⟩
theorem MU {a:Nat→Value} {i:Nat} {y:Value} {ys:List Value} (h:∀ (j:Nat) (z:Value),(y::ys)[j]?=some z→∀ aj:Nu,au aj (a (i+j)) z) :
  (∀ aj:Nu,au aj (a i) y)∧∀ (j:Nat) (z:Value),ys[j]?=some z→∀ aj:Nu,au aj (a (i+1+j)) z:=by
 refine ⟨fun aj=>h 0 y rfl aj,fun j z hz aj=>?_⟩
 have:=h (j+1) z (by simpa using hz) aj
 rw [show i+1+j=i+(j+1) by omega]
 exact this
theorem EU {a:Nat→Value} {id:Nat} {aa:List Nat}:∀ {t:List Value} {i:Nat} {k:List Value→Prop},uL a id aa i t k→∀ (ν:Nu) r,bn ν t r→(∀ (j:Nat) (y:Value),r[j]?=some y→∀ aj:Nu,au aj (a (i+j)) y)→∃ t',k t'∧∀ aj,ν.off aj id→bn aj t' r
 | [],i,k,h,ν,r,hr,ha=>⟨[],h,fun aj _=>by rw [hr.jb]; exact .nil _⟩
 | v::l,i,k,h,ν,r,hr,ha=>by
  obtain ⟨y,ys,rfl,h1,J⟩:=hr.jw;obtain ⟨hx,ha⟩:=MU ha;unfold uL at h
  split at h
  ·obtain ⟨v',e,h⟩:=Fh h;obtain ⟨l',h3,h4⟩:=EU h ν ys J ha;exact ⟨_,h3,fun aj ho=>.cons (Up ho 3 _ _ _ e h1) (h4 aj ho)⟩
  ·obtain ⟨l',h3,h4⟩:=EU h ν ys J ha;exact ⟨_,h3,fun aj ho=>.cons (hx _) (h4 aj ho)⟩
def uM (id:Nat) (v:Value):Value:=match pg id 3 v with | false=>v | true=>.chan none
def BK (id:Nat):List (List Value)→(List (List Value)→Prop)→Prop
 | [],k=>k []
 | r::l,k=>BK id l fun l'=>k (r.map (uM id)::l')
theorem Ko {id:Nat}:∀ {l:List (List Value)} {k:List (List Value)→Prop},BK id l k→k (l.map fun r=>r.map (uM id))
 | [],k,h=>h
 | r::l,k,h=>by have:=Ko (l:=l) h; simpa using this
def zu (id:Nat):List (List Value)→Bool
 | []=>false
 | r::l=>sH id 3 r || zu id l
theorem Ld {id:Nat}:∀ {l:List (List Value)},zu id l=false→∀ r∈l,sH id 3 r=false
 | [],_,v,hv=>by simp at hv
 | x::l,h,v,hv=>by
  simp only [zu,Bool.or_eq_false_iff] at h;rcases List.mem_cons.1 hv with e | e
  ·rw [e]; exact h.1
  ·exact Ld (l:=l) h.2 v e
def zv (id:Nat) (b:ai) (k:ai→Prop):Prop :=
 match b with
 | .flat o n e g=>k (.flat o n e g)
 | .aR o e rows=>match zu id rows with
  | false=>k (.aR o e rows)
  | true=>BK id rows fun jg=>k (.aR o e jg)
 | .cB r=>k (.cB r)
theorem Le {id:Nat} {b:ai} {k:ai→Prop} (h:zv id b k):∃ b',k b'∧b'.own=b.own∧∀ (ν aj:Nu) (l:Loc) (w:World),ν.off aj id→bS ν l b w→bS aj l b' w:=by
 cases b with
 | flat o n e g =>
  exact ⟨_,h,rfl,fun ν aj l w ho hB=>⟨hB.ah,hB.len,fun r hr j v hv=>by
   obtain ⟨v',h1,J⟩:=hB.cell r hr j v hv;have:=hB.plain rfl r hr v (List.mem_of_getElem? hv);rw [J.kl this] at h1;exact ⟨v,h1,au.kj this⟩,hB.plain,hB.one,hB.own,hB.lr,hB.live⟩⟩
 | cB r =>
  exact ⟨_,h,rfl,fun ν aj l w ho hB=>⟨hB.ah,fun r hr=>absurd hr (Nat.not_lt_zero r),fun r hr=>absurd hr (Nat.not_lt_zero r),(fun h=>nomatch h),fun r hr=>absurd hr (Nat.not_lt_zero r),fun _ h=>(nomatch h),hB.lr,hB.live⟩⟩
 | aR o e rows =>
  have h:(match zu id rows with
   | false=>k (.aR o e rows)
   | true=>BK id rows fun jg=>k (.aR o e jg)):=h
  split at h
  ·rename_i hm;exact ⟨_,h,rfl,fun ν aj l w ho hB=>⟨hB.ah,hB.len,fun r hr j v hv=>by
    obtain ⟨v',h1,J⟩:=hB.cell r hr j v hv;refine ⟨v',h1,EH ho 3 v v' ?_ J⟩;have iV:r < rows.length:=hr;simp only [ai.row,List.getD,List.getElem?_eq_getElem iV,Option.getD_some] at hv;exact v5 (Ld hm _ (List.getElem_mem _)) v (List.mem_of_getElem? hv),hB.plain,hB.one,hB.own,hB.lr,hB.live⟩⟩
  ·rename_i hm;have h:=Ko h;have bd:∀ r,(ai.aR o e (rows.map fun r=>r.map (uM id))).row r=((ai.aR o e rows).row r).map (uM id):=by
    intro r;simp only [ai.row,List.getD,List.getElem?_map];cases rows[r]? <;> rfl
   have h1c:∀ v,v.oneCell'=true→(uM id v).oneCell'=true:=by
    intro v hv;unfold uM
    split
    ·exact hv
    ·rfl
   refine ⟨_,h,rfl,fun ν aj l w ho hB=>⟨hB.ah,fun r hr=>?_,fun r hr j v hv=>?_,fun h=>by simp [ai.jd] at h,fun r hr v hv=>?_,fun h _=>?_,(fun r h=>nomatch h),hB.live⟩⟩
   ·have hr:r < (ai.aR o e rows).n:=by simpa [ai.n] using hr
    rw [bd,List.length_map]; exact hB.len r hr
   ·have hr:r < (ai.aR o e rows).n:=by simpa [ai.n] using hr
    rw [bd,List.getElem?_map] at hv;cases hx:((ai.aR o e rows).row r)[j]? with
    | none=>rw [hx] at hv; cases hv
    | some x =>
     rw [hx] at hv;cases hv;obtain ⟨v',h1,J⟩:=hB.cell r hr j x hx;refine ⟨v',h1,?_⟩;unfold uM
     split
     ·rename_i xU; exact EH ho 3 x v' xU J
     ·exact .dead _ (by rw [J.B5]; exact hB.one r hr x (List.mem_of_getElem? hx))
   ·have hr:r < (ai.aR o e rows).n:=by simpa [ai.n] using hr
    rw [bd] at hv;obtain ⟨x,hx,rfl⟩:=List.mem_map.1 hv;exact h1c x (hB.one r hr x hx)
   ·obtain ⟨cur,t,q1,q2,q3⟩:=hB.own h rfl;exact ⟨cur,t,q1,q2,by simpa [ai.n] using q3⟩
def xm (id:Nat):aA→(aA→Prop)→Prop
 | [],k=>k []
 | none::H,k=>xm id H fun H'=>k (none::H')
 | some b::H,k=>zv id b fun b'=>xm id H fun H'=>k (some b'::H')
theorem EV {id:Nat}:∀ {H:aA} {k:aA→Prop},xm id H k→∃ H',k H'∧H'.length=H.length∧∀ (j:Nat) (b':ai),H'[j]?=some (some b')→∃ b,H[j]?=some (some b)∧b'.own=b.own ∧
  ∀ (ν aj:Nu) (l:Loc) (w:World),ν.off aj id→bS ν l b w→bS aj l b' w
 | [],k,h=>⟨[],h,rfl,fun j b' hj=>by simp at hj⟩
 | none::H,k,h=>by
  obtain ⟨H',h1,J,h3⟩:=EV (H:=H) h;refine ⟨_,h1,by simp [J],fun j b' hj=>?_⟩
  cases j with
  | zero=>simp at hj
  | succ j=>exact h3 j b' (by simpa using hj)
 | some b::H,k,h=>by
  obtain ⟨b1,h,hb⟩:=Le h;obtain ⟨H',h1,J,h3⟩:=EV (H:=H) h;refine ⟨_,h1,by simp [J],fun j b' hj=>?_⟩
  cases j with
  | zero=>simp at hj; subst hj; exact ⟨b,rfl,hb⟩
  | succ j=>exact h3 j b' (by simpa using hj)
open Go Go.RowKit
structure CR (ν:Nu) (ah:Nat) (g:Nat→List Value) (m:Nat) (L:List Value):Prop where
 len:L.length=m*ah
 row:∀ r,r < m→(g r).length=ah
 cell:∀ r,r < m→∀ (j:Nat) v,(g r)[j]?=some v→∃ v',L[r*ah+j]?=some v'∧au ν v v'
 one:∀ u∈L,u.oneCell'=true
 sU:∀ r,r < m→∀ v∈g r,v.oneCell'=true
def gQ (g:Nat→List Value) (n:Nat) (h:Nat→List Value):Nat→List Value:=fun j=>bif Nat.blt j n then g j else h (j - n)
theorem iO {g h:Nat→List Value} {n j:Nat} (hj:j < n):gQ g n h j=g j:=by
 have:Nat.blt j n=true:=by rw [Nat.blt_eq]; exact hj
 simp [gQ,this]
theorem fO {g h:Nat→List Value} {n j:Nat} (hj:n≤j):gQ g n h j=h (j - n):=by
 have:Nat.blt j n=false:=by
  cases h:Nat.blt j n with
  | false=>rfl
  | true=>rw [Nat.blt_eq] at h; omega
 simp [gQ,this]
theorem CR.append {ν:Nu} {ah n m:Nat} {g h:Nat→List Value} {L M:List Value} (a:CR ν ah g n L) (b:CR ν ah h m M):CR ν ah (gQ g n h) (n+m) (L++M):=by
 refine ⟨by rw [List.length_append,a.len,b.len,Nat.add_mul],fun r hr=>?_,fun r hr j v hv=>?_,fun u hu=>?_,fun r hr v hv=>?_⟩
 ·by_cases h:r < n
  ·rw [iO h]; exact a.row r h
  ·rw [fO (by omega)]; exact b.row _ (by omega)
 ·by_cases h:r < n
  ·rw [iO h] at hv;obtain ⟨v',h1,J⟩:=a.cell r h j v hv;exact ⟨v',by rw [List.getElem?_append_left (List.getElem?_eq_some_iff.1 h1).1]; exact h1,J⟩
  ·rw [fO (by omega)] at hv
   obtain ⟨v',h1,J⟩:=b.cell (r - n) (by omega) j v hv
   refine ⟨v',?_,J⟩;have e:r*ah+j=L.length+((r - n)*ah+j):=by
    rw [a.len];have:r*ah=n*ah+(r - n)*ah:=by rw [← Nat.add_mul]; congr 1; omega
    omega
   rw [e,List.getElem?_append_right (by omega),Nat.add_sub_cancel_left]; exact h1
 ·rcases List.mem_append.1 hu with h | h
  ·exact a.one u h
  ·exact b.one u h
 ·by_cases h:r < n
  ·rw [iO h] at hv; exact a.sU r h v hv
  ·rw [fO (by omega)] at hv; exact b.sU _ (by omega) v hv
theorem CR.nil (ν:Nu) (ah:Nat) (g:Nat→List Value):CR ν ah g 0 [] :=
 ⟨by simp,fun r hr=>absurd hr (by omega),fun r hr=>absurd hr (by omega),fun u hu=>by simp at hu,fun r hr=>absurd hr (by omega)⟩
theorem CR.mono {ν aj:Nu} {ah m:Nat} {g:Nat→List Value} {L:List Value} (h:CR ν ah g m L) (hle:ν.le aj):CR aj ah g m L :=
 ⟨h.len,h.row,fun r hr j v hv=>let ⟨v',h1,J⟩:=h.cell r hr j v hv; ⟨v',h1,J.mono hle⟩,h.one,h.sU⟩
theorem CR.congr {ν:Nu} {ah m:Nat} {g g':Nat→List Value} {L:List Value} (h:CR ν ah g m L) (hg:∀ r,r < m→g' r=g r):CR ν ah g' m L :=
 ⟨h.len,fun r hr=>by rw [hg r hr]; exact h.row r hr,fun r hr j v hv=>h.cell r hr j v (by rw [← hg r hr]; exact hv),h.one,fun r hr v hv=>h.sU r hr v (by rw [← hg r hr]; exact hv)⟩
theorem CR.G0 {ν:Nu} {l:Loc} {b:ai} {w:World} (hB:bS ν l b w) {row m:Nat} (hm:row+m≤b.n):∃ L,CR ν b.ah (fun j=>b.row (row+j)) m L∧∀ (j:Nat) u,L[j]?=some u→w.cell? ((l.at row 0).add j)=some u:=by
 have key:∀ q,q < m*b.ah→∃ r j v v',r < m∧j < b.ah∧q=r*b.ah+j∧(b.row (row+r))[j]?=some v∧w.cell? ((l.at row 0).add q)=some v'∧au ν v v'∧v'.oneCell'=true:=by
  intro q hq;have he:0 < b.ah:=by
   rcases Nat.eq_zero_or_pos b.ah with h | h
   ·rw [h] at hq; omega
   ·exact h
  have hr:q / b.ah < m:=(Nat.div_lt_iff_lt_mul he).2 hq;have hj:q % b.ah < b.ah:=Nat.mod_lt _ he;have hlen:=hB.len (row+q / b.ah) (by omega)
  have hv:(b.row (row+q / b.ah))[q % b.ah]?=some _:=List.getElem?_eq_getElem (by omega)
  obtain ⟨v',h1,J⟩:=hB.cell (row+q / b.ah) (by omega) _ _ hv
  refine ⟨q / b.ah,q % b.ah,_,v',hr,hj,by rw [Nat.mul_comm,Nat.div_add_mod],hv,?_,J,by rw [J.B5]; exact hB.one _ (by omega) _ (List.getElem_mem _)⟩
  rw [Loc.jS,← h1];unfold Loc.at
  congr 2
  rw [hB.ah,Nat.add_mul];have:=Nat.div_add_mod q b.ah;rw [Nat.mul_comm] at this;omega
 let L:=(List.range (m*b.ah)).map fun q=>(w.cell? ((l.at row 0).add q)).getD undef
 have ld:∀ q,q < m*b.ah→L[q]?=some ((w.cell? ((l.at row 0).add q)).getD undef):=by
  intro q hq;simp only [L,List.getElem?_map,List.getElem?_range hq,Option.map_some]
 have hL:L.length=m*b.ah:=by simp [L]
 refine ⟨L,⟨hL,fun r hr=>hB.len _ (by omega),fun r hr j v hv=>?_,fun u hu=>?_,fun r hr v hv=>hB.one _ (by omega) v hv⟩,fun j u hu=>?_⟩
 ·have hj:j < b.ah:=by rw [← hB.len (row+r) (by omega)]; exact (List.getElem?_eq_some_iff.1 hv).1
  have hq:r*b.ah+j < m*b.ah:=by
   have:(r+1)*b.ah≤m*b.ah:=Nat.mul_le_mul_right _ hr;rw [Nat.add_mul] at this; omega
  obtain ⟨v',h1,J⟩:=hB.cell (row+r) (by omega) j v hv
  refine ⟨v',?_,J⟩;have e:(l.at row 0).add (r*b.ah+j)=l.at (row+r) j:=by
   rw [Loc.jS]; unfold Loc.at; congr 1; rw [hB.ah,Nat.add_mul]; omega
  rw [ld _ hq,e,h1]; rfl
 ·obtain ⟨q,hq,rfl⟩:=List.getElem_of_mem hu;rw [hL] at hq;obtain ⟨r,j,v,v',_,_,_,_,h1,_,J⟩:=key q hq;have:=ld q hq;rw [h1] at this;have e:=List.getElem?_eq_getElem (l:=L) (i:=q) (by omega)
  rw [this] at e;rw [← Option.some.inj e]; exact J
 ·have hj:j < m*b.ah:=by rw [← hL]; exact (List.getElem?_eq_some_iff.1 hu).1
  obtain ⟨r,q,v,v',_,_,_,_,h1,_,J⟩:=key j hj;rw [ld j hj,h1] at hu;rw [h1,← hu]; rfl
theorem W9 {ν:Nu} {ah N cap aJ:Nat} {g:Nat→List Value} {L:List Value} {b':ai} (hC:CR ν ah g N L) (bd:∀ r,r < N→b'.row r=g r) (hn:b'.n=N) (he:b'.ah=ah)
  (hf:b'.jd=true→∀ r,r < N→∀ v∈g r,cW v=true) {w':World} {C:Array Value} {t:TypeId} (hw:w'.heap[aJ]?=some (.cells C t (0,0))) (hCL:∀ q,q < L.length→C[q]?=L[q]?)
  (fG:N≤cap) (aY:cap*ah≤C.size) (IW:b'.rc=none):bS ν ⟨aJ,0,ah,cap⟩ b' w':=by
 have Hw:aJ < w'.heap.size:=(Array.getElem?_eq_some_iff.1 hw).1;refine ⟨he.symm,fun r hr=>?_,fun r hr j v hv=>?_,fun h r hr v hv=>?_,fun r hr v hv=>?_,fun _ _=>⟨C,t,hw,by simpa using aY,by rw [hn]; exact fG⟩,(fun r h=>by rw [IW] at h; cases h),Hw⟩
 ·rw [hn] at hr; rw [bd r hr,he]; exact hC.row r hr
 ·rw [hn] at hr; rw [bd r hr] at hv;obtain ⟨v',h1,J⟩:=hC.cell r hr j v hv;refine ⟨v',?_,J⟩;simp only [Loc.at,World.cell?,Nat.zero_add];rw [hw];simp only [Option.isSome_none,Bool.false_eq_true,if_false];rw [hCL _ (List.getElem?_eq_some_iff.1 h1).1]; exact h1
 ·rw [hn] at hr; rw [bd r hr] at hv; exact hf h r hr v hv
 ·rw [hn] at hr; rw [bd r hr] at hv; exact hC.sU r hr v hv
theorem bU.fZ {ν aj:Nu} {H H':aA} {w w':World} (h:bU ν H w) {id:Nat} (ib:ν.off aj id)
  (ho:∀ (j:Nat) (b':ai),H'[j]?=some (some b')→j≠id→∃ b,H[j]?=some (some b)∧b'.own=b.own∧∀ l,ν j=some l→bS ν l b w→bS aj l b' w')
  (bu:∀ b',H'[id]?=some (some b')→∃ l,aj id=some l∧bS aj l b' w'∧∀ j lj bj,j≠id→H[j]?=some (some bj)→ν j=some lj→lj.aJ≠l.aJ):bU aj H' w':=by
 refine ⟨fun j b' hj=>?_,fun i j bi bj li lj hi hj aN xV h1 J=>?_⟩
 ·by_cases e:j=id
  ·subst e; obtain ⟨l,h1,J,_⟩:=bu b' hj; exact ⟨l,h1,J⟩
  ·obtain ⟨b,h1,_,J⟩:=ho j b' hj e;obtain ⟨l,h3,h4⟩:=h.aJ j b h1;exact ⟨l,by rw [ib j e]; exact h3,J l h3 h4⟩
 ·by_cases ei:i=id
  ·subst ei;obtain ⟨l,e1,_,e2⟩:=bu bi hi;rw [h1] at e1; cases e1;obtain ⟨b,e3,_,_⟩:=ho j bj hj (Ne.symm aN);rw [ib j (Ne.symm aN)] at J;exact Ne.symm (e2 j lj b (Ne.symm aN) e3 J)
  ·obtain ⟨b,e3,e4,_⟩:=ho i bi hi ei;rw [ib i ei] at h1;by_cases ej:j=id
   ·subst ej;obtain ⟨l,e1,_,e2⟩:=bu bj hj;rw [J] at e1; cases e1;exact e2 i li b ei e3 h1
   ·obtain ⟨c,e5,_,_⟩:=ho j bj hj ej;rw [ib j ej] at J;exact h.sep i j b c li lj e3 e5 aN (by rw [← e4]; exact xV) h1 J
section
variable {P:Program} {w:World}
theorem rN {t ty e:TypeId} {i:TypeInfo} (ht:P.underlying t=some (.slice e)) (hi:P.info? e=some i) {A oy:Option Addr} {n c m cy:Nat} {L:List Value} (hl:L.length=m*i.size)
  (hL:∀ a,oy=some a→∀ (j:Nat) u,L[j]?=some u→w.cell? (a.add j)=some u) (hn:oy=none→m=0) (c7:n+m≤c) {w2:World}
  (an:∀ a,A=some a→(storeCells (a.add (n*i.size)) L).run P w=.ok () w2) (nC:A=none→w2=w) :
  (Builtin.append_ #[t,t] ty #[.slice A n c,.slice oy m cy]).run P w=.ok (.slice A (n+m) c) w2:=by
 have hf:(Builtin.firstCells i.size m (.slice oy m cy)).run P w=.ok L.toArray w:=by
  cases oy with
  | none =>
   have:=hn rfl;subst this;have:L=[]:=List.eq_nil_of_length_eq_zero (by simpa using hl)
   rw [this];exact run_firstCells_none (P:=P) (w:=w) i.size 0 0 cy
  | some a=>exact run_firstCells_some (P:=P) w i.size m a m cy L hl (hL a rfl)
 cases A with
 | none =>
  have:=nC rfl;subst this;simp [Builtin.append_,run_underlying ht,sizeOf,typeInfo,hi,Builtin.lenOf,c7,hf]
 | some a =>
  have:=an a rfl;simp [Builtin.append_,run_underlying ht,sizeOf,typeInfo,hi,Builtin.lenOf,c7,hf,this]
def tZ (C:Array Value) (z:Value) (k:Nat) (e:TypeId):Obj:=.cells (C++Builtin.zeroCells z.cells k) e
theorem A4 {t ty e:TypeId} {i:TypeInfo} {z:Value} (ht:P.underlying t=some (.slice e)) (hi:P.info? e=some i) (hz:i.zero=some z) {A oy:Option Addr} {n c m cy:Nat} {O L:List Value}
  (iw:O.length=n*i.size) (hO:∀ a,A=some a→∀ (j:Nat) u,O[j]?=some u→w.cell? (a.add j)=some u) (hA:A=none→n=0∧c=0)
  (hl:L.length=m*i.size) (hL:∀ a,oy=some a→∀ (j:Nat) u,L[j]?=some u→w.cell? (a.add j)=some u) (hn:oy=none→m=0) (DF:n≤c) (c7:c < n+m) (hB:(n+m)*i.bytes≤140737488355328) (hN:n+m≤140737488355328) :
  (Builtin.append_ #[t,t] ty #[.slice A n c,.slice oy m cy]).run P w=.ok (.slice (some ⟨w.heap.size,0,none⟩) (n+m) (grownCap w (n+m) c e)) (w.drew.alloc (tZ (O++L).toArray z (grownCap w (n+m) c e - (n+m)) e)):=by
 cases oy with
 | none=>have:=hn rfl; omega
 | some a =>
  cases A with
  | none =>
   obtain ⟨rfl,rfl⟩:=hA rfl;have hO0:O=[]:=List.eq_nil_of_length_eq_zero (by simpa using iw)
   subst hO0;have:=run_append_nil (P:=P) (w:=w) t ty e i z ht hi hz a m cy L hl (hL a rfl) (by omega) (by omega) (by simp only [Nat.zero_add] at hB; omega)
   simp only [Nat.zero_add,List.nil_append];exact this
  | some b =>
   have:=run_append_grow (P:=P) (w:=w) t ty e i z ht hi hz b n c O iw (hO b rfl) a m cy L hl (hL a rfl) c7 (by omega) (growslice_fits c7 hB)
   rw [this];simp [tZ]
end
inductive Src where
 | fl (m:Nat) (g:Nat→List Value)
 | ex (L:List (List Value))
def Src.m:Src→Nat
 | .fl m _=>m
 | .ex L=>L.length
def Src.get:Src→Nat→List Value
 | .fl _ g=>g
 | .ex L=>fun j=>L.getD j []
def Src.kz:Src→Bool
 | .fl _ _=>true
 | .ex _=>false
def sI:List (List Value)→Nat→Nat→(List (List Value)→Prop)→Prop
 | _,0,0,k=>k []
 | [],0,_+1,_=>False
 | v::l,0,n+1,k=>sI l 0 n fun vs=>k (v::vs)
 | [],_+1,_,_=>False
 | _::l,o+1,n,k=>sI l o n k
theorem yq:∀ {l:List (List Value)} {o n:Nat} {k:List (List Value)→Prop},sI l o n k→∃ vs,k vs∧(vs.length=n∧o+n≤l.length)∧∀ (j:Nat) v,vs[j]?=some v→l[o+j]?=some v
 | l,0,0,k,h=>⟨[],by cases l <;> exact h,⟨rfl,by simp⟩,fun j v hv=>by simp at hv⟩
 | [],0,_+1,_,h=>h.elim
 | v::l,0,n+1,k,h=>by
  obtain ⟨vs,h1,⟨J,h4⟩,h3⟩:=yq (l:=l) h;refine ⟨v::vs,h1,⟨by simp [J],by simp at h4 ⊢; omega⟩,fun j u hu=>?_⟩
  cases j with
  | zero=>simpa using hu
  | succ j=>have:=h3 j u (by simpa using hu); simpa using this
 | [],o+1,n,k,h=>by cases n <;> exact h.elim
 | x::l,o+1,n,k,h=>by
  have h':sI l o n k:=by cases n <;> exact h
  obtain ⟨vs,h1,⟨J,h4⟩,h3⟩:=yq (l:=l) h';exact ⟨vs,h1,⟨J,by simp; omega⟩,fun j v hv=>by have:=h3 j v hv; rwa [show o+1+j=(o+j)+1 by omega,List.getElem?_cons_succ]⟩
def CQ:List (List Value)→Bool
 | []=>true
 | r::l=>mL r && CQ l
theorem Lf:∀ {l:List (List Value)},CQ l=true→∀ r∈l,∀ v∈r,cW v=true
 | [],_,r,hr=>by simp at hr
 | q::l,h,r,hr=>by
  simp only [CQ,Bool.and_eq_true] at h;rcases List.mem_cons.1 hr with e | e
  ·rw [e]; exact dQ h.1
  ·exact Lf h.2 r e
def sV:List (List Value)→List (List Value)→(List (List Value)→Prop)→Prop
 | [],l,k=>k l
 | x::xs,l,k=>sV xs l fun r=>k (x::r)
theorem yy:∀ {xs l:List (List Value)} {k:List (List Value)→Prop},sV xs l k→k (xs++l)
 | [],_,_,h=>h
 | _::xs,l,k,h=>yy (xs:=xs) h
def xn (g:Nat→List Value):Nat→Nat→(List (List Value)→Prop)→Prop
 | _,0,k=>k []
 | i,m+1,k=>xn g (i+1) m fun l=>k (g i::l)
theorem EW {g:Nat→List Value}:∀ {m i:Nat} {k:List (List Value)→Prop},xn g i m k→∃ l,k l∧l.length=m∧∀ j,j < m→l.getD j []=g (i+j)
 | 0,i,k,h=>⟨[],h,rfl,fun j hj=>absurd hj (by omega)⟩
 | m+1,i,k,h=>by
  obtain ⟨l,h1,J,h3⟩:=EW (m:=m) h;refine ⟨_,h1,by simp [J],fun j hj=>?_⟩
  cases j with
  | zero=>simp [List.getD]
  | succ j =>
   have:=h3 j (by omega)
   simp only [List.getD,List.getElem?_cons_succ] at this ⊢;rw [this]; congr 1; omega
def zO (H:aA) (ah:Nat) (yv:Value) (k:Src→Prop):Prop :=
 match yv with
 | .slice none 0 0=>k (.fl 0 fun _=>[])
 | .slice (some ⟨id,row,_⟩) m _=>gX H id fun b=>match Nat.beq b.ah ah with
  | true=>match b with
   | .flat _ n _ get=>row+m≤n∧k (.fl m fun j=>get (dR row j))
   | .aR _ _ rows=>sI rows row m fun L=>match CQ L with
    | true=>k (.fl m fun j=>L.getD j [])
    | false=>k (.ex L)
   | .cB _=>False
  | false=>False
 | _=>False
theorem Fi {H:aA} {ah:Nat} {yv:Value} {k:Src→Prop} (h:zO H ah yv k):∃ s,k s∧(s.kz=true→∀ r,r < s.m→∀ (ν:Nu) w,bU ν H w→∀ v∈s.get r,cW v=true) ∧
  ∀ (ν:Nu) (w:World) (r:Value),bU ν H w→au ν yv r→∃ oy cy L,r=.slice oy s.m cy∧(oy=none→s.m=0)∧CR ν ah s.get s.m L∧∀ a,oy=some a→∀ (j:Nat) u,L[j]?=some u→w.cell? (a.add j)=some u:=by
 unfold zO at h
 split at h
 ·refine ⟨_,h,fun _ r hr=>absurd hr (by simp [Src.m]),fun ν w r hH hr=>?_⟩
  have:=hr.p6;subst this;exact ⟨none,0,[],rfl,fun _=>rfl,CR.nil _ _ _,fun a ha=>by cases ha⟩
 ·rename_i id row sp m c;obtain ⟨b,hb,h⟩:=gK h
  split at h
  ·rename_i he;have he:b.ah=ah:=Nat.eq_of_beq_eq_true he
   -- a source whose rows are the block's
   have gen:∀ (s:Src),s.m=m→row+m≤b.n→(∀ j,j < m→s.get j=b.row (row+j))→∀ (ν:Nu) (w:World) (r:Value),bU ν H w→au ν (.slice (some ⟨id,row,sp⟩) m c) r →
     ∃ oy cy L,r=.slice oy s.m cy∧(oy=none→s.m=0)∧CR ν ah s.get s.m L∧∀ a,oy=some a→∀ (j:Nat) u,L[j]?=some u→w.cell? (a.add j)=some u:=by
    intro s hm hle bd ν w r hH hr;obtain ⟨l,hl,hB⟩:=hH.aJ id b hb;rcases hr.Cq with ⟨l',c',cP,_,_,rfl⟩ | ⟨kG,bb,rfl⟩
    ·rw [hl] at cP; cases cP;obtain ⟨L,h1,J⟩:=CR.G0 hB hle;rw [he] at h1;refine ⟨_,c',L,by rw [hm],(fun h=>by cases h),?_,(fun a ha=>by cases ha; exact J)⟩
     rw [hm];exact h1.congr bd
    ·refine ⟨some bb,0,[],by rw [hm,kG],(fun h=>by cases h),?_,fun a ha j u hu=>by simp at hu⟩
     rw [hm,kG];exact CR.nil _ _ _
   cases b with
   | flat o n e get =>
    obtain ⟨hle,h⟩:=h;have bd:∀ j,j < m→(Src.fl m fun j=>get (dR row j)).get j=(ai.flat o n e get).row (row+j):=fun j _=>by simp [Src.get,ai.row,ar]
    refine ⟨_,h,fun _ r hr ν w hH v hv=>?_,gen _ rfl hle bd⟩
    obtain ⟨l,hl,hB⟩:=hH.aJ id _ hb;have hr:r < m:=hr;rw [bd r hr] at hv;exact hB.plain rfl (row+r) (by simp only [ai.n]; omega) v hv
   | aR o e rows =>
    obtain ⟨L,h,⟨hlen,hle⟩,ld⟩:=yq h;have bd:∀ j,j < m→L.getD j []=(ai.aR o e rows).row (row+j):=fun j hj=>by
     have ak:j < L.length:=by omega
     have:=ld j _ (List.getElem?_eq_getElem ak);simp [ai.row,List.getD,this,List.getElem?_eq_getElem ak]
    split at h
    ·rename_i hs;refine ⟨_,h,fun _ r hr ν w hH v hv=>?_,gen _ rfl hle bd⟩
     have hr:r < m:=hr;have ak:r < L.length:=by omega
     have hv:v∈L.getD r []:=hv;simp only [List.getD,List.getElem?_eq_getElem ak,Option.getD_some] at hv;exact Lf hs _ (List.getElem_mem _) v hv
    ·exact ⟨_,h,fun h=>by simp [Src.kz] at h,gen _ hlen hle bd⟩
   | cB r=>exact h.elim
  ·exact h.elim
 ·exact h.elim
end Go.Ae
