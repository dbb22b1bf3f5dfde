import Derived.OrdersIn
import Derived.CallsIn
import Derived.ControlIn
import Derived.Below
import Derived.Laws.IdiomCopy
import Derived.Laws.AppendOwn
import Derived.Laws.NewBlocks
import Derived.Laws.BytesString
import Derived.Laws.MakeOwn
import Derived.Laws.IdiomStrings
import Derived.RangeFuncSeq
set_option linter.unusedVariables false
set_option linter.unusedSimpArgs false
namespace Go.Ae
open Go Go.RowKit
structure Loc where
 aL:Nat
 base:Nat
 ae:Nat
 cap:Nat
def Loc.at (l:Loc) (row bX:Nat):Addr:=⟨l.aL,l.base+row*l.ae+bX,none⟩
abbrev Nu:=Nat→Option Loc
def Nu.le (ν ak:Nu):Prop:=∀ id l,ν id=some l→ak id=some l
theorem Nu.le_refl (ν:Nu):ν.le ν:=fun _ _ h=>h
theorem Nu.le_trans {a b c:Nu} (h:a.le b) (k:b.le c):a.le c:=fun id l e=>k id l (h id l e)
def Nu.add (ν:Nu) (id:Nat) (l:Loc):Nu:=fun j=>if j=id then some l else ν j
theorem Nu.kd {ν:Nu} {id:Nat} {l:Loc} (h:ν id=none):ν.le (ν.add id l):=by
 intro j k hj;by_cases e:j=id
 ·subst e; rw [h] at hj; cases hj
 ·simp [Nu.add,e,hj]
theorem Nu.add_same {ν:Nu} {id:Nat} {l:Loc}:ν.add id l id=some l:=by simp [Nu.add]
theorem Nu.iV {ν:Nu} {id j:Nat} {l:Loc} (h:j≠id):ν.add id l j=ν j:=by simp [Nu.add,h]
def cG:Value→Bool
 | .bool _ | .int _ _ | .string _=>true
 | _=>false
def aI:Nat:=9223372036854775808
inductive au (ν:Nu):Value→Value→Prop
 | bool (b:Bool):au ν (.bool b) (.bool b)
 | int (k:IntKind) (n:Int):au ν (.int k n) (.int k n)
 | str (s:ByteArray):au ν (.string s) (.string s)
 | mD:au ν (.pointer none) (.pointer none)
 | ptr (id row:Nat) (sp:Option Nat) (l:Loc) (h:ν id=some l):au ν (.pointer (some ⟨id,row,sp⟩)) (.pointer (some (l.at row (sp.getD 0))))
 | ju:au ν (.slice none 0 0) (.slice none 0 0)
 | slice (id row n c c':Nat) (l:Loc) (h:ν id=some l) (hc:c'=c∨c=aI) (hn:n≤c') (hr:row+c'≤l.cap) :
   au ν (.slice (some ⟨id,row,none⟩) n c) (.slice (some (l.at row 0)) n c')
 | void (id row c:Nat) (a:Addr) (hc:0=c∨c=aI):au ν (.slice (some ⟨id,row,none⟩) 0 c) (.slice (some a) 0 0)
 | l8 (id row m n c':Nat) (l:Loc) (h:ν id=some l) (hm:m≤c') (hn:n≤c') (hr:row+c'≤l.cap) :
   au ν (.slice (some ⟨id,row,some m⟩) n aI) (.slice (some (l.at row 0)) n c')
 | kS (id row:Nat) (a:Addr):au ν (.slice (some ⟨id,row,some 0⟩) 0 aI) (.slice (some a) 0 0)
 | mE:au ν .nilFunc .nilFunc
 | func (fn:Fn) (xs ys nw dj:List Value) (h1:xs.length=ys.length) (J:∀ (i:Nat) (x y:Value),xs[i]?=some x→ys[i]?=some y→au ν x y)
   (h3:nw.length=dj.length) (h4:∀ (i:Nat) (x y:Value),nw[i]?=some x→dj[i]?=some y→au ν x y) :
   au ν (.func fn ⟨xs⟩ ⟨nw⟩) (.func fn ⟨ys⟩ ⟨dj⟩)
 | agg (xs ys:List Value) (h1:xs.length=ys.length) (J:∀ (i:Nat) (x y:Value),xs[i]?=some x→ys[i]?=some y→au ν x y):au ν (.agg ⟨xs⟩) (.agg ⟨ys⟩)
 | tuple (xs ys:List Value) (h1:xs.length=ys.length) (J:∀ (i:Nat) (x y:Value),xs[i]?=some x→ys[i]?=some y→au ν x y):au ν (.tuple ⟨xs⟩) (.tuple ⟨ys⟩)
 | dead (w:Value) (h:w.oneCell'=true):au ν (.chan none) w
def bf (ν:Nu) (xs ys:List Value):Prop:=xs.length=ys.length∧∀ (i:Nat) (x y:Value),xs[i]?=some x→ys[i]?=some y→au ν x y
theorem au.mono {ν ak:Nu} (hle:ν.le ak) {v w:Value} (h:au ν v w):au ak v w:=by
 induction h with
 | bool b=>exact .bool b
 | int k n=>exact .int k n
 | str s=>exact .str s
 | mD=>exact .mD
 | ptr id row sp l h=>exact .ptr id row sp l (hle _ _ h)
 | ju=>exact .ju
 | slice id row n c c' l h hc hn hr=>exact .slice id row n c c' l (hle _ _ h) hc hn hr
 | void id row c a hc=>exact .void id row c a hc
 | l8 id row m n c' l h hm hn hr=>exact .l8 id row m n c' l (hle _ _ h) hm hn hr
 | kS id row a=>exact .kS id row a
 | mE=>exact .mE
 | func fn xs ys nw dj h1 _ h3 _ i2 i4=>exact .func fn xs ys nw dj h1 i2 h3 i4
 | agg xs ys h1 _ i2=>exact .agg xs ys h1 i2
 | tuple xs ys h1 _ i2=>exact .tuple xs ys h1 i2
 | dead w h=>exact .dead w h
theorem bf.mono {ν ak:Nu} (hle:ν.le ak) {xs ys:List Value} (h:bf ν xs ys):bf ak xs ys :=
 ⟨h.1,fun i x y hx hy=>(h.2 i x y hx hy).mono hle⟩
theorem bf.nil (ν:Nu):bf ν [] []:=⟨rfl,fun i x y hx _=>by simp at hx⟩
theorem bf.cons {ν:Nu} {x y:Value} {xs ys:List Value} (h:au ν x y) (hs:bf ν xs ys):bf ν (x::xs) (y::ys):=by
 refine ⟨by simp [hs.1],fun i a b ha hb=>?_⟩
 cases i with
 | zero=>simp at ha hb; subst ha; subst hb; exact h
 | succ i=>exact hs.2 i a b (by simpa using ha) (by simpa using hb)
theorem bf.head {ν:Nu} {x y:Value} {xs ys:List Value} (h:bf ν (x::xs) (y::ys)):au ν x y:=h.2 0 x y rfl rfl
theorem bf.tail {ν:Nu} {x y:Value} {xs ys:List Value} (h:bf ν (x::xs) (y::ys)):bf ν xs ys :=
 ⟨by have:=h.1; simpa using this,fun i a b ha hb=>h.2 (i+1) a b (by simpa using ha) (by simpa using hb)⟩
theorem bf.jm {ν:Nu} {x:Value} {xs zs:List Value} (h:bf ν (x::xs) zs):∃ y ys,zs=y::ys∧au ν x y∧bf ν xs ys:=by
 cases zs with
 | nil=>simp [bf] at h
 | cons y ys=>exact ⟨y,ys,rfl,h.head,h.tail⟩
theorem bf.iU {ν:Nu} {zs:List Value} (h:bf ν [] zs):zs=[]:=by
 cases zs with
 | nil=>rfl
 | cons y ys=>simp [bf] at h
theorem bf.append {ν:Nu} {a b c d:List Value} (h:bf ν a b) (k:bf ν c d):bf ν (a++c) (b++d):=by
 induction a generalizing b with
 | nil=>rw [bf.iU h]; exact k
 | cons x xs ih=>obtain ⟨y,ys,rfl,h1,J⟩:=h.jm; exact .cons h1 (ih J)
theorem bf.get {ν:Nu} {xs ys:List Value} (h:bf ν xs ys) {i:Nat} {x:Value} (hx:xs[i]?=some x):∃ y,ys[i]?=some y∧au ν x y:=by
 have hi:i < xs.length:=(List.getElem?_eq_some_iff.1 hx).1;refine ⟨ys[i]'(h.1 ▸ hi),List.getElem?_eq_getElem _,h.2 i _ _ hx (List.getElem?_eq_getElem _)⟩
theorem bf.set {ν:Nu} {xs ys:List Value} (h:bf ν xs ys) {v w:Value} (hv:au ν v w) (i:Nat):bf ν (xs.set i v) (ys.set i w):=by
 refine ⟨by simp [h.1],fun j x y hx hy=>?_⟩
 rw [List.getElem?_set] at hx hy;by_cases e:i=j
 ·subst e;rw [if_pos rfl] at hx hy
  split at hx
  ·split at hy
   ·cases hx; cases hy; exact hv
   ·cases hy
  ·cases hx
 ·rw [if_neg e] at hx hy;exact h.2 j x y hx hy
theorem au.kJ {ν:Nu} {v w:Value} (h:cG v=true) (hr:au ν v w):w=v:=by
 cases hr <;> simp_all [cG]
theorem au.kH {ν:Nu} {v:Value} (h:cG v=true):au ν v v:=by
 cases v <;> simp [cG] at h <;> constructor
theorem au.uO {ν:Nu} {xs:List Value} {r:Value} (h:au ν (.agg ⟨xs⟩) r):∃ ys,r=.agg ⟨ys⟩∧bf ν xs ys:=by
 cases h with | agg _ ys h1 J=>exact ⟨ys,rfl,h1,J⟩
theorem au.nR {ν:Nu} {xs:List Value} {r:Value} (h:au ν (.tuple ⟨xs⟩) r):∃ ys,r=.tuple ⟨ys⟩∧bf ν xs ys:=by
 cases h with | tuple _ ys h1 J=>exact ⟨ys,rfl,h1,J⟩
theorem au.undef (ν:Nu):au ν undef undef:=.tuple [] [] rfl (fun i x y hx _=>by simp at hx)
theorem au.CA {ν:Nu} {v w:Value} (h:au ν v w):w.oneCell'=v.oneCell':=by cases h <;> first | rfl | assumption
theorem au.cells {ν:Nu} {v w:Value} (h:au ν v w):bf ν v.cells.toList w.cells.toList:=by
 cases h with
 | agg xs ys h1 J=>exact ⟨h1,J⟩
 | bool b=>exact .cons (.bool b) (.nil ν)
 | int k n=>exact .cons (.int k n) (.nil ν)
 | str s=>exact .cons (.str s) (.nil ν)
 | mD=>exact .cons .mD (.nil ν)
 | ptr id row sp l h=>exact .cons (.ptr id row sp l h) (.nil ν)
 | ju=>exact .cons .ju (.nil ν)
 | slice id row n c c' l h hc hn hr=>exact .cons (.slice id row n c c' l h hc hn hr) (.nil ν)
 | void id row c a hc=>exact .cons (.void id row c a hc) (.nil ν)
 | l8 id row m n c' l h hm hn hr=>exact .cons (.l8 id row m n c' l h hm hn hr) (.nil ν)
 | kS id row a=>exact .cons (.kS id row a) (.nil ν)
 | mE=>exact .cons .mE (.nil ν)
 | func fn xs ys nw dj h1 J h3 h4=>exact .cons (.func fn xs ys nw dj h1 J h3 h4) (.nil ν)
 | tuple xs ys h1 J=>exact .cons (.tuple xs ys h1 J) (.nil ν)
 | dead w h=>
  have e:w.cells=#[w]:=by cases w <;> first | rfl | simp [Value.oneCell'] at h
  rw [e]; exact .cons (.dead w h) (.nil ν)
inductive ai where
 | aP (own:Bool) (ae:Nat) (rows:List (List Value))
 | flat (own:Bool) (n ae:Nat) (get:Nat→List Value)
 | b6 (r:Loop)
def ai.own:ai→Bool
 | .aP o _ _ | .flat o _ _ _=>o
 | .b6 _=>true
def ai.ae:ai→Nat
 | .aP _ e _ | .flat _ _ e _=>e
 | .b6 _=>0
def ai.n:ai→Nat
 | .aP _ _ rows=>rows.length
 | .flat _ n _ _=>n
 | .b6 _=>0
def ai.row:ai→Nat→List Value
 | .aP _ _ rows=>fun r=>rows.getD r []
 | .flat _ _ _ get=>get
 | .b6 _=>fun _=>[]
def ai.jM:ai→Bool
 | .aP ..=>false
 | .flat ..=>true
 | .b6 _=>false
def ai.n7:ai→Bool
 | .aP o _ _ | .flat o _ _ _=>o
 | .b6 _=>false
def ai.rc:ai→Option Loop
 | .b6 r=>some r
 | _=>none
abbrev ay:=List (Option ai)
theorem ai.cZ {b:ai} (h:b.n7=true):b.own=true∧b.rc=none:=by
 cases b with
 | aP o e r=>exact ⟨h,rfl⟩
 | flat o n e g=>exact ⟨h,rfl⟩
 | b6 r=>cases h
structure bP (ν:Nu) (l:Loc) (b:ai) (w:World):Prop where
 ae:l.ae=b.ae
 len:∀ r,r < b.n→(b.row r).length=b.ae
 cell:∀ r,r < b.n→∀ j v,(b.row r)[j]?=some v→∃ v',w.cell? (l.at r j)=some v'∧au ν v v'
 plain:b.jM=true→∀ r,r < b.n→∀ v∈b.row r,cG v=true
 one:∀ r,r < b.n→∀ v∈b.row r,v.oneCell'=true
 own:b.own=true→b.rc=none→∃ cur t,w.heap[l.aL]?=some (.cells cur t (0,0))∧l.base+l.cap*l.ae≤cur.size∧b.n≤l.cap
 lr:∀ r,b.rc=some r→w.heap[l.aL]?=some (.loop r)
 live:l.aL < w.heap.size
structure bU (ν:Nu) (H:ay) (w:World):Prop where
 aL:∀ id b,H[id]?=some (some b)→∃ l,ν id=some l∧bP ν l b w
 sep:∀ i j bi bj li lj,H[i]?=some (some bi)→H[j]?=some (some bj)→i≠j→bi.own=true→ν i=some li→ν j=some lj→li.aL≠lj.aL
theorem TH {w w':World} (h:Below w.heap.size w w') {a:Addr} {v:Value} (hc:w.cell? a=some v):w'.cell? a=some v :=
 (World.cell?_of_block (h.block _ (World.block_lt_of_cell? w a hc))).trans hc
theorem bP.below {ν:Nu} {l:Loc} {b:ai} {w w':World} (h:bP ν l b w) (hb:Below w.heap.size w w'):bP ν l b w' :=
 ⟨h.ae,h.len,fun r hr j v hv=>let ⟨v',hc,jx⟩:=h.cell r hr j v hv; ⟨v',TH hb hc,jx⟩,h.plain,h.one,
   fun ho hc=>let ⟨cur,t,h1,J⟩:=h.own ho hc; ⟨cur,t,by rw [hb.block _ h.live]; exact h1,J⟩,fun r hr=>(hb.block _ h.live).trans (h.lr r hr),Nat.lt_of_lt_of_le h.live hb.size⟩
theorem bP.same {ν:Nu} {l:Loc} {b:ai} {w w':World} (h:bP ν l b w) (he:w'.heap[l.aL]?=w.heap[l.aL]?) (hs:w.heap.size≤w'.heap.size):bP ν l b w' :=
 ⟨h.ae,h.len,fun r hr j v hv=>let ⟨v',hc,jx⟩:=h.cell r hr j v hv; ⟨v',by rw [World.cell?_of_block (a:=l.at r j) he]; exact hc,jx⟩,h.plain,h.one,
   fun ho hc=>let ⟨cur,t,h1,J⟩:=h.own ho hc; ⟨cur,t,by rw [he]; exact h1,J⟩,fun r hr=>he.trans (h.lr r hr),Nat.lt_of_lt_of_le h.live hs⟩
theorem bP.mono {ν ak:Nu} (hle:ν.le ak) {l:Loc} {b:ai} {w:World} (h:bP ν l b w):bP ak l b w :=
 ⟨h.ae,h.len,fun r hr j v hv=>let ⟨v',hc,jx⟩:=h.cell r hr j v hv; ⟨v',hc,jx.mono hle⟩,h.plain,h.one,h.own,h.lr,h.live⟩
theorem bU.below {ν:Nu} {H:ay} {w w':World} (h:bU ν H w) (hb:Below w.heap.size w w'):bU ν H w' :=
 ⟨fun id b hi=>let ⟨l,h1,J⟩:=h.aL id b hi; ⟨l,h1,J.below hb⟩,h.sep⟩
theorem bU.mono {ν ak:Nu} (hle:ν.le ak) {H:ay} {w:World} (h:bU ν H w):bU ak H w :=
 ⟨fun id b hi=>let ⟨l,h1,J⟩:=h.aL id b hi; ⟨l,hle _ _ h1,J.mono hle⟩,
   fun i j bi bj li lj hi hj aD ho h1 J=>by
  obtain ⟨l1,e1,_⟩:=h.aL i bi hi;obtain ⟨l2,e2,_⟩:=h.aL j bj hj;have:=hle _ _ e1; rw [h1] at this; cases this;have:=hle _ _ e2; rw [J] at this; cases this;exact h.sep i j bi bj _ _ hi hj aD ho e1 e2⟩
def ay.le (H G:ay):Prop:=∀ (id:Nat) (b:ai),H[id]?=some (some b)→G[id]?=some (some b)
theorem bU.sN {ν:Nu} {H G:ay} {w:World} (h:bU ν G w) (hle:ay.le H G):bU ν H w :=
 ⟨fun id b hi=>h.aL id b (hle id b hi),fun i j bi bj li lj hi hj=>h.sep i j bi bj li lj (hle i bi hi) (hle j bj hj)⟩
theorem bU.push {ν:Nu} {H:ay} {w w':World} (h:bU ν H w) (hb:Below w.heap.size w w') {id:Nat} (hn:ν id=none) {l:Loc} {b:ai} (G:ay)
  (hG:∀ j c,G[j]?=some (some c)→(j=id∧c=b)∨(j≠id∧H[j]?=some (some c))) (hl:w.heap.size≤l.aL)
  (hB:bP (ν.add id l) l b w'):bU (ν.add id l) G w':=by
 have hle:ν.le (ν.add id l):=Nu.kd hn;have h':=(h.mono hle).below hb;refine ⟨fun j c hj=>?_,fun i j bi bj li lj hi hj aD ho h1 J=>?_⟩
 ·rcases hG j c hj with ⟨rfl,rfl⟩ | ⟨_,gl⟩
  ·exact ⟨l,Nu.add_same,hB⟩
  ·exact h'.aL j c gl
 ·rcases hG i bi hi with ⟨rfl,rfl⟩ | ⟨_,aQ⟩ <;> rcases hG j bj hj with ⟨rfl,rfl⟩ | ⟨_,gl⟩
  ·exact absurd rfl aD
  ·obtain ⟨l2,e2,dM⟩:=h.aL j bj gl;have:=hle _ _ e2; rw [J] at this; cases this;rw [Nu.add_same] at h1; cases h1;have:=dM.live;omega
  ·obtain ⟨l2,e2,dM⟩:=h.aL i bi aQ;have:=hle _ _ e2; rw [h1] at this; cases this;rw [Nu.add_same] at J; cases J;have:=dM.live;omega
  ·exact h'.sep i j bi bj li lj aQ gl aD ho h1 J
def qY:List Value→Nat→(Value→Prop)→Prop
 | [],_,_=>False
 | v::_,0,k=>k v
 | _::l,n+1,k=>qY l n k
def yd:List Value→Nat→Value→(List Value→Prop)→Prop
 | [],_,_,_=>False
 | _::l,0,v,k=>k (v::l)
 | x::l,n+1,v,k=>yd l n v fun l'=>k (x::l')
theorem oU:∀ {l:List Value} {n:Nat} {k:Value→Prop},qY l n k→∃ v,l[n]?=some v∧k v
 | [],_,_,h=>h.elim
 | v::_,0,_,h=>⟨v,rfl,h⟩
 | _::l,n+1,k,h=>by obtain ⟨v,h1,J⟩:=oU (l:=l) h; exact ⟨v,by simpa using h1,J⟩
theorem oV:∀ {l:List Value} {n:Nat} {v:Value} {k:List Value→Prop},yd l n v k→n < l.length∧k (l.set n v)
 | [],_,_,_,h=>h.elim
 | _::l,0,v,k,h=>⟨by simp,h⟩
 | x::l,n+1,v,k,h=>by
  obtain ⟨h1,J⟩:=oV (l:=l) h;exact ⟨by simpa using h1,by simpa using J⟩
def Hn (v:Value) (k:Value→Prop):Prop :=
 match v with
 | .bool b=>k (.bool b)
 | .int q n=>k (.int q n)
 | .string s=>k (.string s)
 | .pointer none=>k (.pointer none)
 | .slice none 0 0=>k (.slice none 0 0)
 | .nilFunc=>k .nilFunc
 | _=>False
theorem K7 {v:Value} {k:Value→Prop} (h:Hn v k):k v∧∀ ν,au ν v v:=by
 unfold Hn at h
 split at h
 ·exact ⟨h,fun ν=>.bool _⟩
 ·exact ⟨h,fun ν=>.int _ _⟩
 ·exact ⟨h,fun ν=>.str _⟩
 ·exact ⟨h,fun ν=>.mD⟩
 ·exact ⟨h,fun ν=>.ju⟩
 ·exact ⟨h,fun ν=>.mE⟩
 ·exact h.elim
def bS (tmps:List Value) (x:Operand) (k:Value→Prop):Prop :=
 match x with
 | .tmp t=>qY tmps t k
 | .const v=>Hn v k
 | .func f=>k (.func (.func f) #[] #[])
 | .global _=>False
def fm (ν:Nu) (tmps:List Value) (a:Act) (x:Operand):Prop :=
 ∀ t,x=.tmp t→∀ v,tmps[t]?=some v→∃ v',a.tmps[t]?=some v'∧au ν v v'
theorem kG {tmps:List Value} {x:Operand} {k:Value→Prop} (h:bS tmps x k) {ν:Nu} {a:Act} (ha:fm ν tmps a x) :
  ∃ v,k v∧au ν v (a.eval x):=by
 cases x with
 | tmp t =>
  obtain ⟨v,h1,J⟩:=oU h;obtain ⟨v',h3,h4⟩:=ha t rfl v h1;exact ⟨v,J,by simpa [Act.eval,h3] using h4⟩
 | const v=>obtain ⟨h1,J⟩:=K7 h; exact ⟨v,h1,J ν⟩
 | func f=>exact ⟨_,h,.func _ [] [] [] [] rfl (fun i x y hx _=>by simp at hx) rfl (fun i x y hx _=>by simp at hx)⟩
 | global g=>exact h.elim
theorem cN {tmps:List Value} {x:Operand} {k:Value→Prop} (h:bS tmps x k) :
  ∃ v,k v∧∀ (ν:Nu) (a:Act),fm ν tmps a x→au ν v (a.eval x):=by
 cases x with
 | tmp t =>
  obtain ⟨v,h1,J⟩:=oU h;refine ⟨v,J,fun ν a ha=>?_⟩
  obtain ⟨v',h3,h4⟩:=ha t rfl v h1
  simpa [Act.eval,h3] using h4
 | const v=>obtain ⟨h1,J⟩:=K7 h; exact ⟨v,h1,fun ν a _=>J ν⟩
 | func f=>exact ⟨_,h,fun ν a _=>.func _ [] [] [] [] rfl (fun i x y hx _=>by simp at hx) rfl (fun i x y hx _=>by simp at hx)⟩
 | global g=>exact h.elim
def qD (tmps:List Value):List Operand→(List Value→Prop)→Prop
 | [],k=>k []
 | x::xs,k=>bS tmps x fun v=>qD tmps xs fun vs=>k (v::vs)
theorem Fh {tmps:List Value} {ν:Nu} {a:Act}:∀ {xs:List Operand} {k:List Value→Prop},qD tmps xs k→(∀ x∈xs,fm ν tmps a x) →
  ∃ vs,k vs∧bf ν vs (xs.map a.eval)
 | [],k,h,_=>⟨[],h,.nil ν⟩
 | x::xs,k,h,ha=>by
  obtain ⟨v,h1,J⟩:=kG h (ha x (by simp))
  obtain ⟨vs,h3,h4⟩:=Fh h1 (fun y hy=>ha y (by simp [hy]))
  exact ⟨v::vs,h3,.cons J h4⟩
theorem BP {tmps:List Value}:∀ {xs:List Operand} {k:List Value→Prop},qD tmps xs k →
  ∃ vs,k vs∧∀ (ν:Nu) (a:Act),(∀ x∈xs,fm ν tmps a x)→bf ν vs (xs.map a.eval)
 | [],k,h=>⟨[],h,fun ν a _=>.nil ν⟩
 | x::xs,k,h=>by
  obtain ⟨v,h1,J⟩:=cN h;obtain ⟨vs,h3,h4⟩:=BP h1;exact ⟨v::vs,h3,fun ν a ha=>.cons (J ν a (ha x (by simp))) (h4 ν a (fun y hy=>ha y (by simp [hy])))⟩
def uY:List Value→Nat→Nat→(List Value→Prop)→Prop
 | _,0,0,k=>k []
 | [],0,_+1,_=>False
 | v::l,0,n+1,k=>uY l 0 n fun vs=>k (v::vs)
 | [],_+1,_,_=>False
 | _::l,o+1,n,k=>uY l o n k
theorem yN:∀ {l:List Value} {o n:Nat} {k:List Value→Prop},uY l o n k→∃ vs,k vs∧vs.length=n∧∀ j v,vs[j]?=some v→l[o+j]?=some v
 | l,0,0,k,h=>⟨[],by cases l <;> exact h,rfl,fun j v hv=>by simp at hv⟩
 | [],0,_+1,_,h=>h.elim
 | v::l,0,n+1,k,h=>by
  obtain ⟨vs,h1,J,h3⟩:=yN (l:=l) h;refine ⟨v::vs,h1,by simp [J],fun j u hu=>?_⟩
  cases j with
  | zero=>simpa using hu
  | succ j=>have:=h3 j u (by simpa using hu); simpa using this
 | [],o+1,n,k,h=>by cases n <;> exact h.elim
 | x::l,o+1,n,k,h=>by
  have h':uY l o n k:=by cases n <;> exact h
  obtain ⟨vs,h1,J,h3⟩:=yN (l:=l) h';exact ⟨vs,h1,J,fun j v hv=>by have:=h3 j v hv; rwa [show o+1+j=(o+j)+1 by omega,List.getElem?_cons_succ]⟩
def vt:List Value→Nat→List Value→(List Value→Prop)→Prop
 | l,0,[],k=>k l
 | [],0,_::_,_=>False
 | _::l,0,v::vs,k=>vt l 0 vs fun l'=>k (v::l')
 | [],_+1,_,_=>False
 | x::l,o+1,vs,k=>vt l o vs fun l'=>k (x::l')
theorem yU:∀ {l:List Value} {o:Nat} {vs:List Value} {k:List Value→Prop},vt l o vs k →
  ∃ l',k l'∧l'.length=l.length∧o+vs.length≤l.length∧(∀ j v,vs[j]?=some v→l'[o+j]?=some v)∧∀ j,(j < o∨o+vs.length≤j)→l'[j]?=l[j]?
 | l,0,[],k,h=>⟨l,by cases l <;> exact h,rfl,by simp,fun j v hv=>by simp at hv,fun _ _=>rfl⟩
 | [],0,_::_,_,h=>h.elim
 | x::l,0,v::vs,k,h=>by
  obtain ⟨l',h1,J,h3,h4,h5⟩:=yU (l:=l) h;refine ⟨v::l',h1,by simp [J],by simp at h3 ⊢; omega,fun j u hu=>?_,fun j hj=>?_⟩
  ·cases j with
   | zero=>simpa using hu
   | succ j=>have:=h4 j u (by simpa using hu); simpa using this
  ·cases j with
   | zero=>simp at hj
   | succ j=>have:=h5 j (by simp at hj ⊢; omega); simpa using this
 | [],o+1,vs,k,h=>by cases vs <;> exact h.elim
 | x::l,o+1,vs,k,h=>by
  have h':vt l o vs fun l'=>k (x::l'):=by cases vs <;> exact h
  obtain ⟨l',h1,J,h3,h4,h5⟩:=yU (l:=l) h';refine ⟨x::l',h1,by simp [J],by simp; omega,fun j u hu=>?_,fun j hj=>?_⟩
  ·have:=h4 j u hu; rwa [show o+1+j=(o+j)+1 by omega,List.getElem?_cons_succ]
  ·cases j with
   | zero=>simp
   | succ j=>have:=h5 j (by omega); simpa using this
def gK:ay→Nat→(ai→Prop)→Prop
 | [],_,_=>False
 | b::_,0,k=>match b with | some b=>k b | none=>False
 | _::H,n+1,k=>gK H n k
theorem gD:∀ {H:ay} {id:Nat} {k:ai→Prop},gK H id k→∃ b,H[id]?=some (some b)∧k b
 | [],_,_,h=>h.elim
 | some b::_,0,_,h=>⟨b,rfl,h⟩
 | none::_,0,_,h=>h.elim
 | _::H,n+1,k,h=>by obtain ⟨b,h1,J⟩:=gD (H:=H) h; exact ⟨b,by simpa using h1,J⟩
def jv:ay→Nat→Option ai→(ay→Prop)→Prop
 | [],_,_,_=>False
 | _::H,0,b,k=>k (b::H)
 | c::H,n+1,b,k=>jv H n b fun H'=>k (c::H')
theorem mq:∀ {H:ay} {id:Nat} {b:Option ai} {k:ay→Prop},jv H id b k→id < H.length∧k (H.set id b)
 | [],_,_,_,h=>h.elim
 | _::H,0,_,_,h=>⟨by simp,h⟩
 | c::H,n+1,b,k,h=>by obtain ⟨h1,J⟩:=mq (H:=H) h; exact ⟨by simpa using h1,by simpa using J⟩
def pr:ay→Option ai→(ay→Prop)→Prop
 | [],b,k=>k [b]
 | c::H,b,k=>pr H b fun H'=>k (c::H')
theorem yO:∀ {H:ay} {b:Option ai} {k:ay→Prop},pr H b k→k (H++[b])
 | [],_,_,h=>h
 | _::H,b,k,h=>yO (H:=H) h
def jw:ay→(Nat→Prop)→Prop
 | [],k=>k 0
 | _::H,k=>jw H fun n=>k (n+1)
theorem mr:∀ {H:ay} {k:Nat→Prop},jw H k→k H.length
 | [],_,h=>h
 | _::H,k,h=>mr (H:=H) h
def br (b:Bool) (x y:Prop):Prop:=match b with | true=>x | false=>y
theorem aM {b:Bool} {x y:Prop} (h1:b=true→x) (J:b=false→y):br b x y:=by cases b <;> simp_all [br]
theorem CB {b:Bool} {x y:Prop} (h:br b x y) (hb:b=true):x:=by subst hb; exact h
theorem Ch {b:Bool} {x y:Prop} (h:br b x y) (hb:b=false):y:=by subst hb; exact h
theorem mZ {b:Bool} {x y:Prop} (h:b=true) (hx:x):br b x y:=by subst h; exact hx
def ye (p:Prop) [Decidable p] (k:Prop):Prop:=br (decide p) k False
theorem BV {p:Prop} [Decidable p] {k:Prop} (h:ye p k):p∧k:=by
 unfold ye br at h
 split at h
 ·rename_i hp; exact ⟨of_decide_eq_true hp,h⟩
 ·exact h.elim
open Go Go.RowKit
inductive TK where
 | int (k:IntKind) | bool | str
 | struct (fs:List (Nat × Nat × Bool))      -- offset,size,is it a struct or an array
 | slice (e:TypeId)
 | array (n:Nat) (e:TypeId)
 | other
structure TI where
 size:Nat
 bytes:Nat
 kind:TK
 zero:List Value
def TI.agg (ti:TI):Bool:=match ti.kind with | .struct _ | .array _ _=>true | _=>false
abbrev TT:=TypeId→Option TI
def uP:TypeDesc→Bool
 | .struct _ | .array _ _=>true
 | _=>false
def zk (P:Program) (f:Field) (x:Nat × Nat × Bool):Prop :=
 f.offset=x.1∧0 < x.2.1∧(∃ i,P.info? f.type=some i∧i.size=x.2.1)∧∃ d,P.underlying f.type=some d∧uP d=x.2.2
def D8 (P:Program) (k:TK) (d:TypeDesc):Prop :=
 match k with
 | .int q=>d=.int q
 | .bool=>d=.bool
 | .str=>d=.string
 | .struct fs=>∃ fields,d=.struct fields∧fields.size=fs.length∧∀ (i:Nat) f x,fields[i]?=some f→fs[i]?=some x→zk P f x
 | .slice e=>d=.slice e
 | .array n e=>d=.array n e
 | .other=>uP d=false
structure aB (P:Program) (t:TypeId) (ti:TI):Prop where
 info:∃ i,P.info? t=some i∧i.size=ti.size∧i.bytes=ti.bytes∧∃ z,i.zero=some z∧z.cells=⟨ti.zero⟩
 under:∃ d,P.underlying t=some d∧D8 P ti.kind d
 self:∀ ν,bf ν ti.zero ti.zero
 len:ti.zero.length=ti.size
 one:∀ v∈ti.zero,v.oneCell'=true
 bit:0 < ti.size∧0 < ti.bytes
theorem aB.aeG {P:Program} {t:TypeId} {ti:TI} (h:aB P t ti):∃ d,P.underlying t=some d∧uP d=ti.agg:=by
 obtain ⟨d,h1,J⟩:=h.under;refine ⟨d,h1,?_⟩;unfold D8 at J;unfold TI.agg
 split at J <;> rename_i hk <;> rw [hk] <;> first | (subst J; rfl) | (obtain ⟨_,rfl,_⟩:=J; rfl) | (simpa using J)
theorem Mp {P:Program} {t:TypeId} {d:TypeDesc} (h:P.underlying t=some d) (w:World):(isAgg t).run P w=.ok (uP d) w:=by
 unfold isAgg underlying;simp [h];cases d <;> rfl
theorem gu {P:Program} {t:TypeId} {i:TypeInfo} (h:P.info? t=some i) (w:World):(sizeOf t).run P w=.ok i.size w:=by simp [sizeOf,typeInfo,h]
theorem wA {P:Program} {t:TypeId} {i:TypeInfo} {z:Value} (h:P.info? t=some i) (hz:i.zero=some z) (w:World):(zeroValue t).run P w=.ok z w:=by
 simp [zeroValue,typeInfo,h,hz]
theorem dG {P:Program} {t:TypeId} {d:TypeDesc} (h:P.underlying t=some d) (w:World):(underlying t).run P w=.ok d w:=by simp [underlying,h]
theorem KL {P:Program} {t:TypeId} {ti:TI} (h:aB P t ti) {w:World} {a:Addr} {cs:List Value} (hl:cs.length=ti.size)
  (hc:∀ j v,cs[j]?=some v→w.cell? (a.add j)=some v) :
  (loadVar t a).run P w=.ok (if ti.agg then .agg ⟨cs⟩ else cs.getD 0 undef) w:=by
 obtain ⟨d,h1,J⟩:=h.aeG;obtain ⟨i,hi,hs,_⟩:=h.info;unfold loadVar;simp only [Sem.run_bind,Mp h1,Result.andThen_ok,Sem.run_ite];rw [J]
 split
 ·simp only [Sem.run_bind,gu hi,Result.andThen_ok];rw [hs,← hl,run_loadCells_list w a cs hc]
  rfl
 ·have hp:=h.bit.1;cases cs with
  | nil=>simp at hl; omega
  | cons v r =>
   have:=hc 0 v rfl;simp only [Addr.add,if_true] at this;simp [run_load,this]
theorem We (b o j:Nat):(⟨b,o,none⟩:Addr).add j=⟨b,o+j,none⟩:=by unfold Addr.add; split <;> simp_all
theorem Loc.jN (l:Loc) (row bX j:Nat):(l.at row bX).add j=l.at row (bX+j):=by
 unfold Loc.at; rw [We]; congr 1; omega
open Go Go.RowKit
structure bC where
 ι:Type
 args:ι→List Value
 pre:ι→Prop
 val:ι→Value
structure cl where
 ι:Type
 args:ι→List Value
 ah:ι→List ai
 pre:ι→Prop
 val:ι→Value
 new:ι→Option ai
inductive uZ where
 | p (S:bC)
 | q (S:cl)
 | r (S:cl)
abbrev zN:=FuncId→Option uZ
def WF (r:Option Nat):Fence:={ Fence.wide with round:=r }
structure bg (P:Program) (f:FuncId) (S:bC):Prop where
 enters:∀ args w,(callFunc f args).run P w=.ok (.enter f args) w
 calls:∀ (i:S.ι),S.pre i→∀ (ν:Nu) (as:List Value) (w:World) (n:Nat),bf ν (S.args i) as →
  CallsIn Fence.wide n P f ⟨as⟩ w fun e w'=>∃ v',e=.returned v'∧au ν (S.val i) v'∧Below w.heap.size w w'
structure nc (ν ak:Nu) (aJ:Nat) (w w':World) (v v':Value) (nb:Option ai):Prop where
 le:ν.le ak
 only:∀ id,id≠aJ→ak id=ν id
 val:au ak v v'
 below:Below w.heap.size w w'
 Ay:nb=none→ak=ν
 g8:∀ b,nb=some b→∃ l,ak aJ=some l∧bP ak l b w'∧w.heap.size≤l.aL
structure di (P:Program) (f:FuncId) (S:cl):Prop where
 enters:∀ args w,(callFunc f args).run P w=.ok (.enter f args) w
 ro:∀ i b,b∈S.ah i→b.own=false
 fl:∀ i b,S.new i=some b→b.jM=true
 calls:∀ (i:S.ι),S.pre i→∀ (ν:Nu) (as:List Value) (w:World) (n:Nat),bf ν (S.args i) as→bU ν ((S.ah i).map some) w→(∀ id,(S.ah i).length≤id→ν id=none) →
  CallsIn Fence.wide n P f ⟨as⟩ w fun e w'=>∃ v' ak,e=.returned v'∧nc ν ak (S.ah i).length w w' (S.val i) v' (S.new i)
def DL (P:Program) (f:FuncId):uZ→Prop
 | .p S=>bg P f S
 | .q S=>di P f S
 | .r S=>di P f S
abbrev QK:=Value→Option ai→Prop
def qE (v:Value) (k:Value→Prop):Prop :=
 match v with
 | .bool b=>k (.bool b)
 | .int q n=>k (.int q n)
 | .string s=>k (.string s)
 | .agg cs=>k (.agg cs)
 | .tuple cs=>k (.tuple cs)
 | .pointer a=>k (.pointer a)
 | .slice a n c=>k (.slice a n c)
 | .func f a b=>k (.func f a b)
 | .nilFunc=>k .nilFunc
 | _=>False
theorem wB {v:Value} {k:Value→Prop} (h:qE v k):k v:=by
 unfold qE at h; split at h <;> first | exact h | exact h.elim
def qZ:List Value→List Value→(List Value→Prop)→Prop
 | [],l,k=>k l
 | x::xs,l,k=>qZ xs l fun r=>k (x::r)
theorem wO:∀ {xs l:List Value} {k:List Value→Prop},qZ xs l k→k (xs++l)
 | [],_,_,h=>h
 | _::xs,l,k,h=>wO (xs:=xs) h
def qm:List Value→Nat→Bool
 | [],0=>true
 | v::l,n+1=>v.oneCell' && qm l n
 | _,_=>false
theorem yH:∀ {l:List Value} {n:Nat},qm l n=true→l.length=n∧∀ v∈l,v.oneCell'=true
 | [],0,_=>⟨rfl,fun v hv=>by simp at hv⟩
 | v::l,n+1,h=>by
  simp only [qm,Bool.and_eq_true] at h;obtain ⟨h1,J⟩:=yH h.2;exact ⟨by simp [h1],fun u hu=>by
   rcases List.mem_cons.1 hu with e | e
   ·rw [e]; exact h.1
   ·exact J u e⟩
 | [],_+1,h=>by simp [qm] at h
 | _::_,0,h=>by simp [qm] at h
def xG (v:Value) (k:List Value→Prop):Prop :=
 match v with
 | .agg cs=>k cs.toList
 | .tuple _=>False
 | v=>k [v]
theorem Bz {v:Value} {k:List Value→Prop} (h:xG v k):k v.cells.toList:=by
 unfold xG at h
 split at h
 ·exact h
 ·exact h.elim
 ·rename_i h1 J;cases v <;> first | exact h | exact absurd rfl (h1 _)
def HP:List (List Value)→Nat→(List Value→Prop)→Prop
 | [],_,_=>False
 | r::_,0,k=>k r
 | _::rs,n+1,k=>HP rs n k
theorem Lt:∀ {rs:List (List Value)} {n:Nat} {k:List Value→Prop},HP rs n k→∃ r,rs[n]?=some r∧k r
 | [],_,_,h=>h.elim
 | r::_,0,_,h=>⟨r,rfl,h⟩
 | _::rs,n+1,k,h=>by obtain ⟨r,h1,J⟩:=Lt (rs:=rs) h; exact ⟨r,by simpa using h1,J⟩
def Is (b:ai) (row:Nat) (k:List Value→Prop):Prop :=
 match b with
 | .aP _ _ rows=>HP rows row k
 | .flat _ n _ get=>row < n∧k (get row)
 | .b6 _=>False
theorem Mq {b:ai} {row:Nat} {k:List Value→Prop} (h:Is b row k):row < b.n∧k (b.row row):=by
 cases b with
 | aP o e rows =>
  obtain ⟨r,h1,J⟩:=Lt h;exact ⟨(List.getElem?_eq_some_iff.1 h1).1,by simpa [ai.row,List.getD,h1] using J⟩
 | flat o n e get=>exact h
 | b6 r=>exact h.elim
def zt:List (Nat × Nat × Bool)→Nat→(Nat→Nat→Bool→Prop)→Prop
 | [],_,_=>False
 | (a,b,c)::_,0,k=>k a b c
 | _::l,n+1,k=>zt l n k
theorem BA:∀ {l:List (Nat × Nat × Bool)} {n:Nat} {k:Nat→Nat→Bool→Prop},zt l n k→∃ x,l[n]?=some x∧k x.1 x.2.1 x.2.2
 | [],_,_,h=>h.elim
 | x::_,0,_,h=>⟨x,rfl,h⟩
 | _::l,n+1,k,h=>by obtain ⟨r,h1,J⟩:=BA (l:=l) h; exact ⟨r,by simpa using h1,J⟩
def fe (a b:Nat):Nat:=match a with | 0=>b | a+1=>(a+1)+b
theorem aw (a b:Nat):fe a b=a+b:=by cases a <;> simp [fe]
def cJ (tt:TT) (t:TypeId) (k:TI→Prop):Prop:=match tt t with | some ti=>k ti | none=>False
theorem cO {tt:TT} {t:TypeId} {k:TI→Prop} (h:cJ tt t k):∃ ti,tt t=some ti∧k ti:=by
 unfold cJ at h; split at h
 ·exact ⟨_,by assumption,h⟩
 ·exact h.elim
def valOf (agg:Bool) (cs:List Value):Value:=match agg,cs with | true,cs=>.agg ⟨cs⟩ | false,v::_=>v | false,[]=>undef
def DM (agg:Bool) (cs:List Value) (k:Value→Prop):Prop :=
 match agg,cs with
 | true,cs=>k (.agg ⟨cs⟩)
 | false,v::_=>qE v k
 | false,[]=>k undef
def Jh (sp:Option Nat) (k:Nat→Prop):Prop:=match sp with | none=>k 0 | some c=>k c
theorem Nm {sp:Option Nat} {k:Nat→Prop} (h:Jh sp k):k (sp.getD 0):=by cases sp <;> exact h
def bW (s:ByteArray) (i:Nat):Nat:=(s.data.toList.getD i 0).toNat
def Dj (tmps:List Value) (x:Operand) (k:QK):Prop:=bS tmps x fun v=>k v none
def Qk (tmps:List Value) (x:Operand) (k:QK):Prop:=bS tmps x fun v=>match v with
 | .pointer (some _)=>k v none
 | _=>False
def PH (tmps:List Value) (c a b:Operand) (k:QK):Prop :=
 bS tmps c fun cv=>match cv with
  | .bool t=>bS tmps a fun av=>bS tmps b fun bv =>
   match av,bv with
   | .bool x,.bool y=>k (.bool (bif t then x else y)) none
   | av,bv=>br t (k av none) (k bv none)
  | _=>False
def m5:List Value→List Value→Option (List Value)
 | [],l=>some l
 | .int q n::z,.int q' n'::l=>match decide (q=q') && decide (n=n') with | true=>m5 z l | false=>none
 | .bool b::z,.bool b'::l=>match b == b' with | true=>m5 z l | false=>none
 | .string s::z,.string s'::l=>match Nat.beq s.size 0 && Nat.beq s'.size 0 with | true=>m5 z l | false=>none
 | _,_=>none
def zO (z:List Value):Nat→List Value→Bool
 | 0,[]=>true
 | 0,_::_=>false
 | n+1,l=>match m5 z l with | some l'=>zO z n l' | none=>false
def O2 (tt:TT) (t:TypeId) (aJ:Nat) (k:QK):Prop :=
 cJ tt t fun ti=>match ti.kind with
  | .array n e=>cJ tt e fun te=>match Nat.beq te.size 1 && zO te.zero n ti.zero with
   | true=>k (.pointer (some ⟨aJ,0,none⟩)) (some (.flat true n te.size fun _=>te.zero))
   | false=>k (.pointer (some ⟨aJ,0,none⟩)) (some (.aP true ti.size [ti.zero]))
  | _=>k (.pointer (some ⟨aJ,0,none⟩)) (some (.aP true ti.size [ti.zero]))
def Ql (tt:TT) (tmps:List Value) (t:TypeId) (x:Operand) (aJ:Nat) (k:QK):Prop :=
 cJ tt t fun ti=>bS tmps x fun v=>xG v fun cs=>match qm cs ti.size with
  | true=>k (.pointer (some ⟨aJ,0,none⟩)) (some (.aP true ti.size [cs]))
  | false=>False
def HQ (tt:TT) (tmps:List Value) (H:ay) (t:TypeId) (a:Operand) (k:QK):Prop :=
 bS tmps a fun av=>match av with
  | .pointer (some ⟨id,row,sp⟩)=>cJ tt t fun ti=>gK H id fun b=>Is b row fun cs=>Jh sp fun c=>uY cs c ti.size fun vs=>DM ti.agg vs fun v=>k v none
  | _=>False
def Lu (tt:TT) (tmps:List Value) (t:TypeId) (x:Operand) (f:Nat) (k:QK):Prop :=
 bS tmps x fun av=>match av with
  | .pointer (some ⟨id,row,sp⟩)=>cJ tt t fun ti=>match ti.kind with
   | .struct fs=>zt fs f fun off _ _=>Jh sp fun c=>k (.pointer (some ⟨id,row,some (c+off)⟩)) none
   | _=>False
  | _=>False
def O3 (tt:TT) (tmps:List Value) (t:TypeId) (x:Operand) (f:Nat) (k:QK):Prop :=
 bS tmps x fun av=>match av with
  | .agg cs=>cJ tt t fun ti=>match ti.kind with
   | .struct fs=>zt fs f fun off sz ag=>uY cs.toList off sz fun vs=>DM ag vs fun v=>k v none
   | _=>False
  | _=>False
def Fs (tt:TT) (tmps:List Value) (H:ay) (t:TypeId) (x ix:Operand) (k:QK):Prop :=
 bS tmps x fun xv=>bS tmps ix fun iv=>match iv with
  | .int _ i=>cJ tt t fun ti=>match ti.kind with
   | .slice e=>match xv with
    | .slice (some ⟨id,row,none⟩) n _=>cJ tt e fun te=>gK H id fun b =>
     (0≤i∧i < (n:Int))∧match Nat.beq b.ae te.size with
      | true=>k (.pointer (some ⟨id,fe row i.toNat,none⟩)) none
      | false=>False
    | _=>False
   | .array n e=>match xv with
    | .pointer (some ⟨id,row,none⟩)=>cJ tt e fun te=>gK H id fun b=>(0≤i∧i < (n:Int))∧match Nat.beq b.ae te.size with
     | true=>k (.pointer (some ⟨id,fe row i.toNat,none⟩)) none
     | false=>k (.pointer (some ⟨id,row,some (0+i.toNat*te.size)⟩)) none
    | .pointer (some ⟨id,row,some c⟩)=>cJ tt e fun te=>(0≤i∧i < (n:Int))∧k (.pointer (some ⟨id,row,some (c+i.toNat*te.size)⟩)) none
    | _=>False
   | _=>False
  | _=>False
def O4 (tt:TT) (tmps:List Value) (t:TypeId) (x ix:Operand) (k:QK):Prop :=
 bS tmps x fun xv=>bS tmps ix fun iv=>match iv with
  | .int _ i=>cJ tt t fun ti=>match ti.kind with
   | .str=>match xv with
    | .string s=>(0≤i∧i < (s.size:Int))∧k (.int .u8 (bW s i.toNat)) none
    | _=>False
   | _=>False
  | _=>False
def Gh (tmps:List Value) (x:Operand) (ix:Nat) (k:QK):Prop :=
 bS tmps x fun xv=>match xv with
  | .tuple vs=>qY vs.toList ix fun v=>k v none
  | _=>False
def Mr (tmps:List Value) (fn:Fn) (first cap:List Operand) (k:QK):Prop :=
 qD tmps first fun a=>qD tmps cap fun b=>k (.func fn ⟨a⟩ ⟨b⟩) none
def Re (tmps:List Value) (op:UnOp) (x:Operand) (k:QK):Prop :=
 bS tmps x fun xv=>match op,xv with
  | .neg,.int q n=>k (.int q (q.wrap (0 - n))) none
  | .not,.bool b=>k (.bool !b) none
  | .xor,.int q n=>match Op.intBits .xor q (if q.signed then -1 else q.max) n with
   | .pure v=>qE v fun v=>match cG v with | true=>k v none | false=>False
   | _=>False
  | _,_=>False
def eL:List Value→List Value→Bool
 | [],[]=>true
 | .bool a::l,.bool b::m=>(a == b) && eL l m
 | .int _ a::l,.int _ b::m=>(a == b) && eL l m
 | .string a::l,.string b::m=>(a.toList == b.toList) && eL l m
 | _,_=>false
def fc:List Value→List Value→Bool
 | [],[]=>true
 | .bool _::l,.bool _::m=>fc l m
 | .int q _::l,.int q' _::m=>decide (q=q') && fc l m
 | .string _::l,.string _::m=>fc l m
 | _,_=>false
def yf (P:Program) (t:TypeId) (zero:List Value):Prop :=
 ∀ xs ys w,fc xs zero=true→fc ys zero=true→(Op.equal t (.agg ⟨xs⟩) (.agg ⟨ys⟩)).run P w=.ok (eL xs ys) w∧∀ x y op,(eqGuard op t x y (.agg ⟨xs⟩) (.agg ⟨ys⟩)).run P w=.ok () w
def PI (op:BinOp) (q:IntKind) (a b:Int) (k:QK):Prop :=
 match op with
 | .and | .or | .xor | .andNot=>match Op.intBits op q a b with
  | .pure v=>qE v fun v=>match cG v with | true=>k v none | false=>False
  | _=>False
 | _=>False
def CC (op:BinOp) (q q':IntKind) (a b:Int) (k:QK):Prop :=
 match op with
 | .shl=>ye (0≤b) <| k (.int q (q.wrap (a*2 ^ (min b.toNat q.bits)))) none
 | .shr=>ye (0≤b) <| k (.int q (a.fdiv (2 ^ (min b.toNat q.bits)))) none
 | op=>match decide (q=q') with
  | true=>match op with
   | .add=>k (.int q (q.wrap (a+b))) none
   | .sub=>k (.int q (q.wrap (a - b))) none
   | .mul=>k (.int q (q.wrap (a*b))) none
   | .quo=>ye (b≠0) <| k (.int q (q.wrap (a.tdiv b))) none
   | .rem=>ye (b≠0) <| k (.int q (a.tmod b)) none
   | .eql=>k (.bool (a == b)) none
   | .neq=>k (.bool (a != b)) none
   | .lss=>k (.bool (decide (a < b))) none
   | .leq=>k (.bool (decide (a≤b))) none
   | .gtr=>k (.bool (decide (a > b))) none
   | .geq=>k (.bool (decide (a ≥ b))) none
   | op=>PI op q a b k
  | false=>False
def Od (op:BinOp) (a b:ByteArray) (k:QK):Prop :=
 match op with
 | .add=>(a.size+b.size < 9223372036854775808)∧k (.string (a++b)) none
 | .eql=>k (.bool (a.toList == b.toList)) none
 | .neq=>k (.bool !(a.toList == b.toList)) none
 | .lss=>k (.bool (Op.bytesLess a.toList b.toList)) none
 | .gtr=>k (.bool !(Op.bytesLess a.toList b.toList || a.toList == b.toList)) none
 | _=>False
def Gi (tk:TK) (op:BinOp) (a b:Bool) (k:QK):Prop :=
 match tk,op with
 | .bool,.eql=>k (.bool (a == b)) none
 | .bool,.neq=>k (.bool !(a == b)) none
 | _,_=>False
def GM (eqs:List TypeId) (t:TypeId) (zero:List Value) (op:BinOp) (a b:List Value) (k:QK):Prop :=
 match eqs.contains t && fc a zero && fc b zero,op with
 | true,.eql=>k (.bool (eL a b)) none
 | true,.neq=>k (.bool !(eL a b)) none
 | _,_=>False
def GN (tk:TK) (op:BinOp) (a:Option Addr) (k:QK):Prop :=
 match tk,op,a with
 | .slice _,.eql,none=>k (.bool true) none
 | .slice _,.eql,some _=>k (.bool false) none
 | .slice _,.neq,none=>k (.bool false) none
 | .slice _,.neq,some _=>k (.bool true) none
 | _,_,_=>False
def DN (tt:TT) (eqs:List TypeId) (tmps:List Value) (op:BinOp) (t:TypeId) (x y:Operand) (k:QK):Prop :=
 bS tmps x fun xv=>bS tmps y fun yv=>match xv,yv with
  | .int q a,.int q' b=>CC op q q' a b k
  | .string a,.string b=>Od op a b k
  | .bool a,.bool b=>cJ tt t fun ti=>Gi ti.kind op a b k
  | .agg a,.agg b=>cJ tt t fun ti=>GM eqs t ti.zero op a.toList b.toList k
  | .slice a _ _,.slice none 0 0=>cJ tt t fun ti=>GN ti.kind op a k
  | _,_=>False
def bytesOf (get:Nat→List Value) (row n:Nat):List UInt8:=(List.range n).map fun r=>match get (row+r) with | .int _ x::_=>UInt8.ofNat x.toNat | _=>0
def Nn (tt:TT) (tmps:List Value) (H:ay) (src dst:TypeId) (x:Operand) (aJ:Nat) (k:QK):Prop :=
 bS tmps x fun xv=>cJ tt src fun ts=>cJ tt dst fun td=>match td.kind,xv with
  | .int q,.int _ n=>match ts.kind with
   | .int _=>k (.int q (q.wrap n)) none
   | _=>False
  | .str,.string s=>match ts.kind with
   | .str=>k (.string s) none
   | _=>False
  | .str,.slice (some ⟨id,row,none⟩) n _=>match ts.kind with
   | .slice e=>cJ tt e fun te=>match te.kind with
    | .int .u8=>match n with
     | 0=>k (.string ⟨#[]⟩) none
     | n+1=>gK H id fun b=>match b.ae with
      | 1=>(row+(n+1)≤b.n∧∀ r,r < n+1→∃ x,b.row (row+r)=[.int .u8 x])∧k (.string ⟨⟨bytesOf b.row row (n+1)⟩⟩) none
      | _=>False
    | _=>False
   | _=>False
  | .str,.slice none 0 0=>match ts.kind with
   | .slice e=>cJ tt e fun te=>match te.kind with
    | .int .u8=>k (.string ⟨#[]⟩) none
    | _=>False
   | _=>False
  | .slice e,.string s=>match ts.kind with
   | .str=>cJ tt e fun te=>match te.kind with
    | .int .u8=>k (.slice (some ⟨aJ,0,none⟩) s.size aI) (some (.flat false s.size 1 fun r=>[.int .u8 (bW s r)]))
    | _=>False
   | _=>False
  | _,_=>False
def Iu (tmps:List Value) (tt:TT) (t:TypeId) (x:Operand) (k:QK):Prop :=
 bS tmps x fun xv=>cJ tt t fun ti=>match ti.kind,xv with
  | .str,.string s=>k (.int .i64 s.size) none
  | .slice _,.slice _ n _=>k (.int .i64 n) none
  | _,_=>False
def Qm (tmps:List Value) (x y:Operand) (k:QK):Prop :=
 bS tmps x fun xv=>bS tmps y fun yv=>match xv,yv with
  | .int q a,.int _ b=>k (.int q (if b > a then b else a)) none
  | _,_=>False
def Qn (tmps:List Value) (x y:Operand) (k:QK):Prop :=
 bS tmps x fun xv=>bS tmps y fun yv=>match xv,yv with
  | .int q a,.int _ b=>k (.int q (if b < a then b else a)) none
  | _,_=>False
def Dk (tmps:List Value) (fs:List (Nat × Nat × Bool)):List (Nat × Operand)→List Value→(List Value→Prop)→Prop
 | [],cs,k=>k cs
 | p::ps,cs,k=>bS tmps p.2 fun v=>xG v fun vs=>zt fs p.1 fun off sz _=>match qm vs sz with
  | true=>vt cs off vs fun eU=>Dk tmps fs ps eU k
  | false=>False
def xS (sz:Nat):Nat→Nat→List (Nat × Nat × Bool)
 | _,0=>[]
 | off,n+1=>(off,sz,true)::xS sz (off+sz) n
def O5 (tt:TT) (tmps:List Value) (t:TypeId) (parts:List (Nat × Operand)) (k:QK):Prop :=
 cJ tt t fun ti=>match ti.kind with
  | .struct fs=>Dk tmps fs parts ti.zero fun cs=>k (.agg ⟨cs⟩) none
  | .array n e=>cJ tt e fun te=>Dk tmps (xS te.size 0 n) parts ti.zero fun cs=>k (.agg ⟨cs⟩) none
  | _=>False
def cR (τ:List Nat):Nat→Value→Option Value
 | 0,_=>none
 | k+1,v=>match v with
  | .bool b=>some (.bool b)
  | .int q n=>some (.int q n)
  | .string s=>some (.string s)
  | .pointer none=>some (.pointer none)
  | .pointer (some ⟨id,row,sp⟩)=>match τ[id]? with | some vJ=>some (.pointer (some ⟨vJ,row,sp⟩)) | none=>none
  | .slice none 0 0=>some (.slice none 0 0)
  | .slice (some ⟨id,row,none⟩) n c=>match τ[id]? with | some vJ=>some (.slice (some ⟨vJ,row,none⟩) n c) | none=>none
  | .nilFunc=>some .nilFunc
  | .agg ⟨l⟩=>match l.foldr (fun v acc=>match cR τ k v,acc with | some x,some xs=>some (x::xs) | _,_=>none) (some []) with | some l'=>some (.agg ⟨l'⟩) | none=>none
  | .tuple ⟨l⟩=>match l.foldr (fun v acc=>match cR τ k v,acc with | some x,some xs=>some (x::xs) | _,_=>none) (some []) with | some l'=>some (.tuple ⟨l'⟩) | none=>none
  | .func fn ⟨l⟩ ⟨m⟩=>match l.foldr (fun v acc=>match cR τ k v,acc with | some x,some xs=>some (x::xs) | _,_=>none) (some []),m.foldr (fun v acc=>match cR τ k v,acc with | some x,some xs=>some (x::xs) | _,_=>none) (some []) with
   | some l',some m'=>some (.func fn ⟨l'⟩ ⟨m'⟩) | _,_=>none
  | _=>none
def mF (τ:List Nat) (k:Nat) (l:List Value):Option (List Value):=l.foldr (fun v acc=>match cR τ k v,acc with | some x,some xs=>some (x::xs) | _,_=>none) (some [])
def mG:List Value→Bool
 | []=>true
 | v::l=>cG v && mG l
theorem dI:∀ {l:List Value},mG l=true→∀ v∈l,cG v=true
 | [],_,v,hv=>by simp at hv
 | v::l,h,u,hu=>by
  simp only [mG,Bool.and_eq_true] at h;rcases List.mem_cons.1 hu with e | e
  ·rw [e]; exact h.1
  ·exact dI h.2 u e
structure aH (b c:ai):Prop where
 own:b.own=true→c.n7=true∧c.n=b.n
 ae:c.ae=b.ae
 n:b.n≤c.n
 row:∀ r,r < b.n→b.row r=c.row r
 flat:∀ r,r < b.n→∀ v∈b.row r,cG v=true
theorem aH.aT {o o':Bool} {n e:Nat} {g:Nat→List Value} (h:o=true→o'=true) (hs:∀ r,r < n→mG (g r)=true):aH (.flat o n e g) (.flat o' n e g) :=
 ⟨fun ho=>⟨h ho,rfl⟩,rfl,Nat.le_refl _,fun _ _=>rfl,fun r hr v hv=>dI (hs r hr) v hv⟩
def zQ (H:ay):List Nat→List ai→Prop→Prop
 | [],[],k=>k
 | s::σ,b::bs,k=>match b with
  | .b6 _=>False
  | b=>gK H s fun c=>aH b c∧zQ H σ bs k
 | _,_,_=>False
def DO (σ:List Nat) (b c:ai):Prop:=aH b c∨∃ o e r r',b=.aP false e [r]∧c=.aP o e [r']∧mF σ 3 r=some r'
def CW (H:ay) (τ:List Nat):List Nat→List ai→Prop→Prop
 | [],[],k=>k
 | s::σ,b::bs,k=>match b with
  | .b6 _=>False
  | b=>gK H s fun c=>DO τ b c∧CW H τ σ bs k
 | _,_,_=>False
def HR (Φ:zN) (g:FuncId) (args:List Value) (H:ay) (aJ:Nat) (k:QK):Prop :=
 match Φ g with
 | some (.p S)=>∃ i:S.ι,S.args i=args∧S.pre i∧qE (S.val i) fun v=>k v none
 | some (.q S)=>∃ (i:S.ι) (σ:List Nat),mF σ 3 (S.args i)=some args∧S.pre i∧zQ H σ (S.ah i) (∃ v,cR (σ++[aJ]) 3 (S.val i)=some v∧qE v fun v=>k v (S.new i))
 | some (.r S)=>∃ (i:S.ι) (σ:List Nat),mF σ 3 (S.args i)=some args∧S.pre i∧CW H σ σ (S.ah i) (∃ v,cR (σ++[aJ]) 3 (S.val i)=some v∧qE v fun v=>k v (S.new i))
 | none=>False
def uQ (c l:Nat):Nat:=match decide (c=aI) with | true=>aI | false=>c - l
def setRow:List (List Value)→Nat→List Value→(List (List Value)→Prop)→Prop
 | [],_,_,_=>False
 | _::rs,0,r,k=>k (r::rs)
 | q::rs,n+1,r,k=>setRow rs n r fun bZ=>k (q::bZ)
def rowsOf (tmps:List Value) (sz:Nat):List (Nat × Operand)→List (List Value)→(List (List Value)→Prop)→Prop
 | [],rows,k=>k rows
 | p::ps,rows,k=>bS tmps p.2 fun v=>xG v fun cs=>match qm cs sz with
  | true=>setRow rows p.1 cs fun iX=>rowsOf tmps sz ps iX k
  | false=>False
def Iv (n:Nat) (r:List Value) (k:List (List Value)→Prop):Prop:=match n with
 | 0=>k []
 | n+1=>Iv n r fun l=>k (r::l)
def Ho (ae:Nat) (rows:List (List Value)) (k:ai→Prop):Prop :=
 match rows with
 | []=>k (.flat true 0 ae fun _=>[])
 | r::rs=>k (.aP true ae (r::rs))
def K8 (tt:TT) (tmps:List Value) (t:TypeId) (n:Nat) (ps:List (Nat × Operand)) (aJ:Nat) (k:QK):Prop :=
 cJ tt t fun ti=>match ti.kind with
  | .slice e=>cJ tt e fun te=>match Nat.ble (n*te.size) 16777216 with
   | true=>Iv n te.zero fun acZ=>rowsOf tmps te.size ps acZ fun rows=>Ho te.size rows fun b=>k (.slice (some ⟨aJ,0,none⟩) n n) (some b)
   | false=>False
  | _=>False
def Lv (tt:TT) (tmps:List Value) (t:TypeId) (x y:Operand) (aJ:Nat) (k:QK):Prop :=
 bS tmps x fun xv=>bS tmps y fun yv=>cJ tt t fun ti=>match ti.kind with
  | .slice e=>cJ tt e fun te=>match mG te.zero,xv,yv with
   | true,.int _ n,.int _ m=>(0≤n∧n≤m∧m*te.bytes≤140737488355328)∧k (.slice (some ⟨aJ,0,none⟩) n.toNat m.toNat) (some (.flat true n.toNat te.size fun _=>te.zero))
   | _,_,_=>False
  | _=>False
def lO (tmps:List Value) (x:Option Operand) (d:Int) (k:Int→Prop):Prop :=
 match x with
 | none=>k d
 | some x=>bS tmps x fun v=>match v with | .int _ n=>k n | _=>False
def Hp (tt:TT) (tmps:List Value) (H:ay) (t:TypeId) (x:Operand) (lo hi mx:Option Operand) (k:QK):Prop :=
 bS tmps x fun xv=>cJ tt t fun ti=>match ti.kind,xv with
  | .str,.string s=>match mx with
   | none=>lO tmps lo 0 fun l=>lO tmps hi s.size fun h=>(0≤l∧l≤h∧h≤s.size)∧k (.string (s.extract l.toNat h.toNat)) none
   | some _=>False
  | .slice e,.slice (some ⟨id,row,none⟩) n c=>cJ tt e fun te=>gK H id fun b=>match Nat.beq b.ae te.size with
   | true=>match hi,mx with
    | hi,none=>lO tmps lo 0 fun l=>lO tmps hi n fun h=>(0≤l∧l≤h∧h≤n)∧k (.slice (some ⟨id,fe row l.toNat,none⟩) (h.toNat - l.toNat) (uQ c l.toNat)) none
    | some h0,some m=>lO tmps lo 0 fun l=>bS tmps h0 fun hv=>bS tmps m fun mv=>match hv,mv with
     | .int _ h,.int _ m=>(0≤l∧l≤h∧h≤m∧m≤n)∧k (.slice (some ⟨id,fe row l.toNat,none⟩) (h.toNat - l.toNat) (m.toNat - l.toNat)) none
     | _,_=>False
    | none,some _=>False
   | false=>False
  | .slice e,.slice (some ⟨id,row,some b0⟩) n _=>cJ tt e fun te=>gK H id fun b=>match Nat.beq b.ae te.size with
   | true=>match hi,mx with
    | hi,none=>lO tmps lo 0 fun l=>lO tmps hi n fun h=>(0≤l∧l≤h∧h≤b0)∧k (.slice (some ⟨id,fe row l.toNat,some (b0 - l.toNat)⟩) (h.toNat - l.toNat) aI) none
    | some h0,some m=>lO tmps lo 0 fun l=>bS tmps h0 fun hv=>bS tmps m fun mv=>match hv,mv with
     | .int _ h,.int _ m=>(0≤l∧l≤h∧h≤m∧m≤b0)∧k (.slice (some ⟨id,fe row l.toNat,none⟩) (h.toNat - l.toNat) (m.toNat - l.toNat)) none
     | _,_=>False
    | none,some _=>False
   | false=>False
  | .array n e,.pointer (some ⟨id,row,none⟩)=>cJ tt e fun te=>gK H id fun b=>match Nat.beq b.ae te.size with
   | true=>match mx with
    | none=>lO tmps lo 0 fun l=>lO tmps hi n fun h=>(0≤l∧l≤h∧h≤n∧row+n≤b.n∧b.n7=true)∧k (.slice (some ⟨id,fe row l.toNat,none⟩) (h.toNat - l.toNat) (n - l.toNat)) none
    | some _=>False
   | false=>False
  | .slice e,.slice none 0 0=>cJ tt e fun _=>match hi,mx with
   | hi,none=>lO tmps lo 0 fun l=>lO tmps hi 0 fun h=>(0≤l∧l≤h∧h≤0)∧k (.slice none 0 0) none
   | some h0,some m=>lO tmps lo 0 fun l=>bS tmps h0 fun hv=>bS tmps m fun mv=>match hv,mv with
    | .int _ h,.int _ m=>(0≤l∧l≤h∧h≤m∧m≤0)∧k (.slice none 0 0) none
    | _,_=>False
   | none,some _=>False
  | _,_=>False
def Qo (tmps:List Value) (tt:TT) (t:TypeId) (x:Operand) (k:QK):Prop :=
 bS tmps x fun xv=>cJ tt t fun ti=>match ti.kind,xv with
  | .slice _,.slice none 0 0=>k (.int .i64 0) none
  | _,_=>False
def Ms (tt:TT) (tmps:List Value) (t u:TypeId) (x y:Operand) (aJ:Nat) (k:QK):Prop :=
 bS tmps x fun xv=>bS tmps y fun yv=>cJ tt t fun ti=>match ti.kind with
  | .slice e=>cJ tt e fun te=>cJ tt u fun tu=>match tu.kind,mG te.zero,xv,yv with
   | .int _,true,.slice none 0 0,.int .i64 n=>(0 < n∧n*te.bytes≤140737488355328)∧k (.slice (some ⟨aJ,0,none⟩) n.toNat aI) (some (.flat true n.toNat te.size fun _=>te.zero))
   | _,_,_,_=>False
  | _=>False
abbrev FT:=List Value→ay→(Value→ay→Prop)→Prop
structure Env where
 tt:TT
 eqs:List TypeId
 Φ:zN
 Ψ:FuncId→Option FT:=fun _=>none
 base:Nat:=0
 iy:Bool:=false
 ys:List (Nat × FT):=[]
 rd:Bool:=false
 nu:Nu:=fun _=>none
 It:FuncId→Option (Nat→FT→Nu→FT):=fun _=>none
def kZ (E:Env) (op:Op) (tmps:List Value) (H:ay) (aJ:Nat) (k:QK):Prop :=
 match op with
 | .move x | .assign x=>Dj tmps x k
 | .nilCheck x=>Qk tmps x k
 | .pick c a b=>PH tmps c a b k
 | .alloc t=>O2 E.tt t aJ k
 | .box t x=>Ql E.tt tmps t x aJ k
 | .build t ps=>O5 E.tt tmps t ps.toList k
 | .load t a=>HQ E.tt tmps H t a k
 | .buildSlice t n ps=>K8 E.tt tmps t n ps.toList aJ k
 | .makeSlice t x y=>Lv E.tt tmps t x y aJ k
 | .slice t x lo hi mx=>Hp E.tt tmps H t x lo hi mx k
 | .fieldAddr t x f=>Lu E.tt tmps t x f k
 | .field t x f=>O3 E.tt tmps t x f k
 | .indexAddr t x i=>Fs E.tt tmps H t x i k
 | .index t x i=>O4 E.tt tmps t x i k
 | .extract x i=>Gh tmps x i k
 | .makeFunc fn a b=>Mr tmps fn a.toList b.toList k
 | .unOp op _ x=>Re tmps op x k
 | .binOp op t x y _=>DN E.tt E.eqs tmps op t x y k
 | .convert s d x=>Nn E.tt tmps H s d x aJ k
 | .call c=>match c.callee with
  | .value f=>bS tmps f fun fv=>match fv with
   | .func (.func g) a b=>qD tmps c.args.toList fun vs=>qZ a.toList vs fun l=>qZ l b.toList fun args=>HR E.Φ g args H aJ k
   | _=>False
  | .builtin .len=>match c.args.toList,c.argTypes.toList with
   | [x],[t]=>Iu tmps E.tt t x k
   | _,_=>False
  | .builtin .max=>match c.args.toList with
   | [x,y]=>Qm tmps x y k
   | _=>False
  | .builtin .cap=>match c.args.toList,c.argTypes.toList with
   | [x],[t]=>Qo tmps E.tt t x k
   | _,_=>False
  | .builtin .append=>match c.args.toList,c.argTypes.toList with
   | [x,y],[t,u]=>Ms E.tt tmps t u x y aJ k
   | _,_=>False
  | .builtin .min=>match c.args.toList with
   | [x,y]=>Qn tmps x y k
   | _=>False
  | _=>False
 | _=>False
def eV (P:Program) (op:Op) (tmps:List Value) (H:ay) (aJ:Nat) (k:QK):Prop :=
 ∃ v nb,k v nb∧∀ (o:Oper) (ν:Nu) (a:Act) (w:World) (r:Option Nat) (n:Nat),o.op=op→(∀ x∈op.operands,fm ν tmps a x)→bU ν H w→ν aJ=none →
  ∀ next Q,(∀ v' w' ak,nc ν ak aJ w w' v v' nb→next (a.put o.dst v') w')→o.wpIn (WF r) n P a w next Q
def qL (P:Program) (bh:Nu) (op:Op) (tmps:List Value) (v:Value):Prop :=
 (∀ c,op≠.defer c)∧∀ (o:Oper) (ν:Nu) (a:Act) (w:World),bh.le ν→o.op=op→(∀ x∈op.operands,fm ν tmps a x)→∃ v',au ν v v'∧(execOp a.eval o).run P w=.ok (.value v') w
theorem jH {P:Program} {r:Option Nat} {n:Nat} {o:Oper} {a:Act} {w w':World} {v':Value} (hd:∀ c,o.op≠.defer c)
  (h:(execOp a.eval o).run P w=.ok (.value v') w') (next:Act→World→Prop) (Q:Exit→Act→World→Prop) (hn:next (a.put o.dst v') w') :
  o.wpIn (WF r) n P a w next Q:=by
 refine ⟨fun _ _=>trivial,?_⟩
 rw [Oper.semAt_eq _ _ _ hd,h];exact hn
def nZ (P:Program) (bh:Nu) (G:ay) (op:Op) (tmps:List Value) (v:Value):Prop :=
 (∀ c,op≠.defer c)∧∀ (o:Oper) (ν:Nu) (a:Act) (w:World),bh.le ν→o.op=op→(∀ x∈op.operands,fm ν tmps a x)→bU ν G w→∃ v',au ν v v'∧(execOp a.eval o).run P w=.ok (.value v') w
def s7 (P:Program) (op:Op) (tmps:List Value) (H:ay) (k:QK):Prop:=∃ v,k v none∧∀ bh,nZ P bh H op tmps v
theorem s7.value {P:Program} {op:Op} {tmps:List Value} {H:ay} {k:QK} (hd:∀ c,op≠.defer c) {v:Value} (hk:k v none)
  (h:∀ (o:Oper) (ν:Nu) (a:Act) (w:World),o.op=op→(∀ x∈op.operands,fm ν tmps a x)→bU ν H w→∃ v',au ν v v'∧(execOp a.eval o).run P w=.ok (.value v') w):s7 P op tmps H k :=
 ⟨v,hk,fun _=>⟨hd,fun o ν a w _ ho ha hH=>h o ν a w ho ha hH⟩⟩
theorem eV.value {P:Program} {op:Op} {tmps:List Value} {H:ay} {aJ:Nat} {k:QK} (hd:∀ c,op≠.defer c) {v:Value} (hk:k v none)
  (h:∀ (o:Oper) (ν:Nu) (a:Act) (w:World),o.op=op→(∀ x∈op.operands,fm ν tmps a x)→bU ν H w→∃ v',au ν v v'∧(execOp a.eval o).run P w=.ok (.value v') w):eV P op tmps H aJ k :=
 ⟨v,none,hk,fun o ν a w r n ho ha hH _ next Q hn=>by
  obtain ⟨v',hv,hr⟩:=h o ν a w ho ha hH;exact jH (by rw [ho]; exact hd) hr next Q (hn _ _ ν ⟨ν.le_refl,fun _ _=>rfl,hv,Below.refl _ _,fun _=>rfl,(fun b hb=>by cases hb)⟩)⟩
theorem s7.ok {P:Program} {op:Op} {tmps:List Value} {H:ay} {aJ:Nat} {k:QK} (h:s7 P op tmps H k):eV P op tmps H aJ k :=
 let ⟨_,hk,hv⟩:=h
 .value (hv fun _=>none).1 hk fun o ν a w ho ha hH=>(hv ν).2 o ν a w ν.le_refl ho ha hH
open Go Go.RowKit
section
variable {P:Program} {tt:TT} {Φ:zN} {w:World} {ν:Nu} {aJ:Nat} {k:QK} {tmps:List Value} {H:ay}
theorem aaH {x:Operand} (h:Dj tmps x k):eV P (.move x) tmps H aJ k:=by
 obtain ⟨v,hk,hv⟩:=cN h;exact .value (by simp) hk fun o ν a w ho ha _=>⟨_,hv ν a (ha x (by simp [Op.operands])),by simp [execOp,ho]⟩
theorem Wf {x:Operand} (h:Dj tmps x k):eV P (.assign x) tmps H aJ k:=by
 obtain ⟨v,hk,hv⟩:=cN h;exact .value (by simp) hk fun o ν a w ho ha _=>⟨_,hv ν a (ha x (by simp [Op.operands])),by simp [execOp,ho]⟩
theorem au.j7 {ν:Nu} {b:Bool} {r:Value} (h:au ν (.bool b) r):r=.bool b:=by cases h; rfl
theorem au.fN {ν:Nu} {k:IntKind} {x:Int} {r:Value} (h:au ν (.int k x) r):r=.int k x:=by cases h; rfl
theorem au.sL {ν:Nu} {x:ByteArray} {r:Value} (h:au ν (.string x) r):r=.string x:=by cases h; rfl
theorem au.nV {ν:Nu} {id row:Nat} {sp:Option Nat} {r:Value} (h:au ν (.pointer (some ⟨id,row,sp⟩)) r):∃ l,ν id=some l∧r=.pointer (some (l.at row (sp.getD 0))):=by
 cases h with | ptr _ _ _ l h=>exact ⟨l,h,rfl⟩
theorem ac0 {x:Operand} (h:Qk tmps x k):eV P (.nilCheck x) tmps H aJ k:=by
 obtain ⟨v,h,hv⟩:=cN h
 split at h
 ·rename_i ad;obtain ⟨b,o,sp⟩:=ad;refine .value (by simp) h fun o' ν a w ho ha _=>?_
  have h1:=hv ν a (ha x (by simp [Op.operands]))
  obtain ⟨l,J,h3⟩:=h1.nV;exact ⟨_,h1,by simp [execOp,ho,h3]⟩
 ·exact h.elim
theorem aaI {c x y:Operand} (h:PH tmps c x y k):eV P (.pick c x y) tmps H aJ k:=by
 obtain ⟨cv,h,hc⟩:=cN h
 split at h
 ·rename_i t;obtain ⟨av,h,hx⟩:=cN h;obtain ⟨bv,h,hy⟩:=cN h
  split at h
  ·refine .value (by simp) h fun o ν a w ho ha _=>⟨_,.bool _,?_⟩
   have hc:=(hc ν a (ha c (by simp [Op.operands]))).j7
   have hx:=(hx ν a (ha x (by simp [Op.operands]))).j7
   have hy:=(hy ν a (ha y (by simp [Op.operands]))).j7
   cases t <;> simp [execOp,ho,hc,hx,hy,asBool]
  ·cases t with
   | true =>
    refine .value (by simp) h fun o ν a w ho ha _=>⟨_,hx ν a (ha x (by simp [Op.operands])),?_⟩
    have hc:=(hc ν a (ha c (by simp [Op.operands]))).j7
    simp [execOp,ho,hc,asBool]
   | false =>
    refine .value (by simp) h fun o ν a w ho ha _=>⟨_,hy ν a (ha y (by simp [Op.operands])),?_⟩
    have hc:=(hc ν a (ha c (by simp [Op.operands]))).j7
    simp [execOp,ho,hc,asBool]
 ·exact h.elim
theorem No {ν:Nu} {aJ:Nat} (hn:ν aJ=none) {ae:Nat} {cs:List Value} {eU:List Value} (hl:cs.length=ae) (hr:bf ν cs eU)
  (h1:∀ v∈cs,v.oneCell'=true) (w:World) (t:TypeId) :
  bP (ν.add aJ ⟨w.heap.size,0,ae,1⟩) ⟨w.heap.size,0,ae,1⟩ (.aP true ae [cs]) { w with heap:=w.heap.push (.cells ⟨eU⟩ t) }:=by
 have dE:({ w with heap:=w.heap.push (.cells ⟨eU⟩ t) }:World).heap[w.heap.size]?=some (.cells ⟨eU⟩ t (0,0)):=by simp
 refine ⟨rfl,fun r jx=>?_,fun r jx j v hv=>?_,fun h=>by simp [ai.jM] at h,fun r jx v hv=>?_,fun _ _=>⟨_,_,dE,?_,?_⟩,(fun r h=>nomatch h),?_⟩
 ·have:r=0:=by simp [ai.n] at jx; exact jx
  subst this; simpa [ai.row,ai.ae] using hl
 ·have:r=0:=by simp [ai.n] at jx; exact jx
  subst this;have hv:cs[j]?=some v:=by simpa [ai.row] using hv
  obtain ⟨v',J,h3⟩:=hr.get hv;refine ⟨v',?_,h3.mono (Nu.kd hn)⟩;simp only [Loc.at,World.cell?,Nat.zero_mul,Nat.zero_add];rw [dE]
  simpa using J
 ·have:r=0:=by simp [ai.n] at jx; exact jx
  subst this; exact h1 v (by simpa [ai.row] using hv)
 ·simp [← hl,hr.1]
 ·simp [ai.n]
 ·simp
theorem mW {ν:Nu} {aJ:Nat} (hn:ν aJ=none) {b:ai} {w w':World} {l:Loc} {v v':Value} (hb:bP (ν.add aJ l) l b w') (hB:Below w.heap.size w w') (hl:w.heap.size≤l.aL)
  (hv:au (ν.add aJ l) v v'):nc ν (ν.add aJ l) aJ w w' v v' (some b) :=
 ⟨Nu.kd hn,fun id bm=>Nu.iV bm,hv,hB,(fun h=>by cases h),(fun b' bE=>by cases bE; exact ⟨l,Nu.add_same,hb,hl⟩)⟩
theorem yP (w:World) (o:Obj):Below w.heap.size w { w with heap:=w.heap.push o }:=(Below.refl _ w).alloc (Nat.le_refl _) o
theorem BB:∀ {z l l':List Value},m5 z l=some l'→l=z++l'∧∀ v∈z,cG v=true
 | [],l,l',h=>by simp [m5] at h; exact ⟨by simp [h],fun v hv=>by cases hv⟩
 | .int q n::z,[],l',h=>by simp [m5] at h
 | .int q n::z,x::l,l',h=>by
  cases x <;> simp only [m5] at h <;> try (cases h)
  split at h
  ·rename_i hd;simp only [Bool.and_eq_true,decide_eq_true_eq] at hd;obtain ⟨rfl,rfl⟩:=hd;obtain ⟨h1,J⟩:=BB h;exact ⟨by rw [h1]; rfl,fun v hv=>(List.mem_cons.1 hv).elim (fun e=>by rw [e]; rfl) (fun e=>J v e)⟩
  ·cases h
 | .bool b::z,[],l',h=>by simp [m5] at h
 | .bool b::z,x::l,l',h=>by
  cases x <;> simp only [m5] at h <;> try (cases h)
  split at h
  ·rename_i hd;have hd:=eq_of_beq hd;subst hd;obtain ⟨h1,J⟩:=BB h;exact ⟨by rw [h1]; rfl,fun v hv=>(List.mem_cons.1 hv).elim (fun e=>by rw [e]; rfl) (fun e=>J v e)⟩
  ·cases h
 | .string s::z,[],l',h=>by simp [m5] at h
 | .string s::z,x::l,l',h=>by
  cases x <;> simp only [m5] at h <;> try (cases h)
  split at h
  ·rename_i s' _ hd;simp only [Bool.and_eq_true] at hd;have e1:=Nat.eq_of_beq_eq_true hd.1;have e2:=Nat.eq_of_beq_eq_true hd.2;have e:s=s':=by
    apply ByteArray.ext;apply Array.ext
    ·show s.size=s'.size; omega
    ·intro i h1 J;have:i < s.size:=h1;omega
   subst e;obtain ⟨h1,J⟩:=BB h;exact ⟨by rw [h1]; rfl,fun v hv=>(List.mem_cons.1 hv).elim (fun e=>by rw [e]; rfl) (fun e=>J v e)⟩
  ·cases h
theorem Lw {z:List Value}:∀ {n:Nat} {l:List Value},zO z n l=true→l.length=n*z.length∧(∀ r,r < n→∀ (j:Nat) v,z[j]?=some v→l[r*z.length+j]?=some v)∧(0 < n→∀ v∈z,cG v=true)
 | 0,[],_=>⟨by simp,fun r hr=>absurd hr (by omega),fun h=>absurd h (by omega)⟩
 | 0,_::_,h=>by simp [zO] at h
 | n+1,l,h=>by
  simp only [zO] at h
  split at h
  ·rename_i l' he;obtain ⟨h1,J⟩:=BB he;obtain ⟨h3,h4,_⟩:=Lw h;refine ⟨by rw [h1,List.length_append,h3,Nat.add_mul]; omega,fun r hr j v hv=>?_,fun _=>J⟩
   have hj:j < z.length:=(List.getElem?_eq_some_iff.1 hv).1;rw [h1];cases r with
   | zero=>rw [Nat.zero_mul,Nat.zero_add,List.getElem?_append_left hj]; exact hv
   | succ r =>
    rw [List.getElem?_append_right (by rw [Nat.add_mul]; omega),show (r+1)*z.length+j - z.length=r*z.length+j by rw [Nat.add_mul]; omega]
    exact h4 r (by omega) j v hv
  ·cases h
theorem XT (hT:∀ t ti,tt t=some ti→aB P t ti) {t:TypeId} (h:O2 tt t aJ k):eV P (.alloc t) tmps H aJ k:=by
 obtain ⟨ti,ht,h⟩:=cO h;have bc:=hT _ _ ht;obtain ⟨i,hi,_,_,z,hz,iB⟩:=bc.info;have iP:k (.pointer (some ⟨aJ,0,none⟩)) (some (.aP true ti.size [ti.zero]))→eV P (.alloc t) tmps H aJ k:=fun h=>by
  refine ⟨_,_,h,fun o ν a w r n ho ha hH hn next Q hN=>jH (w':={ w with heap:=w.heap.push (.cells ⟨ti.zero⟩ t) }) (v':=.pointer (some ⟨w.heap.size,0,none⟩)) (by simp [ho]) ?_ next Q (hN _ _ (ν.add aJ ⟨w.heap.size,0,ti.size,1⟩) (mW hn (No hn bc.len (bc.self ν) bc.one w t) (yP _ _) (Nat.le_refl _) ?_))⟩
  ·simp [execOp,ho,Instr.alloc,wA hi hz,newVar,newRow,iB]
  ·have:=au.ptr (ν:=ν.add aJ ⟨w.heap.size,0,ti.size,1⟩) aJ 0 none _ Nu.add_same
   simpa [Loc.at] using this
 split at h
 ·rename_i n e hk;obtain ⟨te,he,h⟩:=cO h;have DP:=hT _ _ he
  split at h
  ·rename_i pO;rw [Bool.and_eq_true] at pO;obtain ⟨z1,z2,z3⟩:=Lw pO.2;refine ⟨_,_,h,fun o ν a w r nn ho ha hH hn next Q hN=>jH (w':={ w with heap:=w.heap.push (.cells ⟨ti.zero⟩ t) }) (v':=.pointer (some ⟨w.heap.size,0,none⟩)) (by simp [ho]) ?_ next Q (hN _ _ (ν.add aJ ⟨w.heap.size,0,te.size,n⟩) (mW hn ?_ (yP _ _) (Nat.le_refl _) ?_))⟩
   ·simp [execOp,ho,Instr.alloc,wA hi hz,newVar,newRow,iB]
   ·have dE:({ w with heap:=w.heap.push (.cells ⟨ti.zero⟩ t) }:World).heap[w.heap.size]?=some (.cells ⟨ti.zero⟩ t (0,0)):=by show (w.heap.push _)[w.heap.size]?=_; simp
    refine ⟨rfl,fun r hr=>DP.len,fun r hr j v hv=>⟨v,?_,au.kH (z3 (by have:r < n:=hr; omega) v (List.mem_of_getElem? hv))⟩,fun _ r hr v hv=>z3 (by have:r < n:=hr; omega) v hv,fun r hr v hv=>DP.one v hv,fun _ _=>⟨_,_,dE,?_,Nat.le_refl _⟩,(fun r h=>nomatch h),?_⟩
    ·have hr:r < n:=hr;have hv:te.zero[j]?=some v:=hv;have J:=z2 r hr j v hv;simp only [Loc.at,World.cell?,Nat.zero_add];rw [dE];simp only [Option.isSome_none,Bool.false_eq_true,if_false];rw [← DP.len]
     simpa using J
    ·simp [z1,DP.len]
    ·show w.heap.size < (w.heap.push _).size
     simp
   ·have:=au.ptr (ν:=ν.add aJ ⟨w.heap.size,0,te.size,n⟩) aJ 0 none _ Nu.add_same
    simpa [Loc.at] using this
  ·exact iP h
 ·exact iP h
theorem ac1 (hT:∀ t ti,tt t=some ti→aB P t ti) {t:TypeId} {x:Operand} (h:Ql tt tmps t x aJ k):eV P (.box t x) tmps H aJ k:=by
 obtain ⟨ti,ht,h⟩:=cO h;obtain ⟨v,h,hv⟩:=cN h;have h:=Bz h;have bc:=hT _ _ ht
 split at h
 ·rename_i he;obtain ⟨h1,J⟩:=yH he;refine ⟨_,_,h,fun o ν a w r n ho ha hH hn next Q hN=>?_⟩
  have hc:=(hv ν a (ha x (by simp [Op.operands]))).cells
  refine jH (w':={ w with heap:=w.heap.push (.cells (a.eval x).cells t) }) (v':=.pointer (some ⟨w.heap.size,0,none⟩)) (by simp [ho]) ?_ next Q (hN _ _ (ν.add aJ ⟨w.heap.size,0,ti.size,1⟩) (mW hn (No hn h1 hc J w t) (yP _ _) (Nat.le_refl _) ?_))
  ·simp [execOp,ho,Instr.box,newVar,newRow]
  ·have:=au.ptr (ν:=ν.add aJ ⟨w.heap.size,0,ti.size,1⟩) aJ 0 none _ Nu.add_same
   simpa [Loc.at] using this
 ·exact h.elim
theorem Mt {ag:Bool} {cs:List Value} {k:Value→Prop} (h:DM ag cs k):k (valOf ag cs):=by
 unfold DM at h
 split at h
 ·exact h
 ·exact wB h
 ·exact h
theorem FM {ν:Nu} {ag:Bool} {cs eU:List Value} (h:bf ν cs eU):au ν (valOf ag cs) (if ag then .agg ⟨eU⟩ else eU.getD 0 undef):=by
 cases ag with
 | true=>exact .agg _ _ h.1 h.2
 | false =>
  cases cs with
  | nil=>rw [h.iU]; exact .undef ν
  | cons v l=>obtain ⟨y,ys,rfl,h1,_⟩:=h.jm; exact h1
theorem Lx {l:Loc} {b:ai} (hb:bP ν l b w) {row off sz:Nat} {vs:List Value} (hr:row < b.n) (hl:vs.length=sz) (hv:∀ j v,vs[j]?=some v→(b.row row)[off+j]?=some v) :
  ∃ fY,bf ν vs fY∧fY.length=sz∧∀ j v,fY[j]?=some v→w.cell? ((l.at row off).add j)=some v:=by
 have key:∀ (vs:List Value) (off:Nat),(∀ j v,vs[j]?=some v→(b.row row)[off+j]?=some v)→∃ fY,bf ν vs fY∧∀ j v,fY[j]?=some v→w.cell? ((l.at row off).add j)=some v:=by
  intro vs
  induction vs with
  | nil=>exact fun _ _=>⟨[],.nil ν,fun j v hj=>by simp at hj⟩
  | cons v vs ih =>
   intro off hv;obtain ⟨v',h1,J⟩:=hb.cell row hr off v (by have:=hv 0 v rfl; simpa using this)
   obtain ⟨fY,h3,h4⟩:=ih (off+1) (fun j u hu=>by have:=hv (j+1) u (by simpa using hu); rwa [show off+(j+1)=off+1+j by omega] at this)
   refine ⟨v'::fY,.cons J h3,fun j u hu=>?_⟩
   cases j with
   | zero=>rw [Loc.jN]; simp at hu; subst hu; simpa using h1
   | succ j=>have:=h4 j u (by simpa using hu); rw [Loc.jN] at this ⊢; rwa [show off+(j+1)=off+1+j by omega]
 obtain ⟨fY,h1,J⟩:=key vs off hv;exact ⟨fY,h1,by rw [← h1.1,hl],J⟩
theorem Oe (hT:∀ t ti,tt t=some ti→aB P t ti) {t:TypeId} {x:Operand} (h:HQ tt tmps H t x k):s7 P (.load t x) tmps H k:=by
 obtain ⟨av,h,hv⟩:=cN h
 split at h
 ·rename_i id row sp;obtain ⟨ti,ht,h⟩:=cO h;obtain ⟨b,hb,h⟩:=gD h;obtain ⟨hr,h⟩:=Mq h;have h:=Nm h;obtain ⟨vs,h,hl,fx⟩:=yN h;have h:=Mt h;refine .value (by simp) h fun o ν a w ho ha hH=>?_
  obtain ⟨l,pP,hB⟩:=hH.aL id b hb;obtain ⟨l',jc,he⟩:=(hv ν a (ha x (by simp [Op.operands]))).nV
  rw [pP] at jc; cases jc;obtain ⟨fY,h1,J,h3⟩:=Lx hB hr hl fx;exact ⟨_,FM h1,by simp [execOp,ho,Instr.loadAt,he,Instr.sureAddr,KL (hT _ _ ht) J h3]⟩
 ·exact h.elim
theorem aaJ (hT:∀ t ti,tt t=some ti→aB P t ti) {t:TypeId} {x:Operand} (h:HQ tt tmps H t x k):eV P (.load t x) tmps H aJ k:=(Oe hT h).ok
theorem Td (hT:∀ t ti,tt t=some ti→aB P t ti) {t:TypeId} {x:Operand} {f:Nat} (h:Lu tt tmps t x f k):eV P (.fieldAddr t x f) tmps H aJ k:=by
 obtain ⟨av,h,hv⟩:=cN h
 split at h
 ·rename_i id row sp;obtain ⟨ti,ht,h⟩:=cO h
  split at h
  ·rename_i fs hk;obtain ⟨x',rm,h⟩:=BA h;have h:=Nm h;obtain ⟨d,hu,hd⟩:=(hT _ _ ht).under;rw [hk] at hd;obtain ⟨fields,rfl,aW,hf⟩:=hd;have al:f < fields.size:=by rw [aW]; exact (List.getElem?_eq_some_iff.1 rm).1
   have jY:fields[f]?=some fields[f]:=Array.getElem?_eq_getElem al;obtain ⟨h1,J,⟨i,h3,h4⟩,_⟩:=hf f _ _ jY rm;refine .value (by simp) h fun o ν a w ho ha hH=>?_
   obtain ⟨l,hl,he⟩:=(hv ν a (ha x (by simp [Op.operands]))).nV
   refine ⟨.pointer (some (l.at row (sp.getD 0+x'.1))),.ptr _ _ (some _) _ hl,?_⟩;have aD:¬ (i.size=0):=by omega
   simp [execOp,ho,Instr.fieldAt,dG hu,jY,he,Instr.sureAddr,fieldPlace,gu h3,aD,h1,Loc.jN]
  ·exact h.elim
 ·exact h.elim
theorem Gj {P:Program} {f:Field} {x:Nat × Nat × Bool} (hf:zk P f x) {cs vs:List Value} (hl:vs.length=x.2.1) (hv:∀ j v,vs[j]?=some v→cs[x.1+j]?=some v) (w:World) :
  (part f.type ⟨cs⟩ f.offset).run P w=.ok (if x.2.2 then .agg ⟨vs⟩ else vs.getD 0 undef) w:=by
 obtain ⟨h1,J,⟨i,h3,h4⟩,d,h5,h6⟩:=hf;unfold part;simp only [Sem.run_bind,Mp h5,Result.andThen_ok,Sem.run_ite,h6]
 split
 ·simp only [Sem.run_bind,gu h3,Result.andThen_ok,h1,h4,← hl,Sem.run_pure]
  congr 2
  apply Array.ext';simp only [Array.toList_extract];apply List.ext_getElem?;intro j;by_cases hj:j < vs.length
  ·have:=hv j vs[j] (List.getElem?_eq_getElem hj);simp [List.extract,List.getElem?_take,List.getElem?_drop,hj,this]
  ·rw [List.getElem?_eq_none (by omega:vs.length≤j)]
   simp [List.extract,List.getElem?_take,hj]
 ·cases vs with
  | nil=>simp at hl; omega
  | cons v l =>
   have:=hv 0 v rfl;simp only [Nat.add_zero] at this;simp [h1,this]
theorem XU (hT:∀ t ti,tt t=some ti→aB P t ti) {t:TypeId} {x:Operand} {f:Nat} (h:O3 tt tmps t x f k):eV P (.field t x f) tmps H aJ k:=by
 obtain ⟨av,h,hv⟩:=cN h
 split at h
 ·rename_i cs;obtain ⟨ti,ht,h⟩:=cO h
  split at h
  ·rename_i fs hk;obtain ⟨x',rm,h⟩:=BA h;obtain ⟨vs,h,hl,fx⟩:=yN h;have h:=Mt h;obtain ⟨d,hu,hd⟩:=(hT _ _ ht).under;rw [hk] at hd;obtain ⟨fields,rfl,aW,hf⟩:=hd;have al:f < fields.size:=by rw [aW]; exact (List.getElem?_eq_some_iff.1 rm).1
   have jY:fields[f]?=some fields[f]:=Array.getElem?_eq_getElem al;have bc:=hf f _ _ jY rm;refine .value (by simp) h fun o ν a w ho ha hH=>?_
   obtain ⟨ys,he,hy⟩:=au.uO (xs:=cs.toList) (hv ν a (ha x (by simp [Op.operands])))
   -- the same stretch of the real cells
   have aeH:∃ fY,bf ν vs fY∧fY.length=x'.2.1∧∀ j v,fY[j]?=some v→ys[x'.1+j]?=some v:=by
    refine ⟨(ys.drop x'.1).take vs.length,⟨?_,fun j a b ha hb=>?_⟩,?_,fun j v hj=>?_⟩
    ·rw [List.length_take,List.length_drop];have:∀ m,m < vs.length→x'.1+m < cs.toList.length:=fun m hm=>(List.getElem?_eq_some_iff.1 (fx m _ (List.getElem?_eq_getElem hm))).1
     have h0:=hy.1;by_cases Az:vs.length=0
     ·omega
     ·have:=this (vs.length - 1) (by omega); omega
    ·rw [List.getElem?_take,List.getElem?_drop] at hb
     split at hb
     ·exact hy.2 _ a b (fx j a ha) hb
     ·cases hb
    ·rw [List.length_take,List.length_drop,hl];have:∀ m,m < vs.length→x'.1+m < cs.toList.length:=fun m hm=>(List.getElem?_eq_some_iff.1 (fx m _ (List.getElem?_eq_getElem hm))).1
     have h0:=hy.1;have hp:=bc.2.1;have:=this (vs.length - 1) (by omega); omega
    ·rw [List.getElem?_take,List.getElem?_drop] at hj
     split at hj
     ·exact hj
     ·cases hj
   obtain ⟨fY,h1,J,h3⟩:=aeH;exact ⟨_,FM h1,by simp [execOp,ho,Instr.field,dG hu,jY,he,asAgg,Gj bc J h3]⟩
  ·exact h.elim
 ·exact h.elim
theorem U9 {x:Operand} {ix:Nat} (h:Gh tmps x ix k):eV P (.extract x ix) tmps H aJ k:=by
 obtain ⟨v,h,hv⟩:=cN h
 split at h
 ·rename_i vs;obtain ⟨u,h1,J⟩:=oU h;refine .value (by simp) J fun o ν a w ho ha hH=>?_
  obtain ⟨ys,he,hy⟩:=au.nR (xs:=vs.toList) (hv ν a (ha x (by simp [Op.operands])))
  obtain ⟨u',h3,h4⟩:=hy.get h1;exact ⟨_,h4,by simp [execOp,ho,he,Instr.extract,h3]⟩
 ·exact h.elim
theorem TJ {fn:Fn} {f c:Array Operand} (h:Mr tmps fn f.toList c.toList k):eV P (.makeFunc fn f c) tmps H aJ k:=by
 obtain ⟨vs,h,h1⟩:=BP h;obtain ⟨us,h,J⟩:=BP h;refine .value (by simp) h fun o ν a w ho ha hH=>?_
 have h1:=h1 ν a (fun x hx=>ha x (by simp [Op.operands]; exact .inl (by simpa using hx)))
 have J:=J ν a (fun x hx=>ha x (by simp [Op.operands]; exact .inr (by simpa using hx)))
 refine ⟨.func fn ⟨f.toList.map a.eval⟩ ⟨c.toList.map a.eval⟩,.func fn _ _ _ _ h1.1 h1.2 J.1 J.2,?_⟩;simp only [execOp,ho,Instr.makeFunc];have e1:f.map a.eval=⟨f.toList.map a.eval⟩:=by apply Array.ext'; simp
 have e2:c.map a.eval=⟨c.toList.map a.eval⟩:=by apply Array.ext'; simp
 rw [e1,e2]; rfl
theorem aeI {op:UnOp} {t:TypeId} {x:Operand} (h:Re tmps op x k):eV P (.unOp op t x) tmps H aJ k:=by
 obtain ⟨v,h,hv⟩:=cN h
 split at h
 ·refine .value (by simp) h fun o ν a w ho ha hH=>⟨_,.int _ _,?_⟩
  have hv:=(hv ν a (ha x (by simp [Op.operands]))).fN
  simp [execOp,ho,hv,Op.unary,Op.intArith]
 ·refine .value (by simp) h fun o ν a w ho ha hH=>⟨_,.bool _,?_⟩
  have hv:=(hv ν a (ha x (by simp [Op.operands]))).j7
  simp [execOp,ho,hv,Op.unary]
 ·rename_i q m
  split at h
  ·rename_i u hu;have h:=wB h
   split at h
   ·rename_i hs;refine .value (by simp) h fun o ν a w ho ha hH=>⟨_,au.kH hs,?_⟩
    have hv:=(hv ν a (ha x (by simp [Op.operands]))).fN
    simp [execOp,ho,hv,Op.unary,hu]
   ·exact h.elim
  ·exact h.elim
 ·exact h.elim
end
open Go Go.RowKit
section
variable {P:Program} {tt:TT} {w:World} {ν:Nu} {aJ:Nat} {k:QK} {tmps:List Value} {H:ay}
theorem au.uq {ν:Nu} {id row m c:Nat} {x:Value} (h:au ν (.slice (some ⟨id,row,none⟩) m c) x) :
  (∃ l c',ν id=some l∧(c'=c∨c=aI)∧m≤c'∧row+c'≤l.cap∧x=.slice (some (l.at row 0)) m c')∨(m=0∧(0=c∨c=aI)∧∃ b,x=.slice (some b) 0 0):=by
 cases h with
 | slice _ _ _ _ c' l h hc hn hr=>exact .inl ⟨l,c',h,hc,hn,hr,rfl⟩
 | void _ _ _ b hc=>exact .inr ⟨rfl,hc,b,rfl⟩
theorem au.O6 {ν:Nu} {id row b0 m c:Nat} {x:Value} (h:au ν (.slice (some ⟨id,row,some b0⟩) m c) x) :
  (∃ l c',ν id=some l∧b0≤c'∧m≤c'∧row+c'≤l.cap∧x=.slice (some (l.at row 0)) m c')∨(m=0∧b0=0∧∃ b,x=.slice (some b) 0 0):=by
 cases h with
 | l8 _ _ _ _ c' l h hm hn hr=>exact .inl ⟨l,c',h,hm,hn,hr,rfl⟩
 | kS _ _ a=>exact .inr ⟨rfl,rfl,a,rfl⟩
theorem au.XW {ν:Nu} {id row b0 m c:Nat} {x:Value} (h:au ν (.slice (some ⟨id,row,some b0⟩) m c) x) :
  (∃ l c',ν id=some l∧b0≤c'∧m≤c'∧row+c'≤l.cap∧c=aI∧x=.slice (some (l.at row 0)) m c')∨(m=0∧b0=0∧c=aI∧∃ b,x=.slice (some b) 0 0):=by
 cases h with
 | l8 _ _ _ _ c' l h hm hn hr=>exact .inl ⟨l,c',h,hm,hn,hr,rfl,rfl⟩
 | kS _ _ a=>exact .inr ⟨rfl,rfl,rfl,a,rfl⟩
theorem au.CX {ν:Nu} {id row m c:Nat} {sp:Option Nat} {x:Value} (h:au ν (.slice (some ⟨id,row,sp⟩) m c) x) :
  (∃ l c',ν id=some l∧m≤c'∧row+c'≤l.cap∧x=.slice (some (l.at row 0)) m c')∨(m=0∧∃ b,x=.slice (some b) 0 0):=by
 cases h with
 | slice _ _ _ _ c' l h hc hn hr=>exact .inl ⟨l,c',h,hn,hr,rfl⟩
 | void _ _ _ b hc=>exact .inr ⟨rfl,b,rfl⟩
 | l8 _ _ _ _ c' l h hm hn hr=>exact .inl ⟨l,c',h,hn,hr,rfl⟩
 | kS _ _ a=>exact .inr ⟨rfl,a,rfl⟩
theorem au.qn {ν:Nu} {x:Value} (h:au ν (.slice none 0 0) x):x=.slice none 0 0:=by cases h; rfl
theorem mu {x:Option Operand} {d:Int} {k:Int→Prop} (h:lO tmps x d k):∃ n,k n∧∀ (ν:Nu) (a:Act),(∀ y∈x.toArray,fm ν tmps a y)→(x=none∧n=d)∨∃ q,x.map a.eval=some (.int q n):=by
 cases x with
 | none=>exact ⟨d,h,fun ν a _=>.inl ⟨rfl,rfl⟩⟩
 | some x =>
  obtain ⟨v,h,hv⟩:=cN h
  split at h
  ·rename_i q n;exact ⟨n,h,fun ν a ha=>.inr ⟨q,by simp [(hv ν a (ha x (by simp))).fN]⟩⟩
  ·exact h.elim
theorem wP {q:IntKind} {n:Int} {y:Nat} {code:BoundsCode} (h0:0≤n) (h1:n≤y) (w:World):(Instr.sliceBound (.int q n) y code).run P w=.ok n.toNat w:=by
 simp [Instr.sliceBound,asIntOf,h0,h1]
theorem oS {len cap:Nat} {lo hi mx:Option Value} {l h m:Int} (hl:(lo=none∧l=0)∨∃ q,lo=some (.int q l)) (hh:(hi=none∧h=(len:Int))∨∃ q,hi=some (.int q h))
  (hm:(mx=none∧m=(cap:Int))∨((∃ q,mx=some (.int q m))∧∃ v,hi=some v)) (b0:0≤l) (b1:l≤h) (b2:h≤m) (b3:m≤cap) (g8:Bool) (w:World) :
  (Instr.sliceBounds g8 len cap lo hi mx).run P w=.ok (l.toNat,h.toNat,m.toNat) w:=by
 unfold Instr.sliceBounds;rcases hm with ⟨rfl,rfl⟩ | ⟨⟨q,rfl⟩,v,rfl⟩
 ·rcases hh with ⟨rfl,rfl⟩ | ⟨q,rfl⟩
  ·rcases hl with ⟨rfl,rfl⟩ | ⟨q,rfl⟩
   ·simp
   ·simp [wP (P:=P) (q:=q) (n:=l) (y:=len) b0 (by omega)]
  ·have e:=wP (P:=P) (q:=q) (n:=h) (y:=cap) (code:=if g8 then .sliceAcap else .sliceAlen) (by omega) (by omega) w
   rcases hl with ⟨rfl,rfl⟩ | ⟨q',rfl⟩
   ·simp [e]
   ·simp [e,wP (P:=P) (q:=q') (n:=l) (y:=h.toNat) b0 (by omega)]
 ·rcases hh with ⟨h',_⟩ | ⟨q',h'⟩
  ·cases h'
  ·cases h';have e0:=wP (P:=P) (q:=q) (n:=m) (y:=cap) (code:=if g8 then .slice3Acap else .slice3Alen) (by omega) (by omega) w
   have e:=wP (P:=P) (q:=q') (n:=h) (y:=m.toNat) (code:=.slice3B) (by omega) (by omega) w
   rcases hl with ⟨rfl,rfl⟩ | ⟨q',rfl⟩
   ·simp [e0,e]
   ·simp [e0,e,wP (P:=P) (q:=q') (n:=l) (y:=h.toNat) b0 (by omega)]
theorem KM (hT:∀ t ti,tt t=some ti→aB P t ti) {t:TypeId} {x:Operand} {lo hi mx:Option Operand} (h:Hp tt tmps H t x lo hi mx k):∃ v,k v none∧∀ (bh:Nu) (w0:World),bU bh H w0→qL P bh (.slice t x lo hi mx) tmps v:=by
 obtain ⟨xv,J,hx⟩:=cN h;clear h;obtain ⟨ti,ht,h⟩:=cO J;clear J;obtain ⟨d,hu,hd⟩:=(hT _ _ ht).under;have mem:∀ (o:Option Operand) y,(o=lo∨o=hi∨o=mx)→y∈o.toArray→y∈(Op.slice t x lo hi mx).operands:=by
  intro o y ho hy;simp only [Op.operands,Array.mem_append];rcases ho with rfl | rfl | rfl
  ·exact .inl (.inl (.inr hy))
  ·exact .inl (.inr hy)
  ·exact .inr hy
 have vv:x∈(Op.slice t x lo hi mx).operands:=by simp [Op.operands]
 split at h
 ·rename_i s hk;rw [hk] at hd;have hd:d=.string:=hd;subst hd
  split at h
  ·obtain ⟨l,h,hl⟩:=mu h;obtain ⟨hh,h,jy⟩:=mu h;obtain ⟨⟨b0,b1,b2⟩,h⟩:=h;refine ⟨_,h,fun bh w0 hH=>⟨by simp,fun o ν a w hle ho ha=>⟨_,.str _,?_⟩⟩⟩
   have hx:=(hx ν a (ha x vv)).sL;have e1:=hl ν a (fun y hy=>ha y (mem _ y (.inl rfl) hy))
   have e2:=jy ν a (fun y hy=>ha y (mem _ y (.inr (.inl rfl)) hy))
   have:=oS (P:=P) (len:=s.size) (cap:=s.size) (lo:=lo.map a.eval) (hi:=hi.map a.eval) (mx:=none) (l:=l) (h:=hh) (m:=s.size) (e1.imp (fun ⟨p,q⟩=>⟨by rw [p]; rfl,q⟩) (fun x=>x)) (e2.imp (fun ⟨p,q⟩=>⟨by rw [p]; rfl,q⟩) (fun x=>x)) (.inl ⟨rfl,rfl⟩) b0 b1 b2 (Int.le_refl _) false w
   simp [execOp,ho,Instr.sliceAt,dG hu,Instr.slice,hx,this]
  ·exact h.elim
 ·rename_i e id row n c hk;rw [hk] at hd;have hd:d=.slice e:=hd;subst hd;obtain ⟨te,he,J⟩:=cO h;clear h;obtain ⟨b,hb,h⟩:=gD J;clear J;obtain ⟨ei,fy,jd,_⟩:=(hT _ _ he).info
  split at h
  ·rename_i hq;have hq:b.ae=te.size:=Nat.eq_of_beq_eq_true hq
   -- what both forms come to
   have fin:∀ (o:Oper) (ν:Nu) (a:Act) (w:World) (l hh m:Int) (c1:Nat),o.op=.slice t x lo hi mx→(∀ x'∈(Op.slice t x lo hi mx).operands,fm ν tmps a x')→∀ (bh:Nu) (w0:World),bU bh H w0→bh.le ν →
     (∀ (lv hv:Nat) (c':Nat),n≤c'→(c'=c∨c=aI)→∃ mm:Int,(Instr.sliceBounds true n c' (lo.map a.eval) (hi.map a.eval) (mx.map a.eval)).run P w=.ok (l.toNat,hh.toNat,mm.toNat) w∧hh.toNat≤mm.toNat∧mm.toNat≤c'∧(mm.toNat - l.toNat=c1∨c1=aI)) →
     0≤l→l≤hh→hh≤n →
     ∃ v',au ν (.slice (some ⟨id,fe row l.toNat,none⟩) (hh.toNat - l.toNat) c1) v'∧(execOp a.eval o).run P w=.ok (.value v') w:=by
    intro o ν a w l hh m c1 ho ha bh w0 hH hle Rf b0 b1 b2;obtain ⟨l0,eW,hB⟩:=hH.aL id b hb;have eW:=hle _ _ eW;rcases (hx ν a (ha x vv)).uq with ⟨lc,c',dN,hc,hn,hr,cj⟩ | ⟨hn,hc,bb,cj⟩
    ·rw [eW] at dN; cases dN;obtain ⟨mm,bB,m1,m2,m3⟩:=Rf 0 0 c' hn hc;by_cases hz:mm.toNat=l.toNat
     ·have e0:hh.toNat - l.toNat=0:=by omega
      refine ⟨.slice (some (l0.at row 0)) 0 0,?_,?_⟩
      ·rw [e0]; exact .void _ _ _ _ (m3.imp (fun h=>by omega) (fun h=>h))
      ·simp [execOp,ho,Instr.sliceAt,dG hu,Instr.slice,cj,bB,gu fy,hz,e0]
     ·refine ⟨.slice (some (l0.at (row+l.toNat) 0)) (hh.toNat - l.toNat) (mm.toNat - l.toNat),?_,?_⟩
      ·rw [aw]; exact .slice _ _ _ _ _ l0 eW m3 (by omega) (by omega)
      ·have kT:(l0.at row 0).add (l.toNat*ei.size)=l0.at (row+l.toNat) 0:=by
        rw [Loc.jN];unfold Loc.at
        congr 1
        rw [jd,← hq,← hB.ae,Nat.add_mul]; omega
       simp [execOp,ho,Instr.sliceAt,dG hu,Instr.slice,cj,bB,gu fy,hz,kT]
    ·obtain ⟨mm,bB,m1,m2,m3⟩:=Rf 0 0 0 (by omega) (hc.imp (fun h=>h) (fun h=>h))
     have e0:hh.toNat - l.toNat=0:=by omega
     have e1:mm.toNat - l.toNat=0:=by omega
     have e2:l.toNat=0:=by omega
     have e3:mm.toNat=0:=by omega
     have e4:hh.toNat=0:=by omega
     refine ⟨.slice (some bb) 0 0,?_,?_⟩
     ·rw [e0]; exact .void _ _ _ _ (m3.imp (fun h=>by omega) (fun h=>h))
     ·rw [e2,e3,e4] at bB;subst hn;simp [execOp,ho,Instr.sliceAt,dG hu,Instr.slice,cj,bB,gu fy]
   split at h
   ·obtain ⟨l,h,hl⟩:=mu h;obtain ⟨hh,h,jy⟩:=mu h;obtain ⟨⟨b0,b1,b2⟩,h⟩:=h;refine ⟨_,h,fun bh w0 hH=>⟨by simp,fun o ν a w hle ho ha=>fin o ν a w l hh 0 _ ho ha bh w0 hH hle (fun _ _ c' hn hc=>⟨c',?_,by omega,by omega,?_⟩) b0 b1 b2⟩⟩
    ·have e1:=hl ν a (fun y hy=>ha y (mem _ y (.inl rfl) hy))
     have e2:=jy ν a (fun y hy=>ha y (mem _ y (.inr (.inl rfl)) hy))
     exact oS (P:=P) (e1.imp (fun ⟨p,q⟩=>⟨by rw [p]; rfl,q⟩) (fun x=>x)) (e2.imp (fun ⟨p,q⟩=>⟨by rw [p]; rfl,q⟩) (fun x=>x)) (.inl ⟨rfl,rfl⟩) b0 b1 (by omega) (Int.le_refl _) true w
    ·unfold uQ;by_cases eJ:c=aI
     ·right; simp [eJ]
     ·left
      have:c'=c:=hc.resolve_right eJ;simp [eJ,this]
   ·rename_i h0 m0;obtain ⟨l,J,hl⟩:=mu h;clear h;obtain ⟨hv,h,jy⟩:=cN J;clear J;obtain ⟨mv,J,hm⟩:=cN h;clear h;have h:=J;clear J
    split at h
    ·rename_i q1 hh q2 m;obtain ⟨⟨b0,b1,b2,b3⟩,h⟩:=h;refine ⟨_,h,fun bh w0 hH=>⟨by simp,fun o ν a w hle ho ha=>fin o ν a w l hh m _ ho ha bh w0 hH hle (fun _ _ c' hn hc=>⟨m,?_,by omega,by omega,.inl rfl⟩) b0 b1 (by omega)⟩⟩
     have e1:=hl ν a (fun y hy=>ha y (mem _ y (.inl rfl) hy))
     have e2:=(jy ν a (ha h0 (mem _ h0 (.inr (.inl rfl)) (by simp)))).fN
     have e3:=(hm ν a (ha m0 (mem _ m0 (.inr (.inr rfl)) (by simp)))).fN
     exact oS (P:=P) (e1.imp (fun ⟨p,q⟩=>⟨by rw [p]; rfl,q⟩) (fun x=>x)) (.inr ⟨q1,by simp [e2]⟩)
      (.inr ⟨⟨q2,by simp [e3]⟩,_,rfl⟩) b0 b1 (by omega) (by omega) true w
    ·exact h.elim
   ·exact h.elim
  ·exact h.elim
 ·rename_i e id row b0 n c hk;rw [hk] at hd;have hd:d=.slice e:=hd;subst hd;obtain ⟨te,he,J⟩:=cO h;clear h;obtain ⟨b,hb,h⟩:=gD J;clear J;obtain ⟨ei,fy,jd,_⟩:=(hT _ _ he).info
  split at h
  ·rename_i hq;have hq:b.ae=te.size:=Nat.eq_of_beq_eq_true hq
   split at h
   ·obtain ⟨l,h,hl⟩:=mu h;obtain ⟨hh,h,jy⟩:=mu h;obtain ⟨⟨k0,k1,k2⟩,h⟩:=h;refine ⟨_,h,fun bh w0 hH=>⟨by simp,fun o ν a w hle ho ha=>?_⟩⟩
    obtain ⟨l0,eW,hB⟩:=hH.aL id b hb;have eW:=hle _ _ eW;have e1:=hl ν a (fun y hy=>ha y (mem _ y (.inl rfl) hy))
    have e2:=jy ν a (fun y hy=>ha y (mem _ y (.inr (.inl rfl)) hy))
    rcases (hx ν a (ha x vv)).O6 with ⟨lc,c',dN,pQ,hn,hr,cj⟩ | ⟨hn,je,bb,cj⟩
    ·rw [eW] at dN; cases dN;have bB:=oS (P:=P) (len:=n) (cap:=c') (lo:=lo.map a.eval) (hi:=hi.map a.eval) (mx:=none) (l:=l) (h:=hh) (m:=c') (e1.imp (fun ⟨p,q⟩=>⟨by rw [p]; rfl,q⟩) (fun x=>x)) (e2.imp (fun ⟨p,q⟩=>⟨by rw [p]; rfl,q⟩) (fun x=>x)) (.inl ⟨rfl,rfl⟩) k0 k1 (by omega) (Int.le_refl _) true w
     rw [Int.toNat_natCast] at bB;by_cases hz:c'=l.toNat
     ·have e0:hh.toNat - l.toNat=0:=by omega
      have e3:b0 - l.toNat=0:=by omega
      refine ⟨.slice (some (l0.at row 0)) 0 0,?_,?_⟩
      ·rw [e0,e3]; exact .kS _ _ _
      ·simp [execOp,ho,Instr.sliceAt,dG hu,Instr.slice,cj,bB,gu fy,hz.symm,← hz]
       first | done | omega
     ·refine ⟨.slice (some (l0.at (row+l.toNat) 0)) (hh.toNat - l.toNat) (c' - l.toNat),?_,?_⟩
      ·rw [aw]; exact .l8 _ _ _ _ _ l0 eW (by omega) (by omega) (by omega)
      ·have kT:(l0.at row 0).add (l.toNat*ei.size)=l0.at (row+l.toNat) 0:=by
        rw [Loc.jN];unfold Loc.at
        congr 1
        rw [jd,← hq,← hB.ae,Nat.add_mul]; omega
       simp [execOp,ho,Instr.sliceAt,dG hu,Instr.slice,cj,bB,gu fy,hz,kT]
    ·have bB:=oS (P:=P) (len:=n) (cap:=0) (lo:=lo.map a.eval) (hi:=hi.map a.eval) (mx:=none) (l:=l) (h:=hh) (m:=(0:Nat)) (e1.imp (fun ⟨p,q⟩=>⟨by rw [p]; rfl,q⟩) (fun x=>x)) (e2.imp (fun ⟨p,q⟩=>⟨by rw [p]; rfl,q⟩) (fun x=>x)) (.inl ⟨rfl,rfl⟩) k0 k1 (by omega) (Int.le_refl _) true w
     have e2:l.toNat=0:=by omega
     have e4:hh.toNat=0:=by omega
     refine ⟨.slice (some bb) 0 0,?_,?_⟩
     ·rw [e4,e2,je]; exact .kS _ _ _
     ·rw [e2,e4] at bB;subst hn;simp [execOp,ho,Instr.sliceAt,dG hu,Instr.slice,cj,bB,gu fy]
   ·rename_i h0 m0;obtain ⟨l,J,hl⟩:=mu h;clear h;obtain ⟨hv,h,jy⟩:=cN J;clear J;obtain ⟨mv,J,hm⟩:=cN h;clear h;have h:=J;clear J
    split at h
    ·rename_i q1 hh q2 m;obtain ⟨⟨k0,k1,k2,k3⟩,h⟩:=h;refine ⟨_,h,fun bh w0 hH=>⟨by simp,fun o ν a w hle ho ha=>?_⟩⟩
     obtain ⟨l0,eW,hB⟩:=hH.aL id b hb;have eW:=hle _ _ eW;have e1:=hl ν a (fun y hy=>ha y (mem _ y (.inl rfl) hy))
     have e2:=(jy ν a (ha h0 (mem _ h0 (.inr (.inl rfl)) (by simp)))).fN
     have e3:=(hm ν a (ha m0 (mem _ m0 (.inr (.inr rfl)) (by simp)))).fN
     rcases (hx ν a (ha x vv)).O6 with ⟨lc,c',dN,pQ,hn,hr,cj⟩ | ⟨hn,je,bb,cj⟩
     ·rw [eW] at dN; cases dN;have bB:=oS (P:=P) (len:=n) (cap:=c') (lo:=lo.map a.eval) (hi:=some (a.eval h0)) (mx:=some (a.eval m0)) (l:=l) (h:=hh) (m:=m) (e1.imp (fun ⟨p,q⟩=>⟨by rw [p]; rfl,q⟩) (fun x=>x)) (.inr ⟨q1,by rw [e2]⟩) (.inr ⟨⟨q2,by rw [e3]⟩,_,rfl⟩) k0 k1 (by omega) (by omega) true w
      by_cases hz:m.toNat=l.toNat
      ·have e0:hh.toNat - l.toNat=0:=by omega
       have e4:m.toNat - l.toNat=0:=by omega
       refine ⟨.slice (some (l0.at row 0)) 0 0,?_,?_⟩
       ·rw [e0,e4]; exact .void _ _ _ _ (.inl rfl)
       ·simp [execOp,ho,Instr.sliceAt,dG hu,Instr.slice,cj,bB,gu fy,hz,e0]
      ·refine ⟨.slice (some (l0.at (row+l.toNat) 0)) (hh.toNat - l.toNat) (m.toNat - l.toNat),?_,?_⟩
       ·rw [aw]; exact .slice _ _ _ _ _ l0 eW (.inl rfl) (by omega) (by omega)
       ·have kT:(l0.at row 0).add (l.toNat*ei.size)=l0.at (row+l.toNat) 0:=by
         rw [Loc.jN];unfold Loc.at
         congr 1
         rw [jd,← hq,← hB.ae,Nat.add_mul]; omega
        simp [execOp,ho,Instr.sliceAt,dG hu,Instr.slice,cj,bB,gu fy,hz,kT]
     ·have bB:=oS (P:=P) (len:=n) (cap:=0) (lo:=lo.map a.eval) (hi:=some (a.eval h0)) (mx:=some (a.eval m0)) (l:=l) (h:=hh) (m:=m) (e1.imp (fun ⟨p,q⟩=>⟨by rw [p]; rfl,q⟩) (fun x=>x)) (.inr ⟨q1,by rw [e2]⟩) (.inr ⟨⟨q2,by rw [e3]⟩,_,rfl⟩) k0 k1 (by omega) (by omega) true w
      have e5:l.toNat=0:=by omega
      have e6:hh.toNat=0:=by omega
      have e7:m.toNat=0:=by omega
      refine ⟨.slice (some bb) 0 0,?_,?_⟩
      ·rw [e5,e6,e7]; exact .void _ _ _ _ (.inl rfl)
      ·rw [e5,e6,e7] at bB;subst hn;simp [execOp,ho,Instr.sliceAt,dG hu,Instr.slice,cj,bB,gu fy]
    ·exact h.elim
   ·exact h.elim
  ·exact h.elim
 ·rename_i n e id row hk;rw [hk] at hd;have hd:d=.array n e:=hd;subst hd;obtain ⟨te,he,J⟩:=cO h;clear h;obtain ⟨b,hb,h⟩:=gD J;clear J;obtain ⟨ei,fy,jd,_⟩:=(hT _ _ he).info
  split at h
  ·rename_i hq;have hq:b.ae=te.size:=Nat.eq_of_beq_eq_true hq
   split at h
   ·obtain ⟨l,h,hl⟩:=mu h;obtain ⟨hh,h,jy⟩:=mu h;obtain ⟨⟨b0,b1,b2,b3,b4⟩,h⟩:=h;refine ⟨_,h,fun bh w0 hH=>⟨by simp,fun o ν a w hle ho ha=>?_⟩⟩
    obtain ⟨l0,eW,hB⟩:=hH.aL id b hb;have eW:=hle _ _ eW;obtain ⟨lp,Rg,cj⟩:=(hx ν a (ha x vv)).nV;rw [eW] at Rg; cases Rg;have cj:a.eval x=.pointer (some (l0.at row 0)):=cj;obtain ⟨_,_,_,_,fO⟩:=hB.own (ai.cZ b4).1 (ai.cZ b4).2;have e1:=hl ν a (fun y hy=>ha y (mem _ y (.inl rfl) hy))
    have e2:=jy ν a (fun y hy=>ha y (mem _ y (.inr (.inl rfl)) hy))
    have bB:=oS (P:=P) (len:=n) (cap:=n) (lo:=lo.map a.eval) (hi:=hi.map a.eval) (mx:=none) (l:=l) (h:=hh) (m:=n) (e1.imp (fun ⟨p,q⟩=>⟨by rw [p]; rfl,q⟩) (fun x=>x)) (e2.imp (fun ⟨p,q⟩=>⟨by rw [p]; rfl,q⟩) (fun x=>x)) (.inl ⟨rfl,rfl⟩) b0 b1 b2 (Int.le_refl _) false w
    rw [Int.toNat_natCast] at bB;by_cases hz:n=l.toNat
    ·have e0:hh.toNat - l.toNat=0:=by omega
     have e3:n - l.toNat=0:=by omega
     refine ⟨.slice (some (l0.at row 0)) 0 0,?_,?_⟩
     ·rw [e0,e3]; exact .void _ _ _ _ (.inl rfl)
     ·simp [execOp,ho,Instr.sliceAt,dG hu,Instr.sureAddr,cj,bB,gu fy,hz.symm,← hz,e0]
      first | done | omega
    ·refine ⟨.slice (some (l0.at (row+l.toNat) 0)) (hh.toNat - l.toNat) (n - l.toNat),?_,?_⟩
     ·rw [aw]; exact .slice _ _ _ _ _ l0 eW (.inl rfl) (by omega) (by omega)
     ·have kT:(l0.at row 0).add (l.toNat*ei.size)=l0.at (row+l.toNat) 0:=by
       rw [Loc.jN];unfold Loc.at
       congr 1
       rw [jd,← hq,← hB.ae,Nat.add_mul]; omega
      simp [execOp,ho,Instr.sliceAt,dG hu,Instr.sureAddr,cj,bB,gu fy,hz,kT]
   ·exact h.elim
  ·exact h.elim
 ·rename_i e hk;rw [hk] at hd;have hd:d=.slice e:=hd;subst hd;obtain ⟨te,he,J⟩:=cO h;clear h;obtain ⟨ei,fy,jd,_⟩:=(hT _ _ he).info
  split at J
  ·obtain ⟨l,h,hl⟩:=mu J;obtain ⟨hh,h,jy⟩:=mu h;obtain ⟨⟨b0,b1,b2⟩,h⟩:=h;refine ⟨_,h,fun bh w0 hH=>⟨by simp,fun o ν a w hle ho ha=>⟨_,.ju,?_⟩⟩⟩
   have hx:=(hx ν a (ha x vv)).qn;have e1:=hl ν a (fun y hy=>ha y (mem _ y (.inl rfl) hy))
   have e2:=jy ν a (fun y hy=>ha y (mem _ y (.inr (.inl rfl)) hy))
   have:=oS (P:=P) (len:=0) (cap:=0) (lo:=lo.map a.eval) (hi:=hi.map a.eval) (mx:=none) (l:=l) (h:=hh) (m:=0) (e1.imp (fun ⟨p,q⟩=>⟨by rw [p]; rfl,q⟩) (fun x=>x)) (e2.imp (fun ⟨p,q⟩=>⟨by rw [p]; rfl,q⟩) (fun x=>x)) (.inl ⟨rfl,rfl⟩) b0 b1 b2 (by omega) true w
   rw [show l.toNat=0 by omega,show hh.toNat=0 by omega] at this
   simp [execOp,ho,Instr.sliceAt,dG hu,Instr.slice,hx,this,gu fy]
  ·rename_i h0 m0;obtain ⟨l,h,hl⟩:=mu J;clear J;obtain ⟨hv,J,jy⟩:=cN h;clear h;obtain ⟨mv,h,hm⟩:=cN J;clear J
   split at h
   ·rename_i q1 hh q2 m;obtain ⟨⟨b0,b1,b2,b3⟩,h⟩:=h;refine ⟨_,h,fun bh w0 hH=>⟨by simp,fun o ν a w hle ho ha=>⟨_,.ju,?_⟩⟩⟩
    have hx:=(hx ν a (ha x vv)).qn;have e1:=hl ν a (fun y hy=>ha y (mem _ y (.inl rfl) hy))
    have e2:=(jy ν a (ha h0 (mem _ h0 (.inr (.inl rfl)) (by simp)))).fN
    have e3:=(hm ν a (ha m0 (mem _ m0 (.inr (.inr rfl)) (by simp)))).fN
    have:=oS (P:=P) (len:=0) (cap:=0) (lo:=lo.map a.eval) (hi:=some (a.eval h0)) (mx:=some (a.eval m0)) (l:=l) (h:=hh) (m:=m) (e1.imp (fun ⟨p,q⟩=>⟨by rw [p]; rfl,q⟩) (fun x=>x)) (.inr ⟨q1,by rw [e2]⟩)
     (.inr ⟨⟨q2,by rw [e3]⟩,_,rfl⟩) b0 b1 b2 (by omega) true w
    rw [show l.toNat=0 by omega,show hh.toNat=0 by omega,show m.toNat=0 by omega] at this
    simp [execOp,ho,Instr.sliceAt,dG hu,Instr.slice,hx,this,gu fy]
   ·exact h.elim
  ·exact J.elim
 ·exact h.elim
theorem XX (hT:∀ t ti,tt t=some ti→aB P t ti) {t:TypeId} {x:Operand} {lo hi mx:Option Operand} (h:Hp tt tmps H t x lo hi mx k):eV P (.slice t x lo hi mx) tmps H aJ k:=by
 obtain ⟨v,hk,hp⟩:=KM hT h;exact .value (by simp) hk fun o ν a w ho ha hH=>(hp ν w hH).2 o ν a w ν.le_refl ho ha
end
open Go Go.RowKit
section
variable {P:Program} {tt:TT} {Φ:zN} {o:Oper} {a:Act} {w:World} {ν:Nu} {aJ:Nat} {k:QK} {tmps:List Value} {H:ay}
theorem au.ac2 {ν:Nu} {b:Option Addr} {m c:Nat} {z:Value} (h:au ν (.slice b m c) z):∃ b' c',z=.slice b' m c':=by cases h <;> exact ⟨_,_,rfl⟩
theorem au.sE {ν:Nu} {fn:Fn} {x y:Array Value} {z:Value} (h:au ν (.func fn x y) z):∃ ys dj,z=.func fn ⟨ys⟩ ⟨dj⟩∧bf ν x.toList ys∧bf ν y.toList dj:=by
 cases h with | func _ xs ys nw dj h1 J h3 h4=>exact ⟨ys,dj,rfl,⟨h1,J⟩,⟨h3,h4⟩⟩
theorem KN (hT:∀ t ti,tt t=some ti→aB P t ti) {t:TypeId} {x ix:Operand} (h:Fs tt tmps H t x ix k):s7 P (.indexAddr t x ix) tmps H k:=by
 obtain ⟨xv,J,hx⟩:=cN h;clear h;obtain ⟨iv,h,hi⟩:=cN J;clear J
 split at h
 ·rename_i q i;obtain ⟨ti,ht,J⟩:=cO h;clear h;have h:=J;clear J;obtain ⟨d,hu,hd⟩:=(hT _ _ ht).under
  split at h
  ·rename_i e hk;rw [hk] at hd;have hd:d=.slice e:=hd;subst hd
   split at h
   ·rename_i id row m c;obtain ⟨te,he,h⟩:=cO h;obtain ⟨b,hb,h⟩:=gD h;obtain ⟨⟨h0,h1⟩,h⟩:=h
    split at h
    ·rename_i hq;have hq:b.ae=te.size:=Nat.eq_of_beq_eq_true hq;obtain ⟨ei,fy,jd,_⟩:=(hT _ _ he).info;rw [aw] at h;refine .value (by simp) h fun o ν a w ho ha hH=>?_
     have hi:=(hi ν a (ha ix (by simp [Op.operands]))).fN
     obtain ⟨l0,eW,hB⟩:=hH.aL id b hb;rcases (hx ν a (ha x (by simp [Op.operands]))).uq with ⟨l,c',hl,hc,hm,hr,cj⟩ | ⟨hm,_⟩
     ·rw [eW] at hl; cases hl;refine ⟨.pointer (some (l0.at (row+i.toNat) 0)),.ptr _ _ none _ eW,?_⟩;have al:i < (m:Int):=h1;have kT:(l0.at row 0).add (i.toNat*ei.size)=l0.at (row+i.toNat) 0:=by
       rw [Loc.jN];unfold Loc.at
       congr 1
       rw [jd,← hq,← hB.ae,Nat.add_mul]; omega
      simp [execOp,ho,Instr.indexAt,hi,asIntOf,dG hu,cj,h0,al,gu fy,kT]
     ·omega
    ·exact h.elim
   ·exact h.elim
  ·rename_i m e hk;rw [hk] at hd;have hd:d=.array m e:=hd;subst hd
   split at h
   ·rename_i id row;obtain ⟨te,he,h⟩:=cO h;obtain ⟨b,hb,h⟩:=gD h;obtain ⟨⟨h0,h1⟩,h⟩:=h;obtain ⟨ei,fy,jd,_⟩:=(hT _ _ he).info
    split at h
    ·rename_i hq;have hq:b.ae=te.size:=Nat.eq_of_beq_eq_true hq;rw [aw] at h;refine .value (by simp) h fun o ν a w ho ha hH=>?_
     have hi:=(hi ν a (ha ix (by simp [Op.operands]))).fN
     obtain ⟨l0,eW,hB⟩:=hH.aL id b hb;obtain ⟨l,hl,cj⟩:=(hx ν a (ha x (by simp [Op.operands]))).nV
     rw [eW] at hl; cases hl;refine ⟨.pointer (some (l0.at (row+i.toNat) 0)),.ptr _ _ none _ eW,?_⟩;have kT:(l0.at row 0).add (i.toNat*ei.size)=l0.at (row+i.toNat) 0:=by
      rw [Loc.jN];unfold Loc.at
      congr 1
      rw [jd,← hq,← hB.ae,Nat.add_mul]; omega
     have cj:a.eval x=.pointer (some (l0.at row 0)):=cj;simp [execOp,ho,Instr.indexAt,hi,asIntOf,dG hu,cj,Instr.sureAddr,h0,h1,gu fy,kT]
    ·refine .value (by simp) h fun o ν a w ho ha hH=>?_
     have hi:=(hi ν a (ha ix (by simp [Op.operands]))).fN
     obtain ⟨l,hl,cj⟩:=(hx ν a (ha x (by simp [Op.operands]))).nV
     have cj:a.eval x=.pointer (some (l.at row 0)):=cj;refine ⟨.pointer (some (l.at row (0+i.toNat*te.size))),.ptr _ _ (some _) _ hl,?_⟩;simp [execOp,ho,Instr.indexAt,hi,asIntOf,dG hu,cj,Instr.sureAddr,h0,h1,gu fy,Loc.jN,jd]
   ·rename_i id row c;obtain ⟨te,he,h⟩:=cO h;obtain ⟨⟨h0,h1⟩,h⟩:=h;obtain ⟨ei,fy,jd,_⟩:=(hT _ _ he).info;refine .value (by simp) h fun o ν a w ho ha hH=>?_
    have hi:=(hi ν a (ha ix (by simp [Op.operands]))).fN
    obtain ⟨l,hl,cj⟩:=(hx ν a (ha x (by simp [Op.operands]))).nV
    have cj:a.eval x=.pointer (some (l.at row c)):=cj;refine ⟨.pointer (some (l.at row (c+i.toNat*te.size))),.ptr _ _ (some _) _ hl,?_⟩;simp [execOp,ho,Instr.indexAt,hi,asIntOf,dG hu,cj,Instr.sureAddr,h0,h1,gu fy,Loc.jN,jd]
   ·exact h.elim
  ·exact h.elim
 ·exact h.elim
theorem Te (hT:∀ t ti,tt t=some ti→aB P t ti) {t:TypeId} {x ix:Operand} (h:Fs tt tmps H t x ix k):eV P (.indexAddr t x ix) tmps H aJ k:=(KN hT h).ok
theorem TL (s:ByteArray) (i:Nat) (h:i < s.size):s[i]?=some (s[i]'h)∧((s[i]'h).toNat=bW s i):=by
 refine ⟨by simp [h],?_⟩
 unfold bW;rw [List.getD_eq_getElem?_getD,Array.getElem?_toList];have:s.data[i]?=some (s[i]'h):=by rw [Array.getElem?_eq_getElem (by simpa using h)]; rfl
 rw [this]; rfl
theorem XY (hT:∀ t ti,tt t=some ti→aB P t ti) {t:TypeId} {x ix:Operand} (h:O4 tt tmps t x ix k):eV P (.index t x ix) tmps H aJ k:=by
 obtain ⟨xv,J,hx⟩:=cN h;clear h;obtain ⟨iv,h,hi⟩:=cN J;clear J
 split at h
 ·rename_i q i;obtain ⟨ti,ht,J⟩:=cO h;clear h;have h:=J;clear J;obtain ⟨d,hu,hd⟩:=(hT _ _ ht).under
  split at h
  ·rename_i hk;rw [hk] at hd;have hd:d=.string:=hd;subst hd
   split at h
   ·rename_i s;obtain ⟨⟨h0,h1⟩,h⟩:=h;have al:i.toNat < s.size:=by omega
    obtain ⟨J,h3⟩:=TL s i.toNat al;refine .value (by simp) h fun o ν a w ho ha hH=>⟨_,.int _ _,?_⟩
    have hi:=(hi ν a (ha ix (by simp [Op.operands]))).fN
    have hx:=(hx ν a (ha x (by simp [Op.operands]))).sL
    simp [execOp,ho,Instr.index,hi,asIntOf,dG hu,hx,h0,J,h3]
   ·exact h.elim
  ·exact h.elim
 ·exact h.elim
def CY (op:BinOp) (q:IntKind) (a b:Int):Sem Value :=
 match op with
 | .add | .sub | .mul=>Op.intArith op q a b
 | .quo | .rem=>Op.intDiv op q a b
 | .and | .or | .xor | .andNot=>Op.intBits op q a b
 | _=>Op.intCmp op a b
theorem Va (op:BinOp) (t:TypeId) (q:IntKind) (a b:Int) (h1:op≠.shl) (J:op≠.shr):binOp op t (.int q a) (.int q b)=CY op q a b:=by
 cases op <;> first | exact absurd rfl h1 | exact absurd rfl J | (cases q <;> rfl)
theorem binOp_shl (t:TypeId) (q q':IntKind) (a b:Int):binOp .shl t (.int q a) (.int q' b)=Op.shift .shl q a q' b:=rfl
theorem binOp_shr (t:TypeId) (q q':IntKind) (a b:Int):binOp .shr t (.int q a) (.int q' b)=Op.shift .shr q a q' b:=rfl
theorem Vb (op:BinOp) (t:TypeId) (x y:Operand) (q q':IntKind) (a b:Int) (w:World):(eqGuard op t x y (.int q a) (.int q' b)).run P w=.ok () w:=by cases op <;> rfl
theorem Vc (op:BinOp) (t:TypeId) (x y:Operand) (a b:ByteArray) (w:World):(eqGuard op t x y (.string a) (.string b)).run P w=.ok () w:=by cases op <;> rfl
theorem TM (op:BinOp) (t:TypeId) (x y:Operand) (a b:Bool) (w:World):(eqGuard op t x y (.bool a) (.bool b)).run P w=.ok () w:=by cases op <;> rfl
theorem zl {op:BinOp} {t ty:TypeId} {x y:Operand} (ho:o.op=.binOp op t x y ty) {u v z:Value} (hx:a.eval x=u) (hy:a.eval y=v) (hg:(eqGuard op t x y u v).run P w=.ok () w)
  (hb:(binOp op t u v).run P w=.ok z w):(execOp a.eval o).run P w=.ok (.value z) w:=by
 simp only [execOp,ho,hx,hy,Sem.run_bind,hg,hb,Result.andThen_ok,Sem.run_pure]
theorem CZ {op:BinOp} {t:TypeId} {q:IntKind} {x y:Int} (h:PI op q x y k):∃ z,k z none∧cG z=true∧∀ w,(CY op q x y).run P w=.ok z w:=by
 cases op <;> first | exact h.elim | skip
 case and=>exact ⟨.int q (q.wrap (BitVec.ofInt q.bits x &&& BitVec.ofInt q.bits y).toNat),h,rfl,fun w=>rfl⟩
 case or=>exact ⟨.int q (q.wrap (BitVec.ofInt q.bits x ||| BitVec.ofInt q.bits y).toNat),h,rfl,fun w=>rfl⟩
 case xor=>exact ⟨.int q (q.wrap (BitVec.ofInt q.bits x ^^^ BitVec.ofInt q.bits y).toNat),h,rfl,fun w=>rfl⟩
 case andNot=>exact ⟨.int q (q.wrap (BitVec.ofInt q.bits x &&& ~~~(BitVec.ofInt q.bits y)).toNat),h,rfl,fun w=>rfl⟩
theorem Wg {op:BinOp} {t:TypeId} {q q':IntKind} {x y:Int} (h:CC op q q' x y k):∃ z,k z none∧cG z=true∧∀ w,(binOp op t (.int q x) (.int q' y)).run P w=.ok z w:=by
 by_cases rn:op=.shl
 ·subst rn;obtain ⟨h0,h⟩:=BV h;exact ⟨_,h,rfl,fun w=>by rw [binOp_shl]; simp [Op.shift,show ¬ y < 0 by omega]⟩
 by_cases D9:op=.shr
 ·subst D9;obtain ⟨h0,h⟩:=BV h;exact ⟨_,h,rfl,fun w=>by rw [binOp_shr]; simp [Op.shift,show ¬ y < 0 by omega]⟩
 by_cases hq:q=q'
 ·subst hq;have e:=Va op t q x y rn D9;rw [e];have hd:decide (q=q)=true:=by simp
  cases op <;> first | exact absurd rfl rn | exact absurd rfl D9 | skip
  all_goals (unfold CC at h; rw [hd] at h; dsimp only at h)
  case quo=>obtain ⟨h0,h⟩:=BV h; exact ⟨_,h,rfl,fun w=>by simp [CY,Op.intDiv,h0]⟩
  case rem=>obtain ⟨h0,h⟩:=BV h; exact ⟨_,h,rfl,fun w=>by simp [CY,Op.intDiv,h0]⟩
  case and=>exact CZ (t:=t) h
  case or=>exact CZ (t:=t) h
  case xor=>exact CZ (t:=t) h
  case andNot=>exact CZ (t:=t) h
  all_goals exact ⟨_,h,rfl,fun w=>rfl⟩
 ·have hd:decide (q=q')=false:=by simp [hq]
  cases op <;> first | exact absurd rfl rn | exact absurd rfl D9 | (unfold CC at h; rw [hd] at h; exact h.elim)
theorem Wh {op:BinOp} {t:TypeId} {x y:ByteArray} (h:Od op x y k):∃ z,k z none∧cG z=true∧∀ w,(binOp op t (.string x) (.string y)).run P w=.ok z w:=by
 cases op <;> first | exact h.elim | exact ⟨_,h,rfl,fun w=>rfl⟩ | skip
 obtain ⟨h0,h⟩:=h;refine ⟨_,h,rfl,fun w=>?_⟩
 have:¬ (((x.size+y.size:Nat):Int) > IntKind.i64.max):=by
  have:IntKind.i64.max=9223372036854775807:=by decide
  rw [this]; omega
 show (Op.stringOp .add x y).run P w=_
 unfold Op.stringOp
 dsimp only
 rw [if_neg this]
 rfl
theorem sF {t:TypeId} {x y:Value} {b:Bool} (hs:∀ q a,x≠.int q a) (ar:∀ s,x≠.string s) (hf:∀ q a,x≠.float q a) (hc:∀ q a b,x≠.complex q a b) (hp:∀ a,x≠.pointer a)
  (h:(Op.equal t x y).run P w=.ok b w):(binOp .eql t x y).run P w=.ok (.bool b) w∧(binOp .neq t x y).run P w=.ok (.bool !b) w:=by
 have e1:binOp .eql t x y=(do pure (.bool (← Op.equal t x y)):Sem Value):=by
  cases x <;> first | exact absurd rfl (hs _ _) | exact absurd rfl (ar _) | exact absurd rfl (hf _ _) | exact absurd rfl (hc _ _ _) | exact absurd rfl (hp _) | rfl
 have e2:binOp .neq t x y=(do pure (.bool (!(← Op.equal t x y))):Sem Value):=by
  cases x <;> first | exact absurd rfl (hs _ _) | exact absurd rfl (ar _) | exact absurd rfl (hf _ _) | exact absurd rfl (hc _ _ _) | exact absurd rfl (hp _) | rfl
 rw [e1,e2];simp only [Sem.run_bind,h,Result.andThen_ok];exact ⟨rfl,rfl⟩
theorem run_equal_bool {t:TypeId} (hu:P.underlying t=some .bool) (b b':Bool) (w:World):(Op.equal t (.bool b) (.bool b')).run P w=.ok (b == b') w:=by
 show (Op.equalIn (9999+1) t (.bool b) (.bool b')).run P w=_
 rw [Op.equalIn];simp only [Sem.run_bind,dG hu,Result.andThen_ok]
 rfl
theorem Vd {ti:TI} {op:BinOp} {t:TypeId} {x y:Bool} (hu:ti.kind=.bool→P.underlying t=some .bool) (h:Gi ti.kind op x y k):∃ z,k z none∧cG z=true∧∀ w,(binOp op t (.bool x) (.bool y)).run P w=.ok z w:=by
 unfold Gi at h
 split at h
 ·rename_i hk;exact ⟨_,h,rfl,fun w=>(sF (by simp) (by simp) (by simp) (by simp) (by simp) (run_equal_bool (hu hk) x y w)).1⟩
 ·rename_i hk;exact ⟨_,h,rfl,fun w=>(sF (by simp) (by simp) (by simp) (by simp) (by simp) (run_equal_bool (hu hk) x y w)).2⟩
 ·exact h.elim
theorem uc:∀ {l m:List Value},fc l m=true→∀ v∈l,cG v=true
 | [],[],_=>fun v hv=>by simp at hv
 | .bool _::l,.bool _::m,h=>fun v hv=>by
  rcases List.mem_cons.1 hv with e | e
  ·rw [e]; rfl
  ·exact uc (l:=l) (m:=m) h v e
 | .int q _::l,.int q' _::m,h=>fun v hv=>by
  rcases List.mem_cons.1 hv with e | e
  ·rw [e]; rfl
  ·exact uc (l:=l) (m:=m) (by simp only [fc,Bool.and_eq_true] at h; exact h.2) v e
 | .string _::l,.string _::m,h=>fun v hv=>by
  rcases List.mem_cons.1 hv with e | e
  ·rw [e]; rfl
  ·exact uc (l:=l) (m:=m) h v e
theorem bf.kJ {ν:Nu}:∀ {l m:List Value},(∀ v∈l,cG v=true)→bf ν l m→m=l
 | [],m,_,h=>h.iU
 | v::l,m,hs,h=>by
  obtain ⟨y,ys,rfl,h1,J⟩:=h.jm;rw [h1.kJ (hs v (by simp)),bf.kJ (fun u hu=>hs u (by simp [hu])) J]
theorem Wi {eqs:List TypeId} {zero:List Value} {op:BinOp} {t:TypeId} {xs ys:List Value} (hE:∀ t∈eqs,∀ ti,tt t=some ti→yf P t ti.zero) {ti:TI} (ht:tt t=some ti) (h:GM eqs t ti.zero op xs ys k) :
  ∃ z,k z none∧cG z=true∧(∀ v∈xs,cG v=true)∧(∀ v∈ys,cG v=true)∧∀ w,(binOp op t (.agg ⟨xs⟩) (.agg ⟨ys⟩)).run P w=.ok z w∧∀ x y,(eqGuard op t x y (.agg ⟨xs⟩) (.agg ⟨ys⟩)).run P w=.ok () w:=by
 unfold GM at h
 split at h
 ·rename_i hb;simp only [Bool.and_eq_true] at hb;obtain ⟨⟨h1,J⟩,h3⟩:=hb;have hq:=hE t (by simpa using h1) ti ht
  exact ⟨_,h,rfl,uc J,uc h3,fun w=>⟨(sF (by simp) (by simp) (by simp) (by simp) (by simp) (hq xs ys w J h3).1).1,fun x y=>(hq xs ys w J h3).2 x y _⟩⟩
 ·rename_i hb;simp only [Bool.and_eq_true] at hb;obtain ⟨⟨h1,J⟩,h3⟩:=hb;have hq:=hE t (by simpa using h1) ti ht
  exact ⟨_,h,rfl,uc J,uc h3,fun w=>⟨(sF (by simp) (by simp) (by simp) (by simp) (by simp) (hq xs ys w J h3).1).2,fun x y=>(hq xs ys w J h3).2 x y _⟩⟩
 ·exact h.elim
theorem Tf (op:BinOp) (t:TypeId) (x y:Operand) (a b:Option Addr) (n c n' c':Nat) (w:World):(eqGuard op t x y (.slice a n c) (.slice b n' c')).run P w=.ok () w:=by cases op <;> rfl
theorem au.Ve {ν:Nu} {a:Option Addr} {n c:Nat} {z:Value} (h:au ν (.slice a n c) z):∃ a' n' c',z=.slice a' n' c'∧a'.isNone=a.isNone:=by
 cases h with
 | ju=>exact ⟨none,0,0,rfl,rfl⟩
 | slice id row n c c' l h hc hn hr=>exact ⟨_,_,_,rfl,rfl⟩
 | void id row c a hc=>exact ⟨_,_,_,rfl,rfl⟩
 | l8 id row m n c' l h hm hn hr=>exact ⟨_,_,_,rfl,rfl⟩
 | kS id row a=>exact ⟨_,_,_,rfl,rfl⟩
theorem Bo {t e:TypeId} (hu:P.underlying t=some (.slice e)) (a:Option Addr) (n c:Nat) (w:World):(Op.equal t (.slice a n c) (.slice none 0 0)).run P w=.ok a.isNone w:=by
 show (Op.equalIn (9999+1) t (.slice a n c) (.slice none 0 0)).run P w=_
 rw [Op.equalIn];simp only [Sem.run_bind,dG hu,Result.andThen_ok];cases a <;> rfl
theorem Wj {ti:TI} {op:BinOp} {t:TypeId} {a:Option Addr} (hu:∀ e,ti.kind=.slice e→P.underlying t=some (.slice e)) (h:GN ti.kind op a k) :
  ∃ z,k z none∧cG z=true∧∀ (a':Option Addr) (n c:Nat) w,a'.isNone=a.isNone→(binOp op t (.slice a' n c) (.slice none 0 0)).run P w=.ok z w:=by
 unfold GN at h
 split at h
 ·rename_i e hk;refine ⟨_,h,rfl,fun a' n c w ha=>?_⟩
  rw [(sF (by simp) (by simp) (by simp) (by simp) (by simp) (Bo (hu _ hk) a' n c w)).1,ha]; rfl
 ·rename_i e b hk;refine ⟨_,h,rfl,fun a' n c w ha=>?_⟩
  rw [(sF (by simp) (by simp) (by simp) (by simp) (by simp) (Bo (hu _ hk) a' n c w)).1,ha]; rfl
 ·rename_i e hk;refine ⟨_,h,rfl,fun a' n c w ha=>?_⟩
  rw [(sF (by simp) (by simp) (by simp) (by simp) (by simp) (Bo (hu _ hk) a' n c w)).2,ha]; rfl
 ·rename_i e b hk;refine ⟨_,h,rfl,fun a' n c w ha=>?_⟩
  rw [(sF (by simp) (by simp) (by simp) (by simp) (by simp) (Bo (hu _ hk) a' n c w)).2,ha]; rfl
 ·exact h.elim
theorem Ly (hT:∀ t ti,tt t=some ti→aB P t ti) {eqs:List TypeId} (hE:∀ t∈eqs,∀ ti,tt t=some ti→yf P t ti.zero) {op:BinOp} {t ty:TypeId} {x y:Operand} (h:DN tt eqs tmps op t x y k):∃ v,k v none∧∀ bh,qL P bh (.binOp op t x y ty) tmps v:=by
 obtain ⟨xv,J,hx⟩:=cN h;clear h;obtain ⟨yv,h,hy⟩:=cN J;clear J
 split at h
 ·obtain ⟨z,hk,hs,hr⟩:=Wg (P:=P) (t:=t) h;refine ⟨_,hk,fun bh=>⟨by simp,fun o ν a w hle ho ha=>⟨_,au.kH hs,?_⟩⟩⟩
  exact zl ho (hx ν a (ha x (by simp [Op.operands]))).fN (hy ν a (ha y (by simp [Op.operands]))).fN (Vb ..) (hr w)
 ·obtain ⟨z,hk,hs,hr⟩:=Wh (P:=P) (t:=t) h;refine ⟨_,hk,fun bh=>⟨by simp,fun o ν a w hle ho ha=>⟨_,au.kH hs,?_⟩⟩⟩
  exact zl ho (hx ν a (ha x (by simp [Op.operands]))).sL (hy ν a (ha y (by simp [Op.operands]))).sL (Vc ..) (hr w)
 ·obtain ⟨ti,ht,h⟩:=cO h;obtain ⟨d,hu,hd⟩:=(hT _ _ ht).under;obtain ⟨z,hk,hs,hr⟩:=Vd (P:=P) (t:=t) (fun hk=>by rw [hk] at hd; have hd:d=.bool:=hd; rw [hu,hd]) h
  refine ⟨_,hk,fun bh=>⟨by simp,fun o ν a w hle ho ha=>⟨_,au.kH hs,?_⟩⟩⟩
  exact zl ho (hx ν a (ha x (by simp [Op.operands]))).j7 (hy ν a (ha y (by simp [Op.operands]))).j7 (TM ..) (hr w)
 ·rename_i xs ys;obtain ⟨ti,ht,h⟩:=cO h;obtain ⟨z,hk,hs,h1,J,hr⟩:=Wi (xs:=xs.toList) (ys:=ys.toList) (zero:=[]) hE ht h;refine ⟨_,hk,fun bh=>⟨by simp,fun o ν a w hle ho ha=>⟨_,au.kH hs,?_⟩⟩⟩
  obtain ⟨nw,tD,oi⟩:=au.uO (xs:=xs.toList) (hx ν a (ha x (by simp [Op.operands])))
  obtain ⟨dj,ny,oj⟩:=au.uO (xs:=ys.toList) (hy ν a (ha y (by simp [Op.operands])))
  rw [bf.kJ h1 oi] at tD;rw [bf.kJ J oj] at ny;exact zl ho tD ny ((hr w).2 x y) (hr w).1
 ·rename_i b n c;obtain ⟨ti,ht,h⟩:=cO h;obtain ⟨d,hu,hd⟩:=(hT _ _ ht).under;obtain ⟨z,hk,hs,hr⟩:=Wj (P:=P) (t:=t) (fun e hk=>by rw [hk] at hd; have hd:d=.slice e:=hd; rw [hu,hd]) h
  refine ⟨_,hk,fun bh=>⟨by simp,fun o ν a w hle ho ha=>⟨_,au.kH hs,?_⟩⟩⟩
  obtain ⟨a1,n1,c1,e1,h1⟩:=(hx ν a (ha x (by simp [Op.operands]))).Ve
  have e2:a.eval y=.slice none 0 0:=by
   have J:=hy ν a (ha y (by simp [Op.operands]))
   generalize a.eval y=z at J;cases J
   rfl
  exact zl ho e1 e2 (Tf ..) (hr a1 n1 c1 w h1)
 ·exact h.elim
theorem ac3 (hT:∀ t ti,tt t=some ti→aB P t ti) {eqs:List TypeId} (hE:∀ t∈eqs,∀ ti,tt t=some ti→yf P t ti.zero) {op:BinOp} {t ty:TypeId} {x y:Operand} (h:DN tt eqs tmps op t x y k):eV P (.binOp op t x y ty) tmps H aJ k:=by
 obtain ⟨v,hk,hp⟩:=Ly hT hE (ty:=ty) h;exact .value (by simp) hk fun o ν a w ho ha hH=>(hp ν).2 o ν a w ν.le_refl ho ha
theorem Of {P:Program} {t:TypeId} {ty:TypeId} {d:TypeDesc} (hu:P.underlying t=some d) {x:Value} {m:Int} (w:World)
  (h:(∃ s,d=.string∧x=.string s∧m=s.size)∨(∃ e b n c,d=.slice e∧x=.slice b n c∧m=(n:Int))) :
  (Builtin.len_ #[t] ty #[x]).run P w=.ok (.int .i64 m) w:=by
 rcases h with ⟨s,rfl,rfl,rfl⟩ | ⟨e,b,n,c,rfl,rfl,rfl⟩ <;> simp [Builtin.len_,dG hu,goInt]
theorem O7 (hT:∀ t ti,tt t=some ti→aB P t ti) {c:Call} (hc:c.callee=.builtin .len) {t:TypeId} {x:Operand} (hx:c.args=#[x]) (ht:c.argTypes=#[t]) (h:Iu tmps tt t x k):s7 P (.call c) tmps H k:=by
 obtain ⟨xv,J,hv⟩:=cN h;clear h;obtain ⟨ti,Ji,h⟩:=cO J;clear J;obtain ⟨d,hu,hd⟩:=(hT _ _ Ji).under
 split at h
 ·rename_i s hk;rw [hk] at hd;refine .value (by simp) h fun o ν a w ho ha hH=>⟨_,.int _ _,?_⟩
  have hv:=hv ν a (ha x (by simp [Op.operands,Call.operands,hc,hx]))
  have hr:=Of (P:=P) (ty:=o.type) hu w (.inl ⟨_,hd,hv.sL,rfl⟩);simp [execOp,ho,resolve,hc,hx,ht,invoke,builtin,hr]
 ·rename_i e b m c hk;rw [hk] at hd;refine .value (by simp) h fun o ν a w ho ha hH=>⟨_,.int _ _,?_⟩
  obtain ⟨b',c',he⟩:=(hv ν a (ha x (by simp [Op.operands,Call.operands,hc,hx]))).ac2
  have hr:=Of (P:=P) (ty:=o.type) hu w (.inr ⟨_,_,_,_,hd,he,rfl⟩);simp [execOp,ho,resolve,hc,hx,ht,invoke,builtin,hr]
 ·exact h.elim
theorem ac4 (hT:∀ t ti,tt t=some ti→aB P t ti) {c:Call} (hc:c.callee=.builtin .len) {t:TypeId} {x:Operand} (hx:c.args=#[x]) (ht:c.argTypes=#[t]) (h:Iu tmps tt t x k):eV P (.call c) tmps H aJ k:=(O7 hT hc hx ht h).ok
theorem ac5 {c:Call} (hc:c.callee=.builtin .max) {x y:Operand} (hx:c.args=#[x,y]) (h:Qm tmps x y k):eV P (.call c) tmps H aJ k:=by
 obtain ⟨xv,J,h1⟩:=cN h;clear h;obtain ⟨yv,h,J⟩:=cN J
 split at h
 ·refine .value (by simp) h fun o ν a w ho ha hH=>⟨_,.int _ _,?_⟩
  have h1:=(h1 ν a (ha x (by simp [Op.operands,Call.operands,hc,hx]))).fN
  have J:=(J ν a (ha y (by simp [Op.operands,Call.operands,hc,hx]))).fN
  simp [execOp,ho,resolve,hc,hx,invoke,builtin,Builtin.max_,h1,J,Builtin.max2]
 ·exact h.elim
theorem ac6 {c:Call} (hc:c.callee=.builtin .min) {x y:Operand} (hx:c.args=#[x,y]) (h:Qn tmps x y k):eV P (.call c) tmps H aJ k:=by
 obtain ⟨xv,J,h1⟩:=cN h;clear h;obtain ⟨yv,h,J⟩:=cN J
 split at h
 ·refine .value (by simp) h fun o ν a w ho ha hH=>⟨_,.int _ _,?_⟩
  have h1:=(h1 ν a (ha x (by simp [Op.operands,Call.operands,hc,hx]))).fN
  have J:=(J ν a (ha y (by simp [Op.operands,Call.operands,hc,hx]))).fN
  simp [execOp,ho,resolve,hc,hx,invoke,builtin,Builtin.min_,h1,J,Builtin.min2]
 ·exact h.elim
theorem FN {fs:List (Nat × Nat × Bool)}
  {C0:Nat→Option (Nat × Nat)} (hp:∀ (i:Nat) x,fs[i]?=some x→C0 i=some (x.1,x.2.1)) :
  ∀ {ps:List (Nat × Operand)} {cs:List Value} {k:List Value→Prop},Dk tmps fs ps cs k →
  ∃ ds,k ds∧∀ (ν:Nu) (a:Act),(∀ p∈ps,fm ν tmps a p.2)→∀ (eU:List Value),bf ν cs eU→∃ tE,bf ν ds tE∧Instr.fill C0 ⟨eU⟩ (ps.map fun p=>(p.1,a.eval p.2))=some ⟨tE⟩
 | [],cs,k,h=>⟨cs,h,fun ν a _ eU hc=>⟨eU,hc,rfl⟩⟩
 | p::ps,cs,k,h=>by
  obtain ⟨v,J,hv⟩:=cN h;clear h;have h:=Bz J;clear J;obtain ⟨x,hx,J⟩:=BA h;clear h
  split at J
  ·rename_i bc;obtain ⟨hl,h1⟩:=yH bc;obtain ⟨cs2,h3,jc,hle,l9,yg⟩:=yU J;obtain ⟨ds,k1,k0⟩:=FN hp h3;refine ⟨ds,k1,fun ν a ha eU hc=>?_⟩
   have vK:=(hv ν a (ha p (by simp))).cells
   -- the same cells written over in the real struct
   have HS:∀ (us:List Value) (o:Nat) (acc:List Value) (m:Nat),((us.zipIdx m).foldl (fun cs (c,j)=>cs.setIfInBounds (o+j) c) (⟨acc⟩:Array Value)).size=acc.length ∧
     ∀ j,((us.zipIdx m).foldl (fun cs (c,j)=>cs.setIfInBounds (o+j) c) (⟨acc⟩:Array Value))[j]?=if j < acc.length∧o+m≤j∧j < o+m+us.length then us[j - (o+m)]? else acc[j]?:=by
    intro us
    induction us with
    | nil =>
     intro o acc m;refine ⟨by simp,fun j=>?_⟩
     simp
     intros
     omega
    | cons u us ih =>
     intro o acc m;simp only [List.zipIdx_cons,List.foldl_cons];have e:(⟨acc⟩:Array Value).setIfInBounds (o+m) u=⟨acc.set (o+m) u⟩:=by apply Array.ext'; simp
     rw [e];obtain ⟨i1,i2⟩:=ih o (acc.set (o+m) u) (m+1);refine ⟨by rw [i1]; simp,fun j=>?_⟩
     rw [i2 j];simp only [List.length_set,List.length_cons];by_cases hj:j < acc.length
     ·by_cases h1:o+(m+1)≤j∧j < o+(m+1)+us.length
      ·rw [if_pos ⟨hj,h1⟩,if_pos ⟨hj,by omega,by omega⟩]
       rw [show j - (o+m)=(j - (o+(m+1)))+1 by omega]; simp
      ·rw [if_neg (by omega)]
       by_cases J:j=o+m
       ·subst J;rw [if_pos ⟨hj,by omega,by omega⟩]
        simp [List.getElem?_set,hj]
       ·rw [if_neg (by omega),List.getElem?_set_ne (by omega)]
     ·rw [if_neg (by omega),if_neg (by omega)]
      rw [List.getElem?_eq_none (by simp; omega),List.getElem?_eq_none (by omega)]
   obtain ⟨f1,f2⟩:=HS (a.eval p.2).cells.toList x.1 eU 0;generalize Iw:(((a.eval p.2).cells.toList.zipIdx 0).foldl (fun cs (c,j)=>cs.setIfInBounds (x.1+j) c) (⟨eU⟩:Array Value))=G at f1 f2
   have Ix:bf ν cs2 G.toList:=by
    refine ⟨by rw [jc,hc.1]; simpa using f1.symm,fun j y z hy hz=>?_⟩
    rw [Array.getElem?_toList,f2 j] at hz
    split at hz
    ·rename_i hj;have al:j - (x.1+0) < v.cells.toList.length:=by rw [vK.1]; omega
     have:=l9 (j - (x.1+0)) _ (List.getElem?_eq_getElem al);rw [show x.1+(j - (x.1+0))=j by omega] at this
     rw [this] at hy; cases hy;exact vK.2 _ _ _ (List.getElem?_eq_getElem al) hz
    ·rename_i hj;have ac7:=yg j (by
      have Jj:j < eU.length:=(List.getElem?_eq_some_iff.1 hz).1;have:=vK.1;omega)
     rw [ac7] at hy;exact hc.2 _ _ _ hy hz
   obtain ⟨tE,k2,k3⟩:=k0 ν a (fun q hq=>ha q (by simp [hq])) _ Ix
   refine ⟨tE,k2,?_⟩;have u0:(a.eval p.2).cells.size=x.2.1:=by rw [← Array.length_toList,← vK.1,hl]
   simp only [List.map_cons,Instr.fill,hp p.1 x hx];rw [if_neg]
   ·have:(((a.eval p.2).cells.zipIdx).foldl (fun cs (c,j)=>cs.setIfInBounds (x.1+j) c) (⟨eU⟩:Array Value))=⟨G.toList⟩:=by
     rw [← Iw,← Array.foldl_toList];simp
    rw [this];exact k3
   ·have:((⟨eU⟩:Array Value).size)=cs.length:=by simp [hc.1]
    simp only [u0,this];simp;omega
  ·exact J.elim
theorem Mu {sz:Nat}:∀ {n off i:Nat} {x:Nat × Nat × Bool},(xS sz off n)[i]?=some x→x.1=off+i*sz∧x.2.1=sz
 | 0,off,i,x,h=>by simp [xS] at h
 | n+1,off,0,x,h=>by simp [xS] at h; subst h; simp
 | n+1,off,i+1,x,h=>by
  obtain ⟨h1,J⟩:=Mu (n:=n) (off:=off+sz) (i:=i) (by simpa [xS] using h)
  exact ⟨by rw [h1,Nat.succ_mul]; omega,J⟩
theorem XZ (hT:∀ t ti,tt t=some ti→aB P t ti) {t:TypeId} {ps:Array (Nat × Operand)} (h:O5 tt tmps t ps.toList k):eV P (.build t ps) tmps H aJ k:=by
 obtain ⟨ti,ht,J⟩:=cO h;clear h;have bc:=hT _ _ ht;obtain ⟨d,hu,hd⟩:=bc.under;obtain ⟨i,hi,_,_,z,hz,iB⟩:=bc.info
 split at J
 ·rename_i fs hk;rw [hk] at hd;obtain ⟨fields,rfl,aW,hf⟩:=hd
  -- the places that the model reckons
  have aeJ:∀ (w:World) (l:List Field) (m:List (Nat × Nat × Bool)),l.length=m.length→(∀ (i:Nat) f x,l[i]?=some f→m[i]?=some x→zk P f x) →
    (l.mapM (m:=Sem) fun f=>do pure (f.offset,← sizeOf f.type)).run P w=.ok (m.map fun x=>(x.1,x.2.1)) w:=by
   intro w l
   induction l with
   | nil=>intro m hl _; cases m with
    | nil=>rfl
    | cons=>simp at hl
   | cons f l ih =>
    intro m hl hf;cases m with
    | nil=>simp at hl
    | cons x m =>
     obtain ⟨h1,J,⟨i,h3,h4⟩,_⟩:=hf 0 f x rfl rfl;have ih:=ih m (by simpa using hl) (fun i f' x' h h'=>hf (i+1) f' x' (by simpa using h) (by simpa using h'))
     simp only [List.mapM_cons,Sem.run_bind,gu h3,Result.andThen_ok,Sem.run_pure,ih,List.map_cons,h1,h4]
  obtain ⟨ds,k1,k0⟩:=FN (C0:=((fs.map fun x=>(x.1,x.2.1)).toArray[·]?)) (fun i x hx=>by simp [hx]) J
  refine .value (by simp) k1 fun o ν a w ho ha hH=>?_
  have hm:=aeJ w fields.toList fs (by simpa using aW) (fun i f x h h'=>hf i f x (by simpa using h) h')
  obtain ⟨tE,k2,k3⟩:=k0 ν a (fun p hp=>ha p.2 (by simp [Op.operands]; exact ⟨p.1,by simpa using hp⟩)) _ (bc.self ν)
  refine ⟨.agg ⟨tE⟩,.agg _ _ k2.1 k2.2,?_⟩;simp only [execOp,ho,Instr.build,Sem.run_bind,wA hi hz,Result.andThen_ok,dG hu,iB];have Jk:(fields.mapM (m:=Sem) fun f=>do pure (f.offset,← sizeOf f.type)).run P w=.ok (fs.map fun x=>(x.1,x.2.1)).toArray w:=by
   rw [Array.mapM_eq_mapM_toList];simp only [Sem.run_map,hm,Result.andThen_ok]
  simp only [Jk,Sem.run_bind,Result.andThen_ok];have e:(ps.map fun x=>(x.1,a.eval x.2)).toList=ps.toList.map fun p=>(p.1,a.eval p.2):=by simp
  have e2:(ps.map fun (x:Nat × Operand)=>match x with | (i,x)=>(i,a.eval x))=(ps.map fun x=>(x.1,a.eval x.2)):=rfl
  rw [e2,e,k3]
  rfl
 ·rename_i n e hk;rw [hk] at hd;have hd:d=.array n e:=hd;subst hd;obtain ⟨te,he,h⟩:=cO J;obtain ⟨ei,fy,jd,_⟩:=(hT _ _ he).info;obtain ⟨ds,k1,k0⟩:=FN (C0:=fun i=>some (i*ei.size,ei.size)) (fun i x hx=>by
   obtain ⟨h1,J⟩:=Mu hx;rw [h1,J,jd,Nat.zero_add]) h
  refine .value (by simp) k1 fun o ν a w ho ha hH=>?_
  obtain ⟨tE,k2,k3⟩:=k0 ν a (fun p hp=>ha p.2 (by simp [Op.operands]; exact ⟨p.1,by simpa using hp⟩)) _ (bc.self ν)
  refine ⟨.agg ⟨tE⟩,.agg _ _ k2.1 k2.2,?_⟩;simp only [execOp,ho,Instr.build,Sem.run_bind,wA hi hz,Result.andThen_ok,dG hu,iB,gu fy];have e:(ps.map fun x=>(x.1,a.eval x.2)).toList=ps.toList.map fun p=>(p.1,a.eval p.2):=by simp
  have e2:(ps.map fun (x:Nat × Operand)=>match x with | (i,x)=>(i,a.eval x))=(ps.map fun x=>(x.1,a.eval x.2)):=rfl
  rw [e2,e,k3]
  rfl
 ·exact J.elim
end
open Go Go.RowKit
section
variable {P:Program} {tt:TT} {w:World} {ν:Nu} {aJ:Nat} {k:QK} {tmps:List Value} {H:ay}
theorem KG (z:Array Value) (n j:Nat) (h:j < n) (hz:0 < z.size):(madeCells z n)[j]?=z[j % z.size]?:=by
 unfold madeCells;rw [Array.getElem?_map,Array.getElem?_range,if_pos h];simp only [Option.map_some];have:j % z.size < z.size:=Nat.mod_lt _ hz;rw [Array.getElem?_eq_getElem this];simp [this]
theorem GO (r e j:Nat) (h:j < e):(r*e+j) % e=j:=by
 rw [Nat.add_comm,Nat.add_mul_mod_self_right,Nat.mod_eq_of_lt h]
theorem Tg (hT:∀ t ti,tt t=some ti→aB P t ti) {t:TypeId} {x y:Operand} (h:Lv tt tmps t x y aJ k):eV P (.makeSlice t x y) tmps H aJ k:=by
 obtain ⟨xv,J,hx⟩:=cN h;clear h;obtain ⟨yv,h,hy⟩:=cN J;clear J;obtain ⟨ti,ht,J⟩:=cO h;clear h;obtain ⟨d,hu,hd⟩:=(hT _ _ ht).under
 split at J
 ·rename_i e hk;rw [hk] at hd;have hd:d=.slice e:=hd;subst hd;obtain ⟨te,he,h⟩:=cO J;clear J;have bc:=hT _ _ he;obtain ⟨i,hi,gA,nz,z,hz,iB⟩:=bc.info
  split at h
  ·rename_i q n q' m c5;obtain ⟨⟨b0,b1,b2⟩,h⟩:=h;refine ⟨_,_,h,fun o ν a w r nn ho ha hH hn next Q hN=>?_⟩
   have hx:=(hx ν a (ha x (by simp [Op.operands]))).fN
   have hy:=(hy ν a (ha y (by simp [Op.operands]))).fN
   have lP:=bc.bit;have Rh:m≤m*te.bytes:=by
    have:m*1≤m*(te.bytes:Int):=Int.mul_le_mul_of_nonneg_left (by omega) (by omega)
    omega
   have bB:=run_make (P:=P) w t e i z hu hi hz q q' n m b0 b1 (by rw [nz,Int.mul_comm]; omega) (by omega)
   refine jH (w':=w.alloc (.cells (madeCells z.cells (m.toNat*i.size)) e)) (v':=.slice (some ⟨w.heap.size,0,none⟩) n.toNat m.toNat) (by simp [ho]) (by simp [execOp,ho,hx,hy,bB]) next Q
    (hN _ _ (ν.add aJ ⟨w.heap.size,0,te.size,m.toNat⟩) (mW hn ?_ (yP _ _) (Nat.le_refl _) ?_))
   ·have dE:(w.alloc (.cells (madeCells z.cells (m.toNat*i.size)) e)).heap[w.heap.size]?=some (.cells (madeCells z.cells (m.toNat*i.size)) e (0,0)):=by show (w.heap.push _)[w.heap.size]?=_; simp
    have jz:z.cells.size=te.size:=by rw [iB]; simpa using bc.len
    refine ⟨rfl,fun r hr=>bc.len,fun r hr j v hv=>⟨v,?_,au.kH (dI c5 v (List.mem_of_getElem? hv))⟩,fun _ r hr v hv=>dI c5 v hv,fun r hr v hv=>bc.one v hv,fun _ _=>⟨_,_,dE,?_,?_⟩,(fun r h=>nomatch h),?_⟩
    ·have hr:r < n.toNat:=hr;have hv:te.zero[j]?=some v:=hv;have hj:j < te.size:=by rw [← bc.len]; exact (List.getElem?_eq_some_iff.1 hv).1
     simp only [Loc.at,World.cell?,Nat.zero_add];rw [dE];have al:r*te.size+j < m.toNat*i.size:=by
      rw [gA];have:(r+1)*te.size≤m.toNat*te.size:=Nat.mul_le_mul_right _ (by omega)
      rw [Nat.add_mul] at this; omega
     simp only [Option.isSome_none,Bool.false_eq_true,if_false];rw [KG _ _ _ al (by omega),jz,GO _ _ _ hj,iB]
     simpa using hv
    ·simp [size_madeCells,gA]
    ·simp only [ai.n]; omega
    ·show w.heap.size < (w.alloc _).heap.size
     simp
   ·have:=au.slice (ν:=ν.add aJ ⟨w.heap.size,0,te.size,m.toNat⟩) aJ 0 n.toNat m.toNat m.toNat _ Nu.add_same (.inl rfl) (by omega) (by simp)
    simpa [Loc.at] using this
  ·exact h.elim
 ·exact J.elim
theorem Mv:∀ {n:Nat} {r:List Value} {k:List (List Value)→Prop},Iv n r k→k (List.replicate n r)
 | 0,_,_,h=>h
 | n+1,r,k,h=>by have:=Mv (n:=n) h; simpa [List.replicate_succ] using this
theorem K9:∀ {rs:List (List Value)} {n:Nat} {r:List Value} {k:List (List Value)→Prop},setRow rs n r k→n < rs.length∧k (rs.set n r)
 | [],_,_,_,h=>h.elim
 | _::rs,0,_,_,h=>⟨by simp,h⟩
 | q::rs,n+1,r,k,h=>by obtain ⟨h1,J⟩:=K9 (rs:=rs) h; exact ⟨by simpa using h1,by simpa using J⟩
def CD (ν:Nu) (sz:Nat) (rows:List (List Value)) (C:Array Value):Prop :=
 C.size=rows.length*sz∧(∀ row∈rows,row.length=sz)∧∀ r j row v,rows[r]?=some row→row[j]?=some v→∃ v',C[r*sz+j]?=some v'∧au ν v v'
theorem La {sz n:Nat}:∀ {ps:List (Nat × Operand)} {rows:List (List Value)} {k:List (List Value)→Prop},rowsOf tmps sz ps rows k→rows.length=n →
  ∃ iX,k iX∧iX.length=n∧((∀ row∈rows,∀ v∈row,v.oneCell'=true)→∀ row∈iX,∀ v∈row,v.oneCell'=true) ∧
   ∀ (ν:Nu) (a:Act),(∀ p∈ps,fm ν tmps a p.2)→∀ C,CD ν sz rows C→∃ C',CD ν sz iX C'∧Instr.fill (fun i=>some (i*sz,sz)) C (ps.map fun p=>(p.1,a.eval p.2))=some C'
 | [],rows,k,h,hl=>⟨rows,h,hl,fun h=>h,fun ν a _ C hC=>⟨C,hC,rfl⟩⟩
 | p::ps,rows,k,h,hl=>by
  obtain ⟨v,J,hv⟩:=cN h;clear h;have h:=Bz J;clear J
  split at h
  ·rename_i bc;obtain ⟨hlen,q7⟩:=yH bc;obtain ⟨al,J⟩:=K9 h;obtain ⟨iX,k1,k2,k3,k4⟩:=La (n:=n) (ps:=ps) J (by rw [List.length_set]; exact hl)
   refine ⟨iX,k1,k2,fun h0=>k3 (fun row a8 u hu=>?_),fun ν a ha C hC=>?_⟩
   ·rcases List.mem_or_eq_of_mem_set a8 with h | h
    ·exact h0 row h u hu
    ·rw [h] at hu; exact q7 u hu
   ·obtain ⟨c1,c2,c3⟩:=hC;have vK:=(hv ν a (ha p (by simp))).cells
    have u0:(a.eval p.2).cells.size=sz:=by rw [← Array.length_toList,← vK.1,hlen]
    have HS:∀ (us:List Value) (o:Nat) (acc:Array Value) (m:Nat),((us.zipIdx m).foldl (fun cs (c,j)=>cs.setIfInBounds (o+j) c) acc).size=acc.size ∧
      ∀ j,((us.zipIdx m).foldl (fun cs (c,j)=>cs.setIfInBounds (o+j) c) acc)[j]?=if j < acc.size∧o+m≤j∧j < o+m+us.length then us[j - (o+m)]? else acc[j]?:=by
     intro us
     induction us with
     | nil =>
      intro o acc m;refine ⟨by simp,fun j=>?_⟩
      simp
      intros
      omega
     | cons u us ih =>
      intro o acc m;simp only [List.zipIdx_cons,List.foldl_cons];obtain ⟨i1,i2⟩:=ih o (acc.setIfInBounds (o+m) u) (m+1);refine ⟨by rw [i1]; simp,fun j=>?_⟩
      rw [i2 j];simp only [Array.size_setIfInBounds,List.length_cons];by_cases hj:j < acc.size
      ·by_cases h1:o+(m+1)≤j∧j < o+(m+1)+us.length
       ·rw [if_pos ⟨hj,h1⟩,if_pos ⟨hj,by omega,by omega⟩]
        rw [show j - (o+m)=(j - (o+(m+1)))+1 by omega]; simp
       ·rw [if_neg (by omega)]
        by_cases J:j=o+m
        ·subst J;rw [if_pos ⟨hj,by omega,by omega⟩]
         simp [hj]
        ·rw [if_neg (by omega),Array.getElem?_setIfInBounds_ne (by omega)]
      ·rw [if_neg (by omega),if_neg (by omega)]
       rw [Array.getElem?_eq_none (by simp; omega),Array.getElem?_eq_none (by omega)]
    obtain ⟨f1,f2⟩:=HS (a.eval p.2).cells.toList (p.1*sz) C 0;have eZ:(a.eval p.2).cells.toList.length=sz:=by simpa using u0
    have hbound:(p.1+1)*sz≤rows.length*sz:=Nat.mul_le_mul_right _ al;rw [Nat.add_mul] at hbound;have Iw:(((a.eval p.2).cells.toList.zipIdx 0).foldl (fun cs (c,j)=>cs.setIfInBounds (p.1*sz+j) c) C)=((a.eval p.2).cells.zipIdx.foldl (fun cs (c,j)=>cs.setIfInBounds (p.1*sz+j) c) C):=by
     rw [← Array.foldl_toList]; simp
    have Ix:CD ν sz (rows.set p.1 v.cells.toList) ((a.eval p.2).cells.zipIdx.foldl (fun cs (c,j)=>cs.setIfInBounds (p.1*sz+j) c) C):=by
     rw [← Iw];refine ⟨by rw [f1,c1,List.length_set],fun row a8=>?_,fun r j row u hr hj=>?_⟩
     ·rcases List.mem_or_eq_of_mem_set a8 with h | h
      ·exact c2 row h
      ·rw [h]; exact hlen
     ·rw [f2];have afI:j < sz:=by
       have gL:=List.mem_of_getElem? hr;have:row.length=sz:=by
        rcases List.mem_or_eq_of_mem_set gL with h | h
        ·exact c2 row h
        ·rw [h]; exact hlen
       rw [← this]; exact (List.getElem?_eq_some_iff.1 hj).1
      by_cases e:r=p.1
      ·subst e;rw [List.getElem?_set_self al] at hr;cases hr;rw [if_pos ⟨by omega,by omega,by omega⟩]
       rw [show p.1*sz+j - (p.1*sz+0)=j by omega]
       exact vK.get hj
      ·rw [List.getElem?_set_ne (Ne.symm e)] at hr;have aD:¬ (p.1*sz+0≤r*sz+j∧r*sz+j < p.1*sz+0+(a.eval p.2).cells.toList.length):=by
        rw [eZ];rcases Nat.lt_or_ge r p.1 with h | h
        ·have:(r+1)*sz≤p.1*sz:=Nat.mul_le_mul_right _ h;rw [Nat.add_mul] at this; omega
        ·have:(p.1+1)*sz≤r*sz:=Nat.mul_le_mul_right _ (by omega)
         rw [Nat.add_mul] at this; omega
       rw [if_neg (fun h=>aD h.2)]
       exact c3 r j row u hr hj
    obtain ⟨C',q1,q2⟩:=k4 ν a (fun q hq=>ha q (by simp [hq])) _ Ix
    refine ⟨C',q1,?_⟩;simp only [List.map_cons,Instr.fill];rw [if_neg]
    ·exact q2
    ·simp only [u0];simp;omega
  ·exact h.elim
theorem Th {ae:Nat} {rows:List (List Value)} {k:ai→Prop} (h:Ho ae rows k):∃ b,k b∧∀ (ν:Nu) (l:Loc) (w:World),bP ν l (.aP true ae rows) w→bP ν l b w:=by
 unfold Ho at h
 split at h
 ·refine ⟨_,h,fun ν l w hB=>⟨hB.ae,fun r hr=>absurd hr (Nat.not_lt_zero r),fun r hr=>absurd hr (Nat.not_lt_zero r),fun _ r hr=>absurd hr (Nat.not_lt_zero r),fun r hr=>absurd hr (Nat.not_lt_zero r),fun _ _=>?_,(fun r h=>nomatch h),hB.live⟩⟩
  obtain ⟨cur,t,h1,J,_⟩:=hB.own rfl rfl;exact ⟨cur,t,h1,J,Nat.zero_le _⟩
 ·exact ⟨_,h,fun ν l w hB=>hB⟩
theorem SP (hT:∀ t ti,tt t=some ti→aB P t ti) {t:TypeId} {n:Nat} {ps:Array (Nat × Operand)} (h:K8 tt tmps t n ps.toList aJ k):eV P (.buildSlice t n ps) tmps H aJ k:=by
 obtain ⟨ti,ht,J⟩:=cO h;clear h;obtain ⟨d,hu,hd⟩:=(hT _ _ ht).under
 split at J
 ·rename_i e hk;rw [hk] at hd;have hd:d=.slice e:=hd;subst hd;obtain ⟨te,he,h⟩:=cO J;clear J;have bc:=hT _ _ he;obtain ⟨i,hi,gA,nz,z,hz,iB⟩:=bc.info
  split at h
  ·rename_i s8;have s8:=Nat.le_of_ble_eq_true s8;have h:=Mv h;obtain ⟨rows,k1,k2,k3,k4⟩:=La (n:=n) h (by simp)
   obtain ⟨b,k1,kb⟩:=Th k1;refine ⟨_,_,k1,fun o ν a w r nn ho ha hH hn next Q hN=>?_⟩
   have jz:z.cells.size=te.size:=by rw [iB]; simpa using bc.len
   -- the zero rows
   have AA:CD ν te.size (List.replicate n te.zero) (madeCells z.cells (n*te.size)):=by
    refine ⟨by simp [size_madeCells],fun row a8=>by rw [(List.mem_replicate.1 a8).2]; exact bc.len,fun r j row v hr hj=>?_⟩
    have a8:=(List.mem_replicate.1 (List.mem_of_getElem? hr)).2;subst a8;have aeK:r < n:=by have:=(List.getElem?_eq_some_iff.1 hr).1; simpa using this
    have gl:j < te.size:=by rw [← bc.len]; exact (List.getElem?_eq_some_iff.1 hj).1
    have al:r*te.size+j < n*te.size:=by
     have:(r+1)*te.size≤n*te.size:=Nat.mul_le_mul_right _ aeK;rw [Nat.add_mul] at this; omega
    obtain ⟨v',h1,J⟩:=(bc.self ν).get hj;rw [hj] at h1; cases h1;exact ⟨v,by rw [KG _ _ _ al (by have:=bc.bit.1; omega),jz,GO _ _ _ gl,iB]; simpa using hj,J⟩
   obtain ⟨C',q1,q2⟩:=k4 ν a (fun p hp=>ha p.2 (by simp [Op.operands]; exact ⟨p.1,by simpa using hp⟩)) _ AA
   have bB:(execOp a.eval o).run P w=.ok (.value (.slice (some ⟨w.heap.size,0,none⟩) n n)) { w with heap:=w.heap.push (.cells C' e) }:=by
    have e1:(ps.map fun (x:Nat × Operand)=>match x with | (i,x)=>(i,a.eval x))=(ps.map fun x=>(x.1,a.eval x.2)):=rfl
    have e2:(ps.map fun x=>(x.1,a.eval x.2)).toList=ps.toList.map fun p=>(p.1,a.eval p.2):=by simp
    have Ri:¬ (n*te.size > 2 ^ 24):=by omega
    have Ed:Instr.fill (fun i=>some (i*te.size,te.size)) ((Array.range (n*te.size)).map (z.cells[· % z.cells.size]!)) (ps.map fun x=>(x.1,a.eval x.2)).toList=some C':=by rw [e2]; exact q2
    simp only [execOp,ho,Instr.buildSlice,Sem.run_bind,dG hu,Result.andThen_ok,gu hi,gA,e1];rw [if_neg Ri];by_cases h0:n*te.size=0
    ·have e0:(Array.range (n*te.size)).map (z.cells[· % z.cells.size]!)=(Array.range (n*te.size)).map ((#[]:Array Value)[· % (#[]:Array Value).size]!):=by rw [h0]; simp
     rw [e0] at Ed;simp only [Sem.run_bind,Sem.run_ite,h0,if_true,Sem.run_pure,Result.andThen_ok,newRow,run_newObj];rw [h0] at Ed;simp only [Ed,Sem.run_bind,Sem.run_pure,Result.andThen_ok,newRow,run_newObj]
    ·simp only [Sem.run_bind,Sem.run_ite,h0,if_false,Sem.run_pure,wA hi hz,Result.andThen_ok];simp only [Ed,Sem.run_bind,Sem.run_pure,Result.andThen_ok,newRow,run_newObj]
   have dE:({ w with heap:=w.heap.push (.cells C' e) }:World).heap[w.heap.size]?=some (.cells C' e (0,0)):=by simp
   obtain ⟨c1,c2,c3⟩:=q1;refine jH (by simp [ho]) bB next Q (hN _ _ (ν.add aJ ⟨w.heap.size,0,te.size,n⟩) (mW hn ?_ (yP _ _) (Nat.le_refl _) ?_))
   ·refine kb _ _ _ ⟨rfl,fun r hr=>?_,fun r hr j v hv=>?_,fun h=>by simp [ai.jM] at h,fun r hr v hv=>?_,fun _ _=>⟨_,_,dE,?_,?_⟩,(fun r h=>nomatch h),by simp⟩
    ·have hr:r < rows.length:=hr;simp only [ai.row,List.getD,List.getElem?_eq_getElem hr,Option.getD_some];exact c2 _ (List.getElem_mem _)
    ·have hr:r < rows.length:=hr;simp only [ai.row,List.getD,List.getElem?_eq_getElem hr,Option.getD_some] at hv;obtain ⟨v',h1,J⟩:=c3 r j _ v (List.getElem?_eq_getElem hr) hv;refine ⟨v',?_,J.mono (Nu.kd hn)⟩;simp only [Loc.at,World.cell?,Nat.zero_add];rw [dE]
     simpa using h1
    ·have hr:r < rows.length:=hr;simp only [ai.row,List.getD,List.getElem?_eq_getElem hr,Option.getD_some] at hv;exact k3 (fun row a8 u hu=>by rw [(List.mem_replicate.1 a8).2] at hu; exact bc.one u hu) _ (List.getElem_mem _) v hv
    ·simp [c1,k2]
    ·simp [ai.n,k2]
   ·have:=au.slice (ν:=ν.add aJ ⟨w.heap.size,0,te.size,n⟩) aJ 0 n n n _ Nu.add_same (.inl rfl) (Nat.le_refl _) (by simp)
    simpa [Loc.at] using this
  ·exact h.elim
 ·exact J.elim
end
open Go Go.RowKit
section
variable {P:Program} {tt:TT} {w:World} {ν:Nu} {aJ:Nat} {k:QK} {tmps:List Value} {H:ay}
theorem foldl_push (ns:List Int):∀ r:ByteArray,ns.foldl (fun r n=>r.push (UInt8.ofNat n.toNat)) r=⟨r.data++(ns.map fun n=>UInt8.ofNat n.toNat).toArray⟩:=by
 induction ns with
 | nil=>intro r; simp
 | cons n ns ih=>intro r; rw [List.foldl_cons,ih]; simp [ByteArray.push]
theorem TN {a:Addr} {c:Nat} (w:World):(Conv.bytesToString (.slice (some a) 0 c)).run P w=.ok (.string ⟨#[]⟩) w:=by
 rw [run_bytesToString w a 0 c [] (by simpa using run_loadCells_list (P:=P) w a [] (fun j v h=>by simp at h))]
 rfl
theorem Vf (hT:∀ t ti,tt t=some ti→aB P t ti) {s d:TypeId} {x:Operand} (h:Nn tt tmps H s d x aJ k):eV P (.convert s d x) tmps H aJ k:=by
 obtain ⟨xv,J,hx⟩:=cN h;clear h;obtain ⟨ts,hs,h⟩:=cO J;clear J;obtain ⟨td,hd,J⟩:=cO h;clear h;have h:=J;clear J;obtain ⟨ds,tF,eX⟩:=(hT _ _ hs).under;obtain ⟨dd,yr,dh⟩:=(hT _ _ hd).under
 split at h
 ·rename_i q q' m hk;rw [hk] at dh;have dh:dd=.int q:=dh;subst dh
  split at h
  ·rename_i qs jA;rw [jA] at eX;have eX:ds=.int qs:=eX;subst eX;refine .value (by simp) h fun o ν a w ho ha hH=>⟨_,.int _ _,?_⟩
   have hx:=(hx ν a (ha x (by simp [Op.operands]))).fN
   simp [execOp,ho,hx,convert,dG tF,dG yr,Conv.intToInt]
  ·exact h.elim
 ·rename_i s hk;rw [hk] at dh;have dh:dd=.string:=dh;subst dh
  split at h
  ·rename_i jA;rw [jA] at eX;have eX:ds=.string:=eX;subst eX;refine .value (by simp) h fun o ν a w ho ha hH=>⟨_,.str _,?_⟩
   have hx:=(hx ν a (ha x (by simp [Op.operands]))).sL
   simp [execOp,ho,hx,convert,dG tF,dG yr]
  ·exact h.elim
 ·rename_i id row n c hk;rw [hk] at dh;have dh:dd=.string:=dh;subst dh
  split at h
  ·rename_i e jA;rw [jA] at eX;have eX:ds=.slice e:=eX;subst eX;obtain ⟨te,he,J⟩:=cO h;clear h;obtain ⟨de,yt,kv⟩:=(hT _ _ he).under
   split at J
   ·rename_i AB;rw [AB] at kv;have kv:de=.int .u8:=kv;subst kv;have PJ:∀ (o:Oper) (ν:Nu) (a:Act) (w:World),o.op=.convert s d x→(∀ x'∈(Op.convert s d x).operands,fm ν tmps a x')→∃ ad c',a.eval x=.slice (some ad) n c'∧(0 < n→∃ l,ν id=some l∧ad=l.at row 0):=by
     intro o ν a w ho ha;rcases (hx ν a (ha x (by simp [Op.operands]))).uq with ⟨l,c',hl,hc,hn,hr,cj⟩ | ⟨hn,hc,bb,cj⟩
     ·exact ⟨_,_,cj,fun _=>⟨l,hl,rfl⟩⟩
     ·subst hn;exact ⟨_,_,cj,fun h=>absurd h (by omega)⟩
    split at J
    ·refine .value (by simp) J fun o ν a w ho ha hH=>⟨_,.str _,?_⟩
     obtain ⟨ad,c',cj,_⟩:=PJ o ν a w ho ha;have:=run_convert_bytes_string (P:=P) w s d e (some ad) 0 c' tF yt yr;simp [execOp,ho,cj,this,TN]
    ·rename_i m;obtain ⟨b,hb,h⟩:=gD J;clear J
     split at h
     ·rename_i Iy;obtain ⟨⟨hle,PK⟩,h⟩:=h;refine .value (by simp) h fun o ν a w ho ha hH=>⟨_,.str _,?_⟩
      obtain ⟨ad,c',cj,hl⟩:=PJ o ν a w ho ha;obtain ⟨l,eW,rfl⟩:=hl (by omega)
      clear hl;obtain ⟨l',cC,hB⟩:=hH.aL id b hb;rw [eW] at cC; cases cC;have hc:=run_convert_bytes_string (P:=P) w s d e (some (l.at row 0)) (m+1) c' tF yt yr
      let ns:List Int:=(List.range (m+1)).map fun r=>match b.row (row+r) with | .int _ x::_=>x | _=>0
      have aaK:(loadCells (l.at row 0) (m+1)).run P w=.ok (ns.map (Value.int .u8)).toArray w:=by
       have:=run_loadCells_list (P:=P) w (l.at row 0) (ns.map (Value.int .u8)) (fun j v hj=>by
        have gl:j < m+1:=by
         have:=(List.getElem?_eq_some_iff.1 hj).1
         simpa [ns] using this
        obtain ⟨y,hy⟩:=PK j gl;obtain ⟨v',h1,J⟩:=hB.cell (row+j) (by omega) 0 (.int .u8 y) (by rw [hy]; rfl)
        have J:=J.fN;subst J;have hv:v=.int .u8 y:=by
         simp only [ns,List.map_map,List.getElem?_map,List.getElem?_range gl,Option.map_some,Function.comp,hy] at hj;exact (Option.some.inj hj).symm
        rw [Loc.jN,hv,← h1];simp only [Loc.at,hB.ae,Iy]
        congr 2
        omega)
       simpa [ns] using this
      have bB:=run_bytesToString (P:=P) w (l.at row 0) (m+1) c' ns aaK;rw [foldl_push] at bB;have e:(⟨ByteArray.empty.data++(ns.map fun n=>UInt8.ofNat n.toNat).toArray⟩:ByteArray)=⟨⟨bytesOf b.row row (m+1)⟩⟩:=by
       have e0:ByteArray.empty.data=#[]:=rfl;rw [e0]
       congr 1
       simp only [Array.empty_append,bytesOf,ns,List.map_map]
       congr 1
       apply List.map_congr_left;intro r hr;obtain ⟨y,hy⟩:=PK r (List.mem_range.1 hr);simp [hy]
      rw [e] at bB;simp [execOp,ho,cj,hc,bB]
     ·exact h.elim
   ·exact J.elim
  ·exact h.elim
 ·rename_i hk;rw [hk] at dh;have dh:dd=.string:=dh;subst dh
  split at h
  ·rename_i e jA;rw [jA] at eX;have eX:ds=.slice e:=eX;subst eX;obtain ⟨te,he,J⟩:=cO h;clear h;obtain ⟨de,yt,kv⟩:=(hT _ _ he).under
   split at J
   ·rename_i AB;rw [AB] at kv;have kv:de=.int .u8:=kv;subst kv;refine .value (by simp) J fun o ν a w ho ha hH=>⟨_,.str _,?_⟩
    have hx:=(hx ν a (ha x (by simp [Op.operands]))).qn
    have:=run_convert_bytes_string (P:=P) w s d e none 0 0 tF yt yr;simp [execOp,ho,hx,this,Conv.bytesToString]
    rfl
   ·exact J.elim
  ·exact h.elim
 ·rename_i e str hk;rw [hk] at dh;have dh:dd=.slice e:=dh;subst dh
  split at h
  ·rename_i jA;rw [jA] at eX;have eX:ds=.string:=eX;subst eX;obtain ⟨te,he,J⟩:=cO h;clear h;obtain ⟨de,yt,kv⟩:=(hT _ _ he).under
   split at J
   ·rename_i AB;rw [AB] at kv;have kv:de=.int .u8:=kv;subst kv;refine ⟨_,_,J,fun o ν a w r nn ho ha hH hn next Q hN=>?_⟩
    have hx:=(hx ν a (ha x (by simp [Op.operands]))).sL
    have bB:=run_bytes_of_string (P:=P) w s d e str tF yr yt;have eK:=grownCap_ge w str.size 0 e;have hb:Below w.heap.size w (w.drew.alloc (.cells (bytesRow str (grownCap w str.size 0 e)) e ((bytesRow str (grownCap w str.size 0 e)).size,(bytesRow str (grownCap w str.size 0 e)).size+1))):=((Below.refl _ w).drew).alloc (Nat.le_refl _) _;have ac8:(execOp a.eval o).run P w=.ok (.value (.slice (some ⟨w.heap.size,0,none⟩) str.size (grownCap w str.size 0 e))) (w.drew.alloc (.cells (bytesRow str (grownCap w str.size 0 e)) e ((bytesRow str (grownCap w str.size 0 e)).size,(bytesRow str (grownCap w str.size 0 e)).size+1))):=by
     simp [execOp,ho,hx,bB]
    refine jH (by simp [ho]) ac8 next Q
     (hN _ _ (ν.add aJ ⟨w.heap.size,0,1,grownCap w str.size 0 e⟩) (mW hn ?_ hb (Nat.le_refl _) ?_))
    ·have dE:(w.drew.alloc (.cells (bytesRow str (grownCap w str.size 0 e)) e ((bytesRow str (grownCap w str.size 0 e)).size,(bytesRow str (grownCap w str.size 0 e)).size+1))).heap[w.heap.size]?=some (.cells (bytesRow str (grownCap w str.size 0 e)) e ((bytesRow str (grownCap w str.size 0 e)).size,(bytesRow str (grownCap w str.size 0 e)).size+1)):=by
      show (w.heap.push _)[w.heap.size]?=_; simp
     refine ⟨rfl,fun r hr=>rfl,fun r hr j v hv=>⟨v,?_,au.kH ?_⟩,fun _ r hr v hv=>?_,fun r hr v hv=>?_,fun h _=>by simp [ai.own] at h,(fun r h=>nomatch h),?_⟩
     ·have hr:r < str.size:=hr;have hv:[Value.int .u8 (bW str r)][j]?=some v:=hv;have hj:j=0:=by
       have:=(List.getElem?_eq_some_iff.1 hv).1
       simpa using this
      subst hj;simp only [Loc.at,World.cell?,Nat.zero_add];rw [dE];simp only [Option.isSome_none,Bool.false_eq_true,if_false];have al:r < str.data.size:=hr;simp [bytesRow,bW] at hv ⊢;rw [Array.getElem?_append_left (by simpa using al)]
      have hg:str.data[r]?=some (str.data[r]'al):=Array.getElem?_eq_getElem al;rw [hg] at hv;rw [Array.getElem?_map,hg,← hv]
      rfl
     ·have hv:[Value.int .u8 (bW str r)][j]?=some v:=hv;have:=List.mem_of_getElem? hv;simp at this;rw [this]; rfl
     ·have hv:v∈[Value.int .u8 (bW str r)]:=hv;simp at hv; rw [hv]; rfl
     ·have hv:v∈[Value.int .u8 (bW str r)]:=hv;simp at hv; rw [hv]; rfl
     ·show w.heap.size < (w.drew.alloc _).heap.size
      simp
    ·have:=au.slice (ν:=ν.add aJ ⟨w.heap.size,0,1,grownCap w str.size 0 e⟩) aJ 0 str.size aI (grownCap w str.size 0 e) _ Nu.add_same (.inr rfl) eK (by simp)
     simpa [Loc.at] using this
   ·exact J.elim
  ·exact h.elim
 ·exact h.elim
theorem ac9 (hT:∀ t ti,tt t=some ti→aB P t ti) {c:Call} (hc:c.callee=.builtin .cap) {t:TypeId} {x:Operand} (hx:c.args=#[x]) (ht:c.argTypes=#[t]) (h:Qo tmps tt t x k):eV P (.call c) tmps H aJ k:=by
 obtain ⟨xv,J,hv⟩:=cN h;clear h;obtain ⟨ti,Ji,h⟩:=cO J;clear J;obtain ⟨d,hu,hd⟩:=(hT _ _ Ji).under
 split at h
 ·rename_i e hk;rw [hk] at hd;have hd:d=.slice e:=hd;subst hd;refine .value (by simp) h fun o ν a w ho ha hH=>⟨_,.int _ _,?_⟩
  have he:=(hv ν a (ha x (by simp [Op.operands,Call.operands,hc,hx]))).qn
  simp [execOp,ho,resolve,hc,hx,ht,invoke,builtin,Builtin.cap_,run_underlying hu,he,goInt]
 ·exact h.elim
theorem wrap_small {m:Nat} (h:m≤140737488355328):IntKind.i64.wrap (m:Int)=(m:Int):=by
 have e:IntKind.i64.wrap (m:Int)=if (true && decide ((m:Int) % (2 ^ 64:Int) ≥ (2 ^ 63:Int)))=true then (m:Int) % (2 ^ 64:Int) - (2 ^ 64:Int) else (m:Int) % (2 ^ 64:Int):=rfl
 rw [e];simp only [Bool.true_and,decide_eq_true_eq]
 split <;> omega
theorem Sy {t u ty e:TypeId} {q:IntKind} {i:TypeInfo} {z:Value} (ht:P.underlying t=some (.slice e)) (hu:P.underlying u=some (.int q)) (hi:P.info? e=some i) (hz:i.zero=some z)
  {n:Int} (h0:0 < n) (Rj:n*i.bytes≤140737488355328) (h63:n≤140737488355328) :
  (Builtin.append_ #[t,u] ty #[.slice none 0 0,.int .i64 n]).run P w =
   .ok (.slice (some ⟨w.heap.size,0,none⟩) n.toNat (grownCap w n.toNat 0 e))
    (w.drew.alloc (.cells ((if n.toNat*i.size=0 then #[] else Builtin.zeroCells z.cells n.toNat)++Builtin.zeroCells z.cells (grownCap w n.toNat 0 e - n.toNat)) e)):=by
 obtain ⟨m,rfl⟩:∃ m:Nat,n=m:=⟨n.toNat,by omega⟩
 have hw:IntKind.i64.wrap (m:Int)=(m:Int):=wrap_small (by omega)
 have hn:m≠0:=by omega
 have h1:¬ ((m:Int) < 0):=by omega
 have J:¬ (281474976710656 < (m:Int)*(i.bytes:Int)):=by omega
 have Qp:¬ (9223372036854775807 < (m:Int)):=by omega
 have Qq:¬ (281474976710656 < Builtin.nextslicecap m 0*i.bytes):=by
  rw [nextslicecap_zero (by omega)]
  have Rj:((m*i.bytes:Nat):Int)≤140737488355328:=by rw [Int.natCast_mul]; exact Rj
  omega
 by_cases hs:m*i.size=0
 ·simp [Builtin.append_,run_underlying ht,run_underlying hu,sizeOf,typeInfo,zeroValue,hi,hz,asInt,asIntOf,hw,h1,J,hn,Qp,Qq,Question.forced,newRow,grownCap,Builtin.firstCells,hs]
 ·simp [Builtin.append_,run_underlying ht,run_underlying hu,sizeOf,typeInfo,zeroValue,hi,hz,asInt,asIntOf,hw,h1,J,hn,Qp,Qq,Question.forced,newRow,grownCap,Builtin.firstCells,hs]
theorem KH (z:Array Value) (n j:Nat) (h:j < n*z.size) (hz:0 < z.size):(Builtin.zeroCells z n)[j]?=z[j % z.size]?:=by
 unfold Builtin.zeroCells;rw [Array.getElem?_map,Array.getElem?_range,if_pos h];simp only [Option.map_some];have:j % z.size < z.size:=Nat.mod_lt _ hz;rw [Array.getElem?_eq_getElem this];simp [this]
theorem TO (hT:∀ t ti,tt t=some ti→aB P t ti) {c:Call} (hc:c.callee=.builtin .append) {t u:TypeId} {x y:Operand} (hx:c.args=#[x,y]) (AD:c.argTypes=#[t,u]) (h:Ms tt tmps t u x y aJ k):eV P (.call c) tmps H aJ k:=by
 obtain ⟨xv,J,vM⟩:=cN h;clear h;obtain ⟨yv,h,vN⟩:=cN J;clear J;obtain ⟨ti,ht,J⟩:=cO h;clear h;obtain ⟨d,hu,hd⟩:=(hT _ _ ht).under
 split at J
 ·rename_i e hk;rw [hk] at hd;have hd:d=.slice e:=hd;subst hd;obtain ⟨te,he,h⟩:=cO J;clear J;obtain ⟨tu,htu,J⟩:=cO h;clear h;obtain ⟨du,huu,Ee⟩:=(hT _ _ htu).under;have bc:=hT _ _ he;obtain ⟨i,hi,gA,nz,z,hz,iB⟩:=bc.info
  split at J
  ·rename_i q n hku c5;rw [hku] at Ee;have Ee:du=.int q:=Ee;subst Ee;obtain ⟨⟨b0,b1⟩,h⟩:=J;refine ⟨_,_,h,fun o ν a w r nn ho ha hH hn next Q hN=>?_⟩
   have rm:=(vM ν a (ha x (by simp [Op.operands,Call.operands,hc,hx]))).qn
   have AE:=(vN ν a (ha y (by simp [Op.operands,Call.operands,hc,hx]))).fN
   have lP:=bc.bit.2;have AF:n≤n*te.bytes:=by
    have:n*1≤n*(te.bytes:Int):=Int.mul_le_mul_of_nonneg_left (by omega) (by omega)
    omega
   have bB:=Sy (P:=P) (w:=w) (ty:=o.type) hu huu hi hz b0 (by rw [nz]; exact b1) (by omega)
   have eK:=grownCap_ge w n.toNat 0 e;have om:∀ C:Array Value,Below w.heap.size w (w.drew.alloc (.cells C e)):=fun C=>((Below.refl _ w).drew).alloc (Nat.le_refl _) _
   have hpz:0 < te.size:=bc.bit.1;have jz:z.cells.size=te.size:=by rw [iB]; simpa using bc.len
   have hm:¬ (n.toNat*i.size=0):=by
    rw [gA];intro h0;rcases Nat.mul_eq_zero.1 h0 with h | h <;> omega
   rw [if_neg hm] at bB;generalize hC:Builtin.zeroCells z.cells n.toNat++Builtin.zeroCells z.cells (grownCap w n.toNat 0 e - n.toNat)=C at bB;refine jH (w':=w.drew.alloc (.cells C e)) (v':=.slice (some ⟨w.heap.size,0,none⟩) n.toNat (grownCap w n.toNat 0 e)) (by simp [ho]) (by simp [execOp,ho,resolve,hc,hx,AD,invoke,builtin,rm,AE,bB]) next Q
    (hN _ _ (ν.add aJ ⟨w.heap.size,0,te.size,grownCap w n.toNat 0 e⟩) (mW hn ?_ (om _) (Nat.le_refl _) ?_))
   ·have Em:C.size=grownCap w n.toNat 0 e*te.size:=by
     rw [← hC,Array.size_append];simp only [Builtin.zeroCells,Array.size_map,Array.size_range,jz];rw [← Nat.add_mul]
     congr 1
     omega
    have dE:(w.drew.alloc (.cells C e)).heap[w.heap.size]?=some (.cells C e (0,0)):=by show (w.heap.push _)[w.heap.size]?=_; simp
    refine ⟨rfl,fun r hr=>bc.len,fun r hr j v hv=>⟨v,?_,au.kH (dI c5 v (List.mem_of_getElem? hv))⟩,fun _ r hr v hv=>dI c5 v hv,fun r hr v hv=>bc.one v hv,fun _ _=>⟨_,_,dE,?_,?_⟩,(fun r h=>nomatch h),?_⟩
    ·have hr:r < n.toNat:=hr;have hv:te.zero[j]?=some v:=hv;have hj:j < te.size:=by rw [← bc.len]; exact (List.getElem?_eq_some_iff.1 hv).1
     simp only [Loc.at,World.cell?,Nat.zero_add];rw [dE];have al:r*te.size+j < n.toNat*te.size:=by
      have:(r+1)*te.size≤n.toNat*te.size:=Nat.mul_le_mul_right _ (by omega)
      rw [Nat.add_mul] at this; omega
     simp only [Option.isSome_none,Bool.false_eq_true,if_false];rw [← hC,Array.getElem?_append_left (by simp only [Builtin.zeroCells,Array.size_map,Array.size_range,jz]; exact al),KH _ _ _ (by rw [jz]; exact al) (by omega),jz,GO _ _ _ hj,iB]
     simpa using hv
    ·rw [Em]; simp
    ·simp only [ai.n]; omega
    ·show w.heap.size < (w.drew.alloc _).heap.size
     simp
   ·have:=au.slice (ν:=ν.add aJ ⟨w.heap.size,0,te.size,grownCap w n.toNat 0 e⟩) aJ 0 n.toNat aI (grownCap w n.toNat 0 e) _ Nu.add_same (.inr rfl) eK (by simp)
    simpa [Loc.at] using this
  ·exact J.elim
 ·exact J.elim
end
open Go Go.RowKit
section
variable {P:Program} {tt:TT} {Φ:zN} {w:World} {ν:Nu} {aJ:Nat} {k:QK} {tmps:List Value} {H:ay}
def Nu.comp (ν:Nu) (τ:List Nat):Nu:=fun j=>(τ[j]?).bind ν
theorem FO {τ:List Nat} {m:Nat} {x:Value} {xs l:List Value} (h:mF τ m (x::xs)=some l):∃ y ys,l=y::ys∧cR τ m x=some y∧mF τ m xs=some ys:=by
 unfold mF at h;rw [List.foldr_cons] at h
 split at h
 ·rename_i y ys h1 J;exact ⟨y,ys,(Option.some.inj h).symm,h1,J⟩
 ·cases h
theorem Gk {τ:List Nat} {m:Nat} {l:List Value} (h:mF τ m []=some l):l=[]:=by
 simp [mF] at h; exact h
theorem ur {τ:List Nat} {m:Nat} (h:∀ v v2 r,cR τ m v=some v2→au ν v2 r→au (ν.comp τ) v r):∀ {xs l rs:List Value},mF τ m xs=some l→bf ν l rs→bf (ν.comp τ) xs rs
 | [],l,rs,h1,J=>by rw [Gk h1] at J; rw [J.iU]; exact .nil _
 | x::xs,l,rs,h1,J=>by
  obtain ⟨y,ys,rfl,e1,e2⟩:=FO h1;obtain ⟨r,bZ,rfl,k1,k2⟩:=J.jm;exact .cons (h _ _ _ e1 k1) (ur h e2 k2)
theorem y5 {τ:List Nat} {m:Nat} (h:∀ v v2 r,cR τ m v=some v2→au (ν.comp τ) v r→au ν v2 r):∀ {xs l rs:List Value},mF τ m xs=some l→bf (ν.comp τ) xs rs→bf ν l rs
 | [],l,rs,h1,J=>by rw [Gk h1]; rw [J.iU]; exact .nil _
 | x::xs,l,rs,h1,J=>by
  obtain ⟨y,ys,rfl,e1,e2⟩:=FO h1;obtain ⟨r,bZ,rfl,k1,k2⟩:=J.jm;exact .cons (h _ _ _ e1 k1) (y5 h e2 k2)
theorem wY {τ:List Nat}:∀ (m:Nat) (v v2 r:Value),cR τ m v=some v2→au ν v2 r→au (ν.comp τ) v r:=by
 intro m
 induction m with
 | zero=>intro v v2 r h; simp [cR] at h
 | succ m ih =>
  intro v v2 r h hr;unfold cR at h
  split at h
  ·cases h; rw [hr.kJ rfl]; exact .bool _
  ·cases h; rw [hr.kJ rfl]; exact .int _ _
  ·cases h; rw [hr.kJ rfl]; exact .str _
  ·cases h; cases hr; exact .mD
  ·split at h
   ·rename_i vJ e;cases h;obtain ⟨l,h1,rfl⟩:=hr.nV;exact .ptr _ _ _ l (by simp [Nu.comp,e,h1])
   ·cases h
  ·cases h; cases hr; exact .ju
  ·split at h
   ·rename_i vJ e;cases h;rcases hr.uq with ⟨l,c',h1,J,h3,h4,rfl⟩ | ⟨rfl,J,b,rfl⟩
    ·exact .slice _ _ _ _ _ l (by simp [Nu.comp,e,h1]) J h3 h4
    ·exact .void _ _ _ _ J
   ·cases h
  ·cases h; cases hr; exact .mE
  ·split at h
   ·rename_i l l' e;cases h;obtain ⟨ys,rfl,hy⟩:=hr.uO;have:=ur ih e hy;exact .agg _ _ this.1 this.2
   ·cases h
  ·split at h
   ·rename_i l l' e;cases h;obtain ⟨ys,rfl,hy⟩:=hr.nR;have:=ur ih e hy;exact .tuple _ _ this.1 this.2
   ·cases h
  ·split at h
   ·rename_i l1 l2 l1' l2' e1 e2;cases h;obtain ⟨ys,dj,rfl,hy,AE⟩:=hr.sE;have t1:=ur ih e1 hy;have t2:=ur ih e2 AE;exact .func _ _ _ _ _ t1.1 t1.2 t2.1 t2.2
   ·cases h
  ·cases h
theorem Gl {τ:List Nat}:∀ (m:Nat) (v v2 r:Value),cR τ m v=some v2→au (ν.comp τ) v r→au ν v2 r:=by
 intro m
 induction m with
 | zero=>intro v v2 r h; simp [cR] at h
 | succ m ih =>
  intro v v2 r h hr;unfold cR at h
  split at h
  ·cases h; rw [hr.kJ rfl]; exact .bool _
  ·cases h; rw [hr.kJ rfl]; exact .int _ _
  ·cases h; rw [hr.kJ rfl]; exact .str _
  ·cases h; cases hr; exact .mD
  ·split at h
   ·rename_i vJ e;cases h;obtain ⟨l,h1,rfl⟩:=hr.nV;simp [Nu.comp,e] at h1;exact .ptr _ _ _ l h1
   ·cases h
  ·cases h; cases hr; exact .ju
  ·split at h
   ·rename_i vJ e;cases h;rcases hr.uq with ⟨l,c',h1,J,h3,h4,rfl⟩ | ⟨rfl,J,b,rfl⟩
    ·simp [Nu.comp,e] at h1;exact .slice _ _ _ _ _ l h1 J h3 h4
    ·exact .void _ _ _ _ J
   ·cases h
  ·cases h; cases hr; exact .mE
  ·split at h
   ·rename_i l l' e;cases h;obtain ⟨ys,rfl,hy⟩:=hr.uO;have:=y5 ih e hy;exact .agg _ _ this.1 this.2
   ·cases h
  ·split at h
   ·rename_i l l' e;cases h;obtain ⟨ys,rfl,hy⟩:=hr.nR;have:=y5 ih e hy;exact .tuple _ _ this.1 this.2
   ·cases h
  ·split at h
   ·rename_i l1 l2 l1' l2' e1 e2;cases h;obtain ⟨ys,dj,rfl,hy,AE⟩:=hr.sE;have t1:=y5 ih e1 hy;have t2:=y5 ih e2 AE;exact .func _ _ _ _ _ t1.1 t1.2 t2.1 t2.2
   ·cases h
  ·cases h
structure C1 (b c:ai):Prop extends aH b c where
 rc:b.rc=none
theorem Ft {k:Prop}:∀ {σ:List Nat} {bs:List ai},zQ H σ bs k→σ.length=bs.length∧(∀ (j s:Nat) (b:ai),σ[j]?=some s→bs[j]?=some b→∃ c,H[s]?=some (some c)∧C1 b c)∧k
 | [],[],h=>⟨rfl,fun j s b h=>by simp at h,h⟩
 | s::σ,b::bs,h=>by
  have je:b.rc=none∧gK H s fun c=>aH b c∧zQ H σ bs k:=by
   cases b with
   | aP o e r=>exact ⟨rfl,h⟩
   | flat o n e g=>exact ⟨rfl,h⟩
   | b6 r=>exact h.elim
  obtain ⟨je,h⟩:=je;obtain ⟨c,h1,J,h3⟩:=gD h;obtain ⟨e1,e2,e3⟩:=Ft h3;refine ⟨by simp [e1],fun j s' b' hs hb=>?_,e3⟩
  cases j with
  | zero=>simp at hs hb; subst hs; subst hb; exact ⟨c,h1,J,je⟩
  | succ j=>exact e2 j s' b' (by simpa using hs) (by simpa using hb)
 | [],_::_,h=>h.elim
 | _::_,[],h=>h.elim
theorem bP.Gm {ν ak:Nu} {l:Loc} {b:ai} {w:World} (h:bP ν l b w) (hs:∀ r,r < b.n→∀ v∈b.row r,cG v=true):bP ak l b w :=
 ⟨h.ae,h.len,fun r hr j v hv=>by
  obtain ⟨v',h1,J⟩:=h.cell r hr j v hv;have AG:=hs r hr v (List.mem_of_getElem? hv);rw [J.kJ AG] at h1;exact ⟨v,h1,au.kH AG⟩,h.plain,h.one,h.own,h.lr,h.live⟩
theorem bP.le {ν ak:Nu} {l:Loc} {b c:ai} {w:World} (h:bP ν l c w) (hle:C1 b c):bP ak l b w:=by
 refine ⟨h.ae.trans hle.ae,fun r hr=>?_,fun r hr j v hv=>?_,fun _ r hr v hv=>hle.flat r hr v hv,fun r hr v hv=>?_,fun ho _=>?_,(fun r h=>by rw [hle.rc] at h; cases h),h.live⟩
 ·rw [hle.row r hr,h.len r (Nat.lt_of_lt_of_le hr hle.n),hle.ae]
 ·rw [hle.row r hr] at hv;obtain ⟨v',h1,J⟩:=h.cell r (Nat.lt_of_lt_of_le hr hle.n) j v hv;have AG:=hle.flat r hr v (by rw [hle.row r hr]; exact List.mem_of_getElem? hv)
  rw [J.kJ AG] at h1;exact ⟨v,h1,au.kH AG⟩
 ·rw [hle.row r hr] at hv;exact h.one r (Nat.lt_of_lt_of_le hr hle.n) v hv
 ·obtain ⟨h1,J⟩:=hle.own ho;obtain ⟨cur,t,q1,q2,q3⟩:=h.own (ai.cZ h1).1 (ai.cZ h1).2;exact ⟨cur,t,q1,q2,by omega⟩
theorem Og {σ:List Nat}:(ν.comp σ).le (ν.comp (σ++[aJ])):=by
 intro j l h;unfold Nu.comp at h ⊢;cases e:σ[j]? with
 | none=>rw [e] at h; cases h
 | some s =>
  rw [List.getElem?_append_left (List.getElem?_eq_some_iff.1 e).1,e]
  rwa [e] at h
theorem Lb {k:Prop} {τ:List Nat}:∀ {σ:List Nat} {bs:List ai},CW H τ σ bs k→σ.length=bs.length∧(∀ (j s:Nat) (b:ai),σ[j]?=some s→bs[j]?=some b→∃ c,H[s]?=some (some c)∧DO τ b c∧b.rc=none)∧k
 | [],[],h=>⟨rfl,fun j s b h=>by simp at h,h⟩
 | s::σ,b::bs,h=>by
  have je:b.rc=none∧gK H s fun c=>DO τ b c∧CW H τ σ bs k:=by
   cases b with
   | aP o e r=>exact ⟨rfl,h⟩
   | flat o n e g=>exact ⟨rfl,h⟩
   | b6 r=>exact h.elim
  obtain ⟨je,h⟩:=je;obtain ⟨c,h1,J,h3⟩:=gD h;obtain ⟨e1,e2,e3⟩:=Lb h3;refine ⟨by simp [e1],fun j s' b' hs hb=>?_,e3⟩
  cases j with
  | zero=>simp at hs hb; subst hs; subst hb; exact ⟨c,h1,J,je⟩
  | succ j=>exact e2 j s' b' (by simpa using hs) (by simpa using hb)
 | [],_::_,h=>h.elim
 | _::_,[],h=>h.elim
theorem Np {τ:List Nat} {m:Nat}:∀ {xs l:List Value},mF τ m xs=some l→xs.length=l.length∧∀ (j:Nat) v,xs[j]?=some v→∃ v2,l[j]?=some v2∧cR τ m v=some v2
 | [],l,h=>by rw [Gk h]; exact ⟨rfl,fun j v h=>by simp at h⟩
 | x::xs,l,h=>by
  obtain ⟨y,ys,rfl,h1,J⟩:=FO h;obtain ⟨h3,h4⟩:=Np J;refine ⟨by simp [h3],fun j v hj=>?_⟩
  cases j with
  | zero=>simp at hj; subst hj; exact ⟨y,rfl,h1⟩
  | succ j=>exact h4 j v (by simpa using hj)
theorem Wk {τ:List Nat} {m:Nat} {v v2:Value} (h:cR τ m v=some v2) (J:v2.oneCell'=true):v.oneCell'=true:=by
 cases m with
 | zero=>simp [cR] at h
 | succ m =>
  unfold cR at h
  split at h <;> first | rfl | (cases h; exact J) | (split at h <;> cases h <;> exact J) | (cases h)
theorem bP.ler {ν:Nu} {σ:List Nat} {l:Loc} {b c:ai} {w:World} (h:bP ν l c w) (hle:DO σ b c) (Jl:b.rc=none):bP (ν.comp σ) l b w:=by
 rcases hle with hle | ⟨o,e,r,r',rfl,rfl,hr⟩
 ·exact h.le ⟨hle,Jl⟩
 ·obtain ⟨h1,J⟩:=Np hr;have one:∀ q,q < 1→q=0:=fun q hq=>by omega
  refine ⟨h.ae,fun q hq=>?_,fun q hq j v hv=>?_,(fun h=>nomatch h),fun q hq v hv=>?_,(fun h=>nomatch h),(fun r h=>nomatch h),h.live⟩
  ·obtain rfl:=one q hq;exact h1.trans (h.len 0 hq)
  ·obtain rfl:=one q hq;obtain ⟨v2,h3,h4⟩:=J j v hv;obtain ⟨v',h5,h6⟩:=h.cell 0 hq j v2 h3;exact ⟨v',h5,wY 3 _ _ _ h4 h6⟩
  ·obtain rfl:=one q hq;obtain ⟨j,hj⟩:=List.getElem?_of_mem (show v∈r from hv)
   obtain ⟨v2,h3,h4⟩:=J j v hj;exact Wk h4 (h.one 0 hq v2 (List.mem_of_getElem? h3))
theorem aaL {c:Call} {f:Operand} (hc:c.callee=.value f) (Jm:∀ g S,Φ g=some S→DL P g S)
  (h:bS tmps f fun fv=>match fv with
   | .func (.func g) x y=>qD tmps c.args.toList fun vs=>qZ x.toList vs fun l=>qZ l y.toList fun args=>HR Φ g args H aJ k
   | _=>False):eV P (.call c) tmps H aJ k:=by
 obtain ⟨fv,J,hf⟩:=cN h;clear h
 split at J
 ·rename_i g x y;obtain ⟨vs,h,fx⟩:=BP J;clear J;have J:=wO (wO h);clear h;have O8:∀ (o:Oper) (ν:Nu) (a:Act),(∀ z∈(Op.call c).operands,fm ν tmps a z)→∃ ys dj,a.eval f=.func (.func g) ⟨ys⟩ ⟨dj⟩∧bf ν (x.toList++vs++y.toList) ((ys++c.args.toList.map a.eval)++dj):=by
   intro o ν a ha;have fx:=fx ν a (fun z hz=>ha z (by simp [Op.operands,Call.operands,hc]; exact .inr (by simpa using hz)))
   obtain ⟨ys,dj,jY,h1,J⟩:=(hf ν a (ha f (by simp [Op.operands,Call.operands,hc]))).sE
   exact ⟨ys,dj,jY,(h1.append fx).append J⟩
  have PM:∀ (o:Oper) (a:Act) (w:World) (ys dj:List Value),(∀ args w,(callFunc g args).run P w=.ok (.enter g args) w)→o.op=.call c→a.eval f=.func (.func g) ⟨ys⟩ ⟨dj⟩ →
    (execOp a.eval o).run P w=.ok (.enter g ⟨(ys++c.args.toList.map a.eval)++dj⟩) w:=by
   intro o a w ys dj oo ho jY;simp only [execOp,ho,resolve,hc,jY,Deferred.ofValue,Sem.run_bind,Sem.run_pure,Result.andThen_ok,invoke,oo]
   congr 2
   apply Array.ext';simp
  have core:∀ (S:cl) (i:S.ι) (σ:List Nat) (v:Value),di P g S→mF σ 3 (S.args i)=some (x.toList++vs++y.toList)→S.pre i→σ.length=(S.ah i).length →
    (∀ (ν:Nu) (w:World),bU ν H w→∀ id b,(S.ah i)[id]?=some b→∃ l,(ν.comp σ) id=some l∧bP (ν.comp σ) l b w)→cR (σ++[aJ]) 3 (S.val i)=some v→k v (S.new i)→eV P (.call c) tmps H aJ k:=by
   intro S i σ v hs n8 hp hlen Iz hv h;refine ⟨_,_,h,fun o ν a w r n ho ha hH hn next Q hN=>⟨fun _ _=>trivial,?_⟩⟩
   obtain ⟨ys,dj,jY,n3⟩:=O8 o ν a ha;have aaM:=ur (wY (ν:=ν) 3) n8 n3;rw [Oper.semAt_eq _ _ _ (by simp [ho]),PM o a w ys dj hs.enters ho jY]
   refine ⟨fun h=>by simp [WF,Fence.wide] at h,?_⟩
   have mc:bU (ν.comp σ) ((S.ah i).map some) w:=by
    have kU:∀ (id:Nat) (b:ai),((S.ah i).map some)[id]?=some (some b)→(S.ah i)[id]?=some b:=by
     intro id b bm;rw [List.getElem?_map] at bm;cases e:(S.ah i)[id]? with
     | none=>rw [e] at bm; cases bm
     | some b'=>rw [e] at bm; simp at bm; rw [bm]
    refine ⟨fun id b bm=>Iz ν w hH id b (kU id b bm),fun p q bp bq lp lq Jn _ _ ho=>?_⟩
    have:=hs.ro i bp (List.mem_of_getElem? (kU p bp Jn));rw [this] at ho; cases ho
   have gm:∀ id,(S.ah i).length≤id→(ν.comp σ) id=none:=by
    intro id bm;simp [Nu.comp,List.getElem?_eq_none (show σ.length≤id by omega)]
   have zS:=hs.calls i hp (ν.comp σ) _ w (n - 1) aaM mc gm;have zu:CallsIn (WF r) (n - 1) P g ⟨(ys++c.args.toList.map a.eval)++dj⟩ w fun e w'=>∃ v' ak,e=.returned v'∧nc (ν.comp σ) ak (S.ah i).length w w' (S.val i) v' (S.new i):=zS
   refine zu.mono ?_
   rintro e w' ⟨v',gn,rfl,hq⟩
   cases dE:S.new i with
   | none =>
    have e1:=hq.Ay dE;refine hN _ _ ν ⟨ν.le_refl,fun _ _=>rfl,?_,hq.below,fun _=>rfl,(fun b hb=>by rw [dE] at hb; cases hb)⟩
    refine Gl 3 _ _ _ hv (hq.val.mono ?_);rw [e1]; exact Og
   | some b =>
    obtain ⟨l,h1,J,h3⟩:=hq.g8 b dE;have hle:gn.le ((ν.add aJ l).comp (σ++[aJ])):=by
     intro j lj hj;by_cases e:j=(S.ah i).length
     ·subst e;rw [h1] at hj; cases hj;simp [Nu.comp,← hlen,Nu.add_same]
     ·rw [hq.only j e] at hj;have:=Og (aJ:=aJ) j lj hj;unfold Nu.comp at this ⊢;cases e2:(σ++[aJ])[j]? with
      | none=>rw [e2] at this; cases this
      | some s =>
       rw [e2] at this;exact Nu.kd hn s lj this
    have tG:=hs.fl i b dE;refine hN _ _ (ν.add aJ l) ⟨Nu.kd hn,fun id bm=>Nu.iV bm,Gl 3 _ _ _ hv (hq.val.mono hle),hq.below,(fun h=>by rw [dE] at h; cases h),(fun b' bE=>?_)⟩
    rw [dE] at bE; cases bE;exact ⟨l,Nu.add_same,J.Gm (J.plain tG),h3⟩
  unfold HR at J
  split at J
  ·rename_i S hS;obtain ⟨i,hi,hp,h⟩:=J;have h:=wB h;have hs:bg P g S:=Jm g _ hS;refine ⟨_,none,h,fun o ν a w r n ho ha hH hn next Q hN=>⟨fun _ _=>trivial,?_⟩⟩
   obtain ⟨ys,dj,jY,n3⟩:=O8 o ν a ha;rw [← hi] at n3;rw [Oper.semAt_eq _ _ _ (by simp [ho]),PM o a w ys dj hs.enters ho jY]
   refine ⟨fun h=>by simp [WF,Fence.wide] at h,?_⟩
   have zS:=hs.calls i hp ν _ w (n - 1) n3;have zu:CallsIn (WF r) (n - 1) P g ⟨(ys++c.args.toList.map a.eval)++dj⟩ w fun e w'=>∃ v',e=.returned v'∧au ν (S.val i) v'∧Below w.heap.size w w':=zS
   refine zu.mono ?_
   rintro e w' ⟨v',rfl,hv,hb⟩
   exact hN _ _ ν ⟨ν.le_refl,fun _ _=>rfl,hv,hb,fun _=>rfl,(fun b hb=>by cases hb)⟩
  ·rename_i S hS;obtain ⟨i,σ,n8,hp,h⟩:=J;obtain ⟨hlen,om,v,hv,h⟩:=Ft h;refine core S i σ v (Jm g _ hS) n8 hp hlen (fun ν w hH id b bm=>?_) hv (wB h)
   have al:id < σ.length:=by rw [hlen]; exact (List.getElem?_eq_some_iff.1 bm).1
   obtain ⟨cb,h1,J⟩:=om id _ b (List.getElem?_eq_getElem al) bm;obtain ⟨l,h3,h4⟩:=hH.aL _ _ h1;exact ⟨l,by simp [Nu.comp,List.getElem?_eq_getElem al,h3],h4.le J⟩
  ·rename_i S hS;obtain ⟨i,σ,n8,hp,h⟩:=J;obtain ⟨hlen,om,v,hv,h⟩:=Lb h;refine core S i σ v (Jm g _ hS) n8 hp hlen (fun ν w hH id b bm=>?_) hv (wB h)
   have al:id < σ.length:=by rw [hlen]; exact (List.getElem?_eq_some_iff.1 bm).1
   obtain ⟨cb,h1,J,h5⟩:=om id _ b (List.getElem?_eq_getElem al) bm;obtain ⟨l,h3,h4⟩:=hH.aL _ _ h1;exact ⟨l,by simp [Nu.comp,List.getElem?_eq_getElem al,h3],h4.ler J h5⟩
  ·exact J.elim
 ·exact J.elim
structure Kept (O:Nat→Prop) (w w':World):Prop where
 os:w'.os=w.os
 tape:w'.tape=w.tape
 output:w'.output=w.output
 size:w.heap.size≤w'.heap.size
 aL:∀ b,b < w.heap.size→¬ O b→w'.heap[b]?=w.heap[b]?
theorem Kept.refl {O:Nat→Prop} (w:World):Kept O w w:=⟨rfl,rfl,rfl,Nat.le_refl _,fun _ _ _=>rfl⟩
theorem Kept.below {O:Nat→Prop} {W w w':World} (h:Kept O W w) (hb:Below w.heap.size w w'):Kept O W w' :=
 ⟨hb.os.trans h.os,hb.tape.trans h.tape,hb.output.trans h.output,Nat.le_trans h.size hb.size,fun b h1 J=>(hb.block b (Nat.lt_of_lt_of_le h1 h.size)).trans (h.aL b h1 J)⟩
theorem Kept.then {O O':Nat→Prop} {W w w':World} (h:Kept O W w) (h':Kept O' w w') (hO:∀ b,O' b→O b∨W.heap.size≤b):Kept O W w' :=
 ⟨h'.os.trans h.os,h'.tape.trans h.tape,h'.output.trans h.output,Nat.le_trans h.size h'.size,fun b h1 J =>
  (h'.aL b (Nat.lt_of_lt_of_le h1 h.size) (fun h3=>(hO b h3).elim J (fun h4=>by omega))).trans (h.aL b h1 J)⟩
structure gj (P:Program) (f:FuncId) (F:FT):Prop where
 enters:∀ args w,(callFunc f args).run P w=.ok (.enter f args) w
 calls:∀ (args:List Value) (H:ay) (K:Value→ay→Prop),F args H K→∀ (ν:Nu) (as:List Value) (w:World) (n:Nat) (O:Nat→Prop),bf ν args as→bU ν H w→(∀ id,H.length≤id→ν id=none) →
  (∀ id b l,H[id]?=some (some b)→b.own=true→ν id=some l→O l.aL) →
  CallsIn Fence.wide n P f ⟨as⟩ w fun e w'=>∃ v v' ak H',e=.returned v'∧K v H'∧au ak v v'∧ν.le ak∧bU ak H' w'∧(∀ id,H'.length≤id→ak id=none)∧Kept O w w' ∧
   ∀ id b l,H'[id]?=some (some b)→b.own=true→ak id=some l→O l.aL∨w.heap.size≤l.aL
structure EnvOk (P:Program) (E:Env):Prop where
 ty:∀ t ti,E.tt t=some ti→aB P t ti
 eq:∀ t∈E.eqs,∀ ti,E.tt t=some ti→yf P t ti.zero
 fn:∀ g S,E.Φ g=some S→DL P g S
 ft:∀ g F,E.Ψ g=some F→gj P g F:=by intro g F h; cases h
def Hq (K:Value→ay→Prop) (ν:Nu) (O:Nat→Prop) (w:World) (e:Ending) (w':World):Prop :=
 ∃ v v' ak H',e=.returned v'∧K v H'∧au ak v v'∧ν.le ak∧bU ak H' w'∧(∀ id,H'.length≤id→ak id=none)∧Kept O w w' ∧
   ∀ id b l,H'[id]?=some (some b)→b.own=true→ak id=some l→O l.aL∨w.heap.size≤l.aL
def Rk (P:Program) (l:Nat) (G:FT) (bh:Nu):Prop :=
 ∀ (args:List Value) (H:ay) (K:Value→ay→Prop),G args H K→∀ (ν:Nu) (as:List Value) (w:World) (n:Nat) (O:Nat→Prop),bh.le ν→bf ν args as→bU ν H w→(∀ id,H.length≤id→ν id=none) →
  (∀ id b l,H[id]?=some (some b)→b.own=true→ν id=some l→O l.aL)→YieldAt Fence.wide n P l ⟨as⟩ w (Hq K ν O w)
structure Ag (P:Program) (f:FuncId) (I:Nat→FT→Nu→FT):Prop where
 enters:∀ args w,(callFunc f args).run P w=.ok (.enter f args) w
 calls:∀ l G bh,Rk P l G bh→∀ (args:List Value) (H:ay) (K:Value→ay→Prop),I l G bh args H K→∀ (ν:Nu) (as:List Value) (w:World) (n:Nat) (O:Nat→Prop),bh.le ν→bf ν args as→bU ν H w→(∀ id,H.length≤id→ν id=none) →
  (∀ id b l,H[id]?=some (some b)→b.own=true→ν id=some l→O l.aL)→CallsIn Fence.wide n P f ⟨as⟩ w (Hq K ν O w)
def gV (P:Program) (E:Env):Prop:=∀ f I,E.It f=some I→Ag P f I
theorem gV.none {P:Program} {E:Env} (h:E.It=fun _=>none):gV P E:=fun f I hI=>by rw [h] at hI; cases hI
structure jU (P:Program) (E:Env):Prop extends EnvOk P E where
 Jo:gV P E
 ys:∀ l G r,E.ys=(l,G)::r→Rk P l G E.nu
theorem EnvOk.x {P:Program} {E:Env} (h:EnvOk P E) (hI:gV P E) (hy:E.ys=[]):jU P E:=⟨h,hI,fun l G r e=>by rw [hy] at e; cases e⟩
def qM {α:Type _}:List (Nat × α)→Nat→Option α
 | [],_=>none
 | c::l,g=>match Nat.beq c.1 g with
  | true=>some c.2
  | false=>qM l g
def vw {α:Type _} (Q:Nat→α→Prop):List (Nat × α)→Prop
 | []=>True
 | c::l=>Q c.1 c.2∧vw Q l
theorem wZ {α:Type _} {Q:Nat→α→Prop}:∀ {l:List (Nat × α)} {g:Nat} {S:α},vw Q l→qM l g=some S→Q g S
 | c::l,g,S,hq,h=>by
  unfold qM at h
  split at h
  ·rename_i e; cases h; rw [← Nat.eq_of_beq_eq_true e]; exact hq.1
  ·exact wZ hq.2 h
theorem BW {E:Env} (hE:EnvOk P E) {op:Op} (h:kZ E op tmps H aJ k):eV P op tmps H aJ k:=by
 cases op
 case move=>exact aaH h
 case assign=>exact Wf h
 case nilCheck=>exact ac0 h
 case pick=>exact aaI h
 case alloc=>exact XT hE.ty h
 case box=>exact ac1 hE.ty h
 case build=>exact XZ hE.ty h
 case load=>exact aaJ hE.ty h
 case fieldAddr=>exact Td hE.ty h
 case field=>exact XU hE.ty h
 case indexAddr=>exact Te hE.ty h
 case index=>exact XY hE.ty h
 case extract=>exact U9 h
 case makeFunc=>exact TJ h
 case unOp=>exact aeI h
 case binOp=>exact ac3 hE.ty hE.eq h
 case convert=>exact Vf hE.ty h
 case buildSlice=>exact SP hE.ty h
 case makeSlice=>exact Tg hE.ty h
 case slice=>exact XX hE.ty h
 case call c =>
  unfold kZ at h
  dsimp only at h
  split at h
  ·rename_i f hc;exact aaL hc hE.fn h
  ·rename_i hc
   split at h
   ·rename_i x t hx ht;exact ac4 hE.ty hc (Array.ext' hx) (Array.ext' ht) h
   ·exact h.elim
  ·rename_i hc
   split at h
   ·rename_i x y hx;exact ac5 hc (Array.ext' hx) h
   ·exact h.elim
  ·rename_i hc
   split at h
   ·rename_i x t hx ht;exact ac9 hE.ty hc (Array.ext' hx) (Array.ext' ht) h
   ·exact h.elim
  ·rename_i hc
   split at h
   ·rename_i x y t u hx ht;exact TO hE.ty hc (Array.ext' hx) (Array.ext' ht) h
   ·exact h.elim
  ·rename_i hc
   split at h
   ·rename_i x y hx;exact ac6 hc (Array.ext' hx) h
   ·exact h.elim
  ·exact h.elim
 all_goals exact h.elim
end
open Go Go.RowKit
abbrev SK:=List Value→ay→Prop
def GP:List (List Value)→Nat→Nat→List Value→(List (List Value)→Prop)→Prop
 | [],_,_,_,_=>False
 | r::rs,0,c,vs,k=>vt r c vs fun r'=>k (r'::rs)
 | r::rs,n+1,c,vs,k=>GP rs n c vs fun bZ=>k (r::bZ)
theorem KO:∀ {rs:List (List Value)} {n c:Nat} {vs:List Value} {k:List (List Value)→Prop},GP rs n c vs k →
  ∃ r r',rs[n]?=some r∧(r'.length=r.length∧c+vs.length≤r.length∧(∀ (j:Nat) v,vs[j]?=some v→r'[c+j]?=some v)∧∀ (j:Nat),(j < c∨c+vs.length≤j)→r'[j]?=r[j]?)∧k (rs.set n r')
 | [],_,_,_,_,h=>h.elim
 | r::rs,0,c,vs,k,h=>by
  obtain ⟨l',h0,h1⟩:=yU h;exact ⟨r,l',rfl,h1,by simpa using h0⟩
 | r::rs,n+1,c,vs,k,h=>by
  obtain ⟨q,q',h1,J,h3⟩:=KO (rs:=rs) h;exact ⟨q,q',by simpa using h1,J,by simpa using h3⟩
def jJ:List Value→Bool
 | []=>true
 | v::l=>cG v && jJ l
theorem yI:∀ {l:List Value},jJ l=true→∀ v∈l,cG v=true
 | [],_,v,hv=>by simp at hv
 | v::l,h,u,hu=>by
  simp only [jJ,Bool.and_eq_true] at h;rcases List.mem_cons.1 hu with e | e
  ·rw [e]; exact h.1
  ·exact yI h.2 u e
def Nq (b:ai) (row bX:Nat) (cs:List Value) (k:ai→Prop):Prop :=
 match b with
 | .aP true ae rows=>GP rows row bX cs fun iX=>k (.aP true ae iX)
 | .flat true n ae get=>row < n∧match jJ cs with
  | true=>vt (get row) bX cs fun r'=>k (.flat true n ae fun j=>if j=row then r' else get j)
  | false=>False
 | _=>False
def C2 (E:Env) (tmps:List Value) (H:ay) (t:TypeId) (x y:Operand) (k:SK):Prop :=
 bS tmps x fun av=>match av with
  | .pointer (some ⟨id,row,sp⟩)=>bS tmps y fun v=>xG v fun cs=>cJ E.tt t fun ti=>match qm cs ti.size with
   | true=>gK H id fun b=>Nq b row (sp.getD 0) cs fun b'=>jv H id (some b') fun H'=>k tmps H'
   | false=>False
  | _=>False
def dr (tmps:List Value) (d:Option Tmp) (v:Value) (k:List Value→Prop):Prop :=
 match d with
 | none=>k tmps
 | some d=>yd tmps d v k
def vx (H:ay) (nb:Option ai) (k:ay→Prop):Prop :=
 match nb with
 | none=>k H
 | some b=>pr H (some b) k
structure Fr where
 W:World
 O:Nat→Prop
 ν:Nu
 n0:Nat
 fresh:∀ id,n0≤id→ν id=none
structure k9 (F:Fr) (E:Env):Prop where
 n0:F.n0≤E.base
 nu:E.nu.le F.ν
def Marks (n:Nat) (ds:List Deferred) (w:World):Prop :=
 ds.Nodup∧∀ d∈ds,∃ D,d={ target:=.collected D,args:=#[] }∧n≤D∧w.heap[D]?=some (.deferred (some []))
theorem Marks.nil (n:Nat) (w:World):Marks n [] w:=⟨.nil,fun d hd=>by cases hd⟩
theorem BX {n:Nat} {ds:List Deferred} {w w':World} (h:Marks n ds w) (hk:∀ D:Nat,w.heap[D]?=some (Obj.deferred (some []))→w'.heap[D]?=some (Obj.deferred (some []))):Marks n ds w' :=
 ⟨h.1,fun d hd=>let ⟨D,h1,J,h3⟩:=h.2 d hd; ⟨D,h1,J,hk D h3⟩⟩
theorem Marks.below {n:Nat} {ds:List Deferred} {w w':World} (h:Marks n ds w) (hb:Below w.heap.size w w'):Marks n ds w' :=
 BX h fun D hD=>(hb.block D (Array.getElem?_eq_some_iff.1 hD).1).trans hD
theorem Marks.eP {n:Nat} {ds:List Deferred} {w w':World} (h:Marks n ds w) {b:Nat} {cur:Array Value} {t:TypeId} {z:Nat × Nat} (hb:w.heap[b]?=some (Obj.cells cur t z)) (hk:∀ q:Nat,q≠b→w'.heap[q]?=w.heap[q]?):Marks n ds w' :=
 BX h fun D hD=>(hk D (fun e=>by rw [e,hb] at hD; cases hD)).trans hD
structure bu (F:Fr) (ν:Nu) (tmps:List Value) (H:ay) (a:Act) (w:World):Prop where
 tm:bf ν tmps a.tmps.toList
 df:Marks F.W.heap.size a.defers w
 hp:bU ν H w
 fr:∀ id,H.length≤id→ν id=none
 kp:Kept F.O F.W w
 own:∀ id b l,H[id]?=some (some b)→b.own=true→ν id=some l→F.O l.aL∨F.W.heap.size≤l.aL
 mono:F.ν.le ν
section
variable {P:Program} {E:Env} {r:Option Nat} {n:Nat} {F:Fr}
theorem bu.mA {ν:Nu} {tmps:List Value} {H:ay} {a:Act} {w:World} (h:bu F ν tmps H a w) (x:Operand):fm ν tmps a x:=by
 intro t ht v hv;obtain ⟨v',h1,J⟩:=h.tm.get hv;exact ⟨v',by simpa using h1,J⟩
theorem sj (a:Act) (d:Tmp) (v:Value):(a.put (some d) v).tmps.toList=a.tmps.toList.set d v:=by simp [Act.put]
theorem bu.dst {ν:Nu} {tmps:List Value} {H:ay} {a:Act} {w:World} (h:bu F ν tmps H a w) {d:Option Tmp} {v v':Value} (hv:au ν v v') {k:List Value→Prop} (hk:dr tmps d v k) :
  ∃ t',k t'∧bu F ν t' H (a.put d v') w:=by
 cases d with
 | none=>exact ⟨tmps,hk,h⟩
 | some d =>
  obtain ⟨h1,J⟩:=oV hk;exact ⟨_,J,⟨by rw [sj]; exact h.tm.set hv d,h.df,h.hp,h.fr,h.kp,h.own,h.mono⟩⟩
theorem bu.quiet {ν ak:Nu} {tmps:List Value} {H:ay} {a:Act} {w w':World} (h:bu F ν tmps H a w) {v v':Value} {nb:Option ai} (hq:nc ν ak H.length w w' v v' nb)
  {k:ay→Prop} (hk:vx H nb k):∃ H',k H'∧bu F ak tmps H' a w':=by
 have hb:=hq.below;cases nb with
 | none =>
  have:=hq.Ay rfl;subst this;exact ⟨H,hk,⟨h.tm,h.df.below hb,h.hp.below hb,h.fr,h.kp.below hb,h.own,h.mono⟩⟩
 | some b =>
  obtain ⟨l,hl,hB,hle⟩:=hq.g8 b rfl;refine ⟨_,yO hk,⟨h.tm.mono hq.le,h.df.below hb,?_,fun id bm=>?_,h.kp.below hb,fun id c lc hc ho dN=>?_,Nu.le_trans h.mono hq.le⟩⟩
  ·have kT:ak=ν.add H.length l:=by
    funext id
    by_cases e:id=H.length
    ·subst e; rw [hl,Nu.add_same]
    ·rw [hq.only id e,Nu.iV e]
   subst kT;refine h.hp.push hb (h.fr _ (Nat.le_refl _)) _ (fun j c hj=>?_) hle hB
   rw [List.getElem?_append] at hj
   split at hj
   ·rename_i al; exact .inr ⟨by omega,hj⟩
   ·rename_i eK;have:j - H.length=0:=by
     have:=(List.getElem?_eq_some_iff.1 hj).1;simp at this; omega
    rw [this] at hj;simp at hj;exact .inl ⟨by omega,hj.symm⟩
  ·rw [List.length_append,List.length_singleton] at bm;rw [hq.only id (by omega)]
   exact h.fr id (by omega)
  ·rw [List.getElem?_append] at hc
   split at hc
   ·rename_i al;have aD:id≠H.length:=by omega
    rw [hq.only id aD] at dN;exact h.own id c lc hc ho dN
   ·rename_i eK;have:id - H.length=0:=by
     have:=(List.getElem?_eq_some_iff.1 hc).1;simp at this; omega
    have:id=H.length:=by omega
    subst this;rw [hl] at dN; cases dN;exact .inr (Nat.le_trans h.kp.size hle)
structure yu (b b':ai) (row bX:Nat) (cs:List Value):Prop where
 own:b.n7=true
 Qr:b'.n7=true
 n:b'.n=b.n
 ae:b'.ae=b.ae
 flat:b'.jM=b.jM
 lt:row < b.n
 len:(b'.row row).length=(b.row row).length
 fit:bX+cs.length≤(b.row row).length
 Eo:∀ j v,cs[j]?=some v→(b'.row row)[bX+j]?=some v
 out:∀ j,(j < bX∨bX+cs.length≤j)→(b'.row row)[j]?=(b.row row)[j]?
 Ep:∀ q,q≠row→b'.row q=b.row q
 pl:b.jM=true→∀ v∈cs,cG v=true
theorem SF {b:ai} {row bX:Nat} {cs:List Value} {k:ai→Prop} (h:Nq b row bX cs k):∃ b',yu b b' row bX cs∧k b':=by
 cases b with
 | aP o ae rows =>
  cases o with
  | false=>exact h.elim
  | true =>
   obtain ⟨q,l',h1,⟨k1,k2,k3,k4⟩,h3⟩:=KO h;have al:row < rows.length:=(List.getElem?_eq_some_iff.1 h1).1;have e1:(ai.aP true ae (rows.set row l')).row row=l':=by simp [ai.row,List.getD,al]
   have e2:(ai.aP true ae rows).row row=q:=by simp [ai.row,List.getD,h1]
   refine ⟨.aP true ae (rows.set row l'),⟨rfl,rfl,by simp [ai.n],rfl,rfl,al,by rw [e1,e2]; exact k1,by rw [e2]; exact k2,by rw [e1]; exact k3,by rw [e1,e2]; exact k4,fun p hp=>?_,fun h=>by simp [ai.jM] at h⟩,h3⟩
   simp [ai.row,List.getD,List.getElem?_set,Ne.symm hp]
 | flat o n ae get =>
  cases o with
  | false=>exact h.elim
  | true =>
   obtain ⟨al,h⟩:=h
   split at h
   ·rename_i hs;obtain ⟨l',h0,k1,k2,k3,k4⟩:=yU h;have e1:(ai.flat true n ae fun j=>if j=row then l' else get j).row row=l':=by simp [ai.row]
    exact ⟨.flat true n ae fun j=>if j=row then l' else get j,⟨rfl,rfl,rfl,rfl,rfl,al,by rw [e1]; exact k1,k2,by rw [e1]; exact k3,by rw [e1]; exact k4,fun p hp=>by simp [ai.row,hp],fun _=>yI hs⟩,h0⟩
   ·exact h.elim
 | b6 r=>exact h.elim
theorem yu.o {b b':ai} {row bX:Nat} {cs:List Value} (h:yu b b' row bX cs):b.own=true:=(ai.cZ h.own).1
theorem yu.o' {b b':ai} {row bX:Nat} {cs:List Value} (h:yu b b' row bX cs):b'.own=true:=(ai.cZ h.Qr).1
theorem oQ (b:Nat):∀ (vs:List Value) (o:Nat) (w:World),(w.setCells b o vs).heap.size=w.heap.size
 | [],_,_=>rfl
 | v::r,o,w=>by rw [World.setCells,oQ b r]; simp [World.setCell]
theorem rU (b:Nat):∀ (vs:List Value) (o:Nat) (w:World) (k:Nat),k≠b→(w.setCells b o vs).heap[k]?=w.heap[k]?
 | [],_,_,_,_=>rfl
 | v::r,o,w,k,hk=>by rw [World.setCells,rU b r _ _ k hk]; exact Below.heap_setCell _ _ _ _ hk
theorem Bp (b:Nat):∀ (vs:List Value) (o:Nat) (w:World) (cur:Array Value) (t:TypeId),w.heap[b]?=some (.cells cur t (0,0)) →
  ∃ pG,(w.setCells b o vs).heap[b]?=some (.cells pG t (0,0))∧pG.size=cur.size
 | [],_,w,cur,t,h=>⟨cur,h,rfl⟩
 | v::r,o,w,cur,t,h=>by
  rw [World.setCells];have h1:(w.setCell ⟨b,o,none⟩ v).heap[b]?=some (.cells (cur.setIfInBounds o v) t (0,0)):=by
   simp [World.setCell,Array.getElem?_modify,h]
  obtain ⟨pG,J,h3⟩:=Bp b r (o+1) _ _ t h1;exact ⟨pG,J,by rw [h3]; simp⟩
theorem wC (b:Nat):∀ (vs:List Value) (o:Nat) (w:World),(w.setCells b o vs).os=w.os∧(w.setCells b o vs).tape=w.tape∧(w.setCells b o vs).output=w.output
 | [],_,_=>⟨rfl,rfl,rfl⟩
 | v::r,o,w=>by rw [World.setCells]; exact wC b r _ _
theorem bU.store {ν:Nu} {H:ay} {w:World} (h:bU ν H w) {id:Nat} {b b':ai} {l:Loc} (hb:H[id]?=some (some b)) (hl:ν id=some l) {row bX:Nat} {cs eU:List Value}
  (hu:yu b b' row bX cs) (hr:bf ν cs eU) (h1:∀ v∈cs,v.oneCell'=true) :
  bU ν (H.set id (some b')) (w.setCells l.aL (l.base+row*l.ae+bX) eU):=by
 obtain ⟨l',cC,hB⟩:=h.aL id b hb;rw [hl] at cC; cases cC;have bm:id < H.length:=(List.getElem?_eq_some_iff.1 hb).1;have kU:∀ j c,(H.set id (some b'))[j]?=some (some c)→(j=id∧c=b')∨(j≠id∧H[j]?=some (some c)):=by
  intro j c hj;by_cases e:j=id
  ·subst e; rw [List.getElem?_set_self bm] at hj; cases hj; exact .inl ⟨rfl,rfl⟩
  ·rw [List.getElem?_set_ne (Ne.symm e)] at hj; exact .inr ⟨e,hj⟩
 have Iy:=hB.ae;have hlen:=hB.len row hu.lt;obtain ⟨cur,t,jV,fO,PN⟩:=hB.own hu.o (ai.cZ hu.own).2;have eZ:eU.length=cs.length:=hr.1.symm
 -- the cells of other places
 have yg:∀ r j,r < b.n→j < b.ae→(r≠row∨j < bX∨bX+cs.length≤j)→(w.setCells l.aL (l.base+row*l.ae+bX) eU).cell? (l.at r j)=w.cell? (l.at r j):=by
  intro r j jx hj aD;refine World.cell?_setCells_out l.aL _ _ _ _ (fun _ _=>?_)
  have yh:=hu.fit;rw [hlen] at yh;simp only [Loc.at,Iy,eZ];rcases Nat.lt_trichotomy r row with h | h | h
  ·left
   have:(r+1)*b.ae≤row*b.ae:=Nat.mul_le_mul_right _ h;rw [Nat.add_mul] at this;omega
  ·subst h;rcases aD with aD | aD | aD
   ·exact absurd rfl aD
   ·left; omega
   ·right; omega
  ·right
   have:(row+1)*b.ae≤r*b.ae:=Nat.mul_le_mul_right _ h;rw [Nat.add_mul] at this;omega
 have l9:∀ j v,eU[j]?=some v→(w.setCells l.aL (l.base+row*l.ae+bX) eU).cell? (l.at row (bX+j))=some v:=by
  intro j v hv;have hj:j < eU.length:=(List.getElem?_eq_some_iff.1 hv).1;have yh:=hu.fit;have:=World.cell?_setCells_in l.aL eU (l.base+row*l.ae+bX) w (fun m hm=>by
   have Jk:bX+m < (b.row row).length:=by omega
   obtain ⟨u,vO,_⟩:=hB.cell row hu.lt (bX+m) _ (List.getElem?_eq_getElem Jk);simp only [Loc.at] at vO;rw [show l.base+row*l.ae+bX+m=l.base+row*l.ae+(bX+m) by omega,vO]; rfl) j hj
  simp only [Loc.at];rw [show l.base+row*l.ae+(bX+j)=l.base+row*l.ae+bX+j by omega,this]
  rw [← hv];simp
 refine ⟨fun j c hj=>?_,fun i j bi bj li lj hi hj aD ho e1 e2=>?_⟩
 ·rcases kU j c hj with ⟨rfl,rfl⟩ | ⟨aD,gl⟩
  ·refine ⟨l,hl,⟨by rw [hu.ae]; exact hB.ae,fun q hq=>?_,fun q hq j v hv=>?_,fun hf q hq v hv=>?_,fun q hq v hv=>?_,fun _ _=>?_,(fun r h=>by rw [(ai.cZ hu.Qr).2] at h; cases h),?_⟩⟩
   ·rw [hu.n] at hq;by_cases e:q=row
    ·subst e; rw [hu.len,hu.ae]; exact hlen
    ·rw [hu.Ep q e,hu.ae]; exact hB.len q hq
   ·rw [hu.n] at hq;by_cases e:q=row
    ·subst e;by_cases hj:bX≤j∧j < bX+cs.length
     ·have Er:j - bX < cs.length:=by omega
      have:=hu.Eo (j - bX) _ (List.getElem?_eq_getElem Er);rw [show bX+(j - bX)=j by omega,hv] at this
      cases this;obtain ⟨v',J,h3⟩:=hr.get (List.getElem?_eq_getElem Er);have:=l9 (j - bX) v' J;rw [show bX+(j - bX)=j by omega] at this
      exact ⟨v',this,h3⟩
     ·have oq:=hu.out j (by omega)
      rw [oq] at hv;obtain ⟨v',J,h3⟩:=hB.cell q hq j v hv;have gl:j < b.ae:=by rw [← hlen]; exact (List.getElem?_eq_some_iff.1 hv).1
      exact ⟨v',by rw [yg q j hq gl (.inr (by omega))]; exact J,h3⟩
    ·rw [hu.Ep q e] at hv;obtain ⟨v',J,h3⟩:=hB.cell q hq j v hv;have gl:j < b.ae:=by rw [← hB.len q hq]; exact (List.getElem?_eq_some_iff.1 hv).1
     exact ⟨v',by rw [yg q j hq gl (.inl e)]; exact J,h3⟩
   ·rw [hu.n] at hq; rw [hu.flat] at hf;by_cases e:q=row
    ·subst e;obtain ⟨j,hj,rfl⟩:=List.getElem_of_mem hv;by_cases Er:bX≤j∧j < bX+cs.length
     ·have:=hu.Eo (j - bX) _ (List.getElem?_eq_getElem (by omega:j - bX < cs.length))
      rw [show bX+(j - bX)=j by omega,List.getElem?_eq_getElem hj] at this
      injection this with this
      rw [this];exact hu.pl hf _ (List.getElem_mem _)
     ·have:=hu.out j (by omega)
      rw [List.getElem?_eq_getElem hj] at this;exact hB.plain hf q hq _ (List.mem_of_getElem? this.symm)
    ·rw [hu.Ep q e] at hv; exact hB.plain hf q hq v hv
   ·rw [hu.n] at hq;by_cases e:q=row
    ·subst e;obtain ⟨j,hj,rfl⟩:=List.getElem_of_mem hv;by_cases Er:bX≤j∧j < bX+cs.length
     ·have:=hu.Eo (j - bX) _ (List.getElem?_eq_getElem (by omega:j - bX < cs.length))
      rw [show bX+(j - bX)=j by omega,List.getElem?_eq_getElem hj] at this
      injection this with this
      rw [this];exact h1 _ (List.getElem_mem _)
     ·have:=hu.out j (by omega)
      rw [List.getElem?_eq_getElem hj] at this;exact hB.one q hq _ (List.mem_of_getElem? this.symm)
    ·rw [hu.Ep q e] at hv; exact hB.one q hq v hv
   ·obtain ⟨pG,J,h3⟩:=Bp l.aL eU (l.base+row*l.ae+bX) w cur t jV;exact ⟨pG,t,J,by rw [h3]; exact fO,by rw [hu.n]; exact PN⟩
   ·rw [oQ]; exact hB.live
  ·obtain ⟨lj,c6,rr⟩:=h.aL j c gl;have IA:=h.sep id j b c l lj hb gl (Ne.symm aD) hu.o hl c6;exact ⟨lj,c6,rr.same (rU _ _ _ _ _ (Ne.symm IA)) (by rw [oQ]; exact Nat.le_refl _)⟩
 ·rcases kU i bi hi with ⟨rfl,rfl⟩ | ⟨hni,aQ⟩ <;> rcases kU j bj hj with ⟨rfl,rfl⟩ | ⟨hnj,gl⟩
  ·exact absurd rfl aD
  ·exact h.sep _ j b bj li lj hb gl aD hu.o e1 e2
  ·exact h.sep i _ bi b li lj aQ hb aD ho e1 e2
  ·exact h.sep i j bi bj li lj aQ gl aD ho e1 e2
theorem Lz (hE:EnvOk P E) {o:Oper} {t:TypeId} {x y:Operand} (ho:o.op=.store t x y) {ν:Nu} {tmps ts:List Value} {H:ay} {a b:Act} {w:World} (hi:bu F ν ts H b w) {k:SK}
  (hx:fm ν tmps a x) (hy:fm ν tmps a y) (h:C2 E tmps H t x y k):∃ w' H',(execOp a.eval o).run P w=.ok .skip w'∧bu F ν ts H' b w'∧k tmps H':=by
 obtain ⟨av,J,hv⟩:=kG h hx;clear h
 split at J
 ·rename_i id row sp;obtain ⟨v,h,hvv⟩:=kG J hy;clear J;have J:=Bz h;clear h;obtain ⟨ti,ht,h⟩:=cO J;clear J
  split at h
  ·rename_i bc;obtain ⟨hlen,q7⟩:=yH bc;obtain ⟨bl,hb,J⟩:=gD h;clear h;obtain ⟨b',hu,h⟩:=SF J;clear J;obtain ⟨al,J⟩:=mq h;clear h;obtain ⟨l,hl,he⟩:=hv.nV;obtain ⟨l',cC,hB⟩:=hi.hp.aL id bl hb;rw [hl] at cC; cases cC;have hc:=hvv.cells;obtain ⟨cur,tt',jV,fO,PN⟩:=hB.own hu.o (ai.cZ hu.own).2;obtain ⟨i,iL,gA,_⟩:=(hE.ty _ _ ht).info;have ada:∀ u∈(a.eval y).cells.toList,u.oneCell'=true:=by
    intro u tH;obtain ⟨j,hj,rfl⟩:=List.getElem_of_mem tH;have gl:j < v.cells.toList.length:=by rw [hc.1]; exact hj
    have:=hc.2 j _ _ (List.getElem?_eq_getElem gl) (List.getElem?_eq_getElem hj);rw [this.CA]; exact q7 _ (List.getElem_mem _)
   have ar:(storeCells (l.at row (sp.getD 0)) (a.eval y).cells.toList).run P w=.ok () (w.setCells l.aL (l.base+row*l.ae+sp.getD 0) (a.eval y).cells.toList):=by
    have:=run_storeCells_cells (P:=P) l.aL (l.base+row*l.ae+sp.getD 0) (a.eval y).cells.toList 0 w (fun j hj=>by
     have yh:=hu.fit;rw [hc.1] at yh;obtain ⟨u,vO,_⟩:=hB.cell row hu.lt (sp.getD 0+j) _ (List.getElem?_eq_getElem (by omega))
     simp only [Loc.at] at vO;rw [show l.base+row*l.ae+sp.getD 0+0+j=l.base+row*l.ae+(sp.getD 0+j) by omega,vO]; rfl) (fun j hj=>by
     simp [World.frozen?,jV]) ada
    simpa [Loc.at] using this
   have aW:(a.eval y).cells.size=i.size:=by rw [gA,← hlen,hc.1]; simp
   have bB:(execOp a.eval o).run P w=.ok .skip (w.setCells l.aL (l.base+row*l.ae+sp.getD 0) (a.eval y).cells.toList):=by
    simp [execOp,ho,Instr.storeAt,he,Instr.sureAddr,storeVar,gu iL,aW,ar]
   have aQ:bu F ν ts (H.set id (some b')) b (w.setCells l.aL (l.base+row*l.ae+sp.getD 0) (a.eval y).cells.toList):=by
    obtain ⟨o1,o2,o3⟩:=wC l.aL (a.eval y).cells.toList (l.base+row*l.ae+sp.getD 0) w;refine ⟨hi.tm,hi.df.eP jV (fun q hq=>rU _ _ _ _ _ hq),hi.hp.store hb hl hu hc q7,fun j hj=>hi.fr j (by simpa using hj),⟨o1.trans hi.kp.os,o2.trans hi.kp.tape,o3.trans hi.kp.output,by rw [oQ]; exact hi.kp.size,fun q h1 J=>?_⟩,fun j c lc hj ot dN=>?_,hi.mono⟩
    ·rw [rU]
     ·exact hi.kp.aL q h1 J
     ·intro e;subst e;rcases hi.own id bl l hb hu.o hl with h | h
      ·exact J h
      ·omega
    ·by_cases e:j=id
     ·subst e;rw [hl] at dN; cases dN;exact hi.own j bl l hb hu.o hl
     ·rw [List.getElem?_set_ne (Ne.symm e)] at hj;exact hi.own j c lc hj ot dN
   exact ⟨_,_,bB,aQ,J⟩
  ·exact h.elim
 ·exact J.elim
theorem Ti (hE:EnvOk P E) {o:Oper} {t:TypeId} {x y:Operand} (ho:o.op=.store t x y) {ν:Nu} {tmps:List Value} {H:ay} {a:Act} {w:World} (hi:bu F ν tmps H a w) {k:SK}
  (h:C2 E tmps H t x y fun t' H'=>dr t' o.dst undef fun vP=>k vP H') {next:Act→World→Prop} {Q:Exit→Act→World→Prop}
  (hk:∀ ν t' H' a' w',bu F ν t' H' a' w'→k t' H'→next a' w'):o.wpIn (WF r) n P a w next Q:=by
 obtain ⟨w',H',bB,aQ,J⟩:=Lz hE ho hi (hi.mA x) (hi.mA y) h;obtain ⟨t',Jp,aeL⟩:=aQ.dst (.undef ν) J;refine ⟨fun _ _=>trivial,?_⟩
 rw [Oper.semAt_eq _ _ _ (by simp [ho]),bB]
 exact hk _ _ _ _ _ aeL Jp
end
open Go Go.RowKit
def pA (id:Nat):Nat→Value→Bool
 | 0,_=>true
 | k+1,v=>match v with
  | .bool _ | .int _ _ | .string _ | .pointer none | .slice none _ _ | .nilFunc | .chan none=>false
  | .pointer (some ⟨j,_,_⟩)=>Nat.beq j id
  | .slice (some ⟨j,_,_⟩) _ _=>Nat.beq j id
  | .func _ ⟨l⟩ ⟨m⟩=>l.foldr (fun v acc=>pA id k v || acc) false || m.foldr (fun v acc=>pA id k v || acc) false
  | .agg ⟨l⟩=>l.foldr (fun v acc=>pA id k v || acc) false
  | .tuple ⟨l⟩=>l.foldr (fun v acc=>pA id k v || acc) false
  | _=>true
def sO (id k:Nat) (l:List Value):Bool:=l.foldr (fun v acc=>pA id k v || acc) false
theorem wI {id k:Nat}:∀ {l:List Value},sO id k l=false→∀ v∈l,pA id k v=false
 | [],_,v,hv=>by simp at hv
 | x::l,h,v,hv=>by
  simp only [sO,List.foldr_cons,Bool.or_eq_false_iff] at h;rcases List.mem_cons.1 hv with e | e
  ·rw [e]; exact h.1
  ·exact wI (l:=l) h.2 v e
def Nu.off (ν ak:Nu) (id:Nat):Prop:=∀ j,j≠id→ak j=ν j
theorem bf.map {ν ak:Nu} {xs ys:List Value} (h:bf ν xs ys) (hm:∀ v∈xs,∀ r,au ν v r→au ak v r):bf ak xs ys :=
 ⟨h.1,fun i x y hx hy=>hm x (List.mem_of_getElem? hx) y (h.2 i x y hx hy)⟩
theorem Fi {id:Nat} {ν ak:Nu} (gX:ν.off ak id):∀ (k:Nat) (v r:Value),pA id k v=false→au ν v r→au ak v r:=by
 intro k
 induction k with
 | zero=>intro v r h; simp [pA] at h
 | succ k ih =>
  intro v r h hr;cases hr with
  | bool b=>exact .bool b
  | int q n=>exact .int q n
  | str s=>exact .str s
  | mD=>exact .mD
  | ptr j row sp l hl=>exact .ptr j row sp l (by rw [gX j (Nat.ne_of_beq_eq_false h)]; exact hl)
  | ju=>exact .ju
  | slice j row n c c' l hl hc hn hr=>exact .slice j row n c c' l (by rw [gX j (Nat.ne_of_beq_eq_false h)]; exact hl) hc hn hr
  | void j row c a hc=>exact .void j row c a hc
  | l8 j row m n c' l hl hm hn hr=>exact .l8 j row m n c' l (by rw [gX j (Nat.ne_of_beq_eq_false h)]; exact hl) hm hn hr
  | kS j row a=>exact .kS j row a
  | mE=>exact .mE
  | func fn xs ys nw dj h1 J h3 h4 =>
   have h:(sO id k xs || sO id k nw)=false:=h;rw [Bool.or_eq_false_iff] at h;have a1:=bf.map (ak:=ak) ⟨h1,J⟩ (fun v hv r hr=>ih v r (wI h.1 v hv) hr)
   have a2:=bf.map (ak:=ak) ⟨h3,h4⟩ (fun v hv r hr=>ih v r (wI h.2 v hv) hr)
   exact .func fn _ _ _ _ a1.1 a1.2 a2.1 a2.2
  | agg xs ys h1 J =>
   have h:sO id k xs=false:=h;have a1:=bf.map (ak:=ak) ⟨h1,J⟩ (fun v hv r hr=>ih v r (wI h v hv) hr)
   exact .agg _ _ a1.1 a1.2
  | tuple xs ys h1 J =>
   have h:sO id k xs=false:=h;have a1:=bf.map (ak:=ak) ⟨h1,J⟩ (fun v hv r hr=>ih v r (wI h v hv) hr)
   exact .tuple _ _ a1.1 a1.2
  | dead=>exact .dead _ (by assumption)
def qN (id:Nat):Nat→Value→Option Value
 | 0,_=>none
 | k+1,v=>match pA id 3 v with
  | false=>some v
  | true=>match v.oneCell' with
   | true=>some (.chan none)
   | false=>match v with
    | .agg ⟨l⟩=>match l.foldr (fun v acc=>match qN id k v,acc with | some x,some xs=>some (x::xs) | _,_=>none) (some []) with | some l'=>some (.agg ⟨l'⟩) | none=>none
    | .tuple ⟨l⟩=>match l.foldr (fun v acc=>match qN id k v,acc with | some x,some xs=>some (x::xs) | _,_=>none) (some []) with | some l'=>some (.tuple ⟨l'⟩) | none=>none
    | _=>none
def zT (id k:Nat) (l:List Value):Option (List Value):=l.foldr (fun v acc=>match qN id k v,acc with | some x,some xs=>some (x::xs) | _,_=>none) (some [])
theorem TP {id m:Nat} {x:Value} {xs l:List Value} (h:zT id m (x::xs)=some l):∃ y ys,l=y::ys∧qN id m x=some y∧zT id m xs=some ys:=by
 unfold zT at h;rw [List.foldr_cons] at h
 split at h
 ·rename_i y ys h1 J;exact ⟨y,ys,(Option.some.inj h).symm,h1,J⟩
 ·cases h
theorem FP {id m:Nat} {ν ak:Nu} (h:∀ v v2 r,qN id m v=some v2→au ν v r→au ak v2 r):∀ {xs l rs:List Value},zT id m xs=some l→bf ν xs rs→bf ak l rs
 | [],l,rs,h1,J=>by
  have:l=[]:=by simp [zT] at h1; exact h1
  rw [this,J.iU]; exact .nil _
 | x::xs,l,rs,h1,J=>by
  obtain ⟨y,ys,rfl,e1,e2⟩:=TP h1;obtain ⟨r,bZ,rfl,k1,k2⟩:=J.jm;exact .cons (h _ _ _ e1 k1) (FP h e2 k2)
theorem Vg {id:Nat} {ν ak:Nu} (gX:ν.off ak id):∀ (m:Nat) (v v2 r:Value),qN id m v=some v2→au ν v r→au ak v2 r:=by
 intro m
 induction m with
 | zero=>intro v v2 r h; simp [qN] at h
 | succ m ih =>
  intro v v2 r h hr;unfold qN at h
  split at h
  ·rename_i hm;cases h;exact Fi gX 3 v r hm hr
  ·split at h
   ·rename_i h1;cases h;exact .dead _ (by rw [hr.CA]; exact h1)
   ·split at h
    ·split at h
     ·rename_i l l' e;cases h;obtain ⟨ys,rfl,hy⟩:=hr.uO;have:=FP (ih) e hy;exact .agg _ _ this.1 this.2
     ·cases h
    ·split at h
     ·rename_i l l' e;cases h;obtain ⟨ys,rfl,hy⟩:=hr.nR;have:=FP (ih) e hy;exact .tuple _ _ this.1 this.2
     ·cases h
    ·cases h
def Ah {α:Type} (o:Option α) (k:α→Prop):Prop:=match o with | some a=>k a | none=>False
theorem FQ {α:Type} {o:Option α} {k:α→Prop} (h:Ah o k):∃ a,o=some a∧k a:=by
 unfold Ah at h; split at h
 ·exact ⟨_,rfl,h⟩
 ·exact h.elim
theorem Fj {P:Value→Value→Prop}:∀ {ys:List Value},(∀ y∈ys,∃ x,P x y)→∃ xs:List Value,xs.length=ys.length∧∀ (i:Nat) x y,xs[i]?=some x→ys[i]?=some y→P x y
 | [],_=>⟨[],rfl,fun i x y hx=>by simp at hx⟩
 | y::ys,h=>by
  obtain ⟨x,hx⟩:=h y (by simp)
  obtain ⟨xs,h1,J⟩:=Fj (ys:=ys) (fun z hz=>h z (by simp [hz]))
  refine ⟨x::xs,by simp [h1],fun i a b ha hb=>?_⟩
  cases i with
  | zero=>simp at ha hb; subst ha; subst hb; exact hx
  | succ i=>exact J i a b (by simpa using ha) (by simpa using hb)
theorem au.any {ν:Nu} {v r:Value} (h:au ν v r):∃ x,∀ ak,au ak x r:=by
 induction h with
 | agg xs ys h1 _ ih =>
  obtain ⟨zs,e1,e2⟩:=Fj (P:=fun x y=>∀ ak,au ak x y) (ys:=ys) (fun y hy=>by
   obtain ⟨i,hi,rfl⟩:=List.getElem_of_mem hy;exact ih i _ _ (List.getElem?_eq_getElem (h1 ▸ hi)) (List.getElem?_eq_getElem hi))
  exact ⟨.agg ⟨zs⟩,fun ak=>.agg _ _ e1 (fun i x y hx hy=>e2 i x y hx hy ak)⟩
 | tuple xs ys h1 _ ih =>
  obtain ⟨zs,e1,e2⟩:=Fj (P:=fun x y=>∀ ak,au ak x y) (ys:=ys) (fun y hy=>by
   obtain ⟨i,hi,rfl⟩:=List.getElem_of_mem hy;exact ih i _ _ (List.getElem?_eq_getElem (h1 ▸ hi)) (List.getElem?_eq_getElem hi))
  exact ⟨.tuple ⟨zs⟩,fun ak=>.tuple _ _ e1 (fun i x y hx hy=>e2 i x y hx hy ak)⟩
 | dead w hw=>exact ⟨.chan none,fun ak=>.dead w hw⟩
 | _=>exact ⟨.chan none,fun ak=>.dead _ rfl⟩
def Jq (i:Nat):List Nat→Bool
 | []=>false
 | a::l=>match Nat.beq a i with
  | true=>true
  | false=>Jq i l
def u6 (a:Nat→Value) (id:Nat) (aa:List Nat):Nat→List Value→(List Value→Prop)→Prop
 | _,[],k=>k []
 | i,v::l,k=>match Jq i aa with
  | true=>Ah (qN id 3 v) fun v'=>u6 a id aa (i+1) l fun l'=>k (v'::l')
  | false=>u6 a id aa (i+1) l fun l'=>k (a i::l')
theorem Oh {ν:Nu} {t r:List Value} (h:bf ν t r):∃ a:Nat→Value,∀ (j:Nat) (y:Value),r[j]?=some y→∀ ak,au ak (a j) y:=by
 have hx:∀ j:Nat,∃ x:Value,∀ y:Value,r[j]?=some y→∀ ak,au ak x y:=by
  intro j;cases hj:r[j]? with
  | none=>exact ⟨undef,fun y hy=>by simp at hy⟩
  | some y =>
   have al:j < t.length:=by
    rw [h.1];exact (List.getElem?_eq_some_iff.1 hj).1
   obtain ⟨x,hx⟩:=(h.2 j t[j] y (List.getElem?_eq_getElem al) hj).any;exact ⟨x,fun y' hy=>by cases hy; exact hx⟩
 exact ⟨fun j=>Classical.choose (hx j),fun j y hy=>Classical.choose_spec (hx j) y hy⟩
theorem Nr {a:Nat→Value} {i:Nat} {y:Value} {ys:List Value} (h:∀ (j:Nat) (z:Value),(y::ys)[j]?=some z→∀ ak:Nu,au ak (a (i+j)) z) :
  (∀ ak:Nu,au ak (a i) y)∧∀ (j:Nat) (z:Value),ys[j]?=some z→∀ ak:Nu,au ak (a (i+1+j)) z:=by
 refine ⟨fun ak=>h 0 y rfl ak,fun j z hz ak=>?_⟩
 have:=h (j+1) z (by simpa using hz) ak
 rw [show i+1+j=i+(j+1) by omega]
 exact this
theorem Fu {a:Nat→Value} {id:Nat} {aa:List Nat}:∀ {t:List Value} {i:Nat} {k:List Value→Prop},u6 a id aa i t k→∀ (ν:Nu) r,bf ν t r→(∀ (j:Nat) (y:Value),r[j]?=some y→∀ ak:Nu,au ak (a (i+j)) y)→∃ t',k t'∧∀ ak,ν.off ak id→bf ak t' r
 | [],i,k,h,ν,r,hr,ha=>⟨[],h,fun ak _=>by rw [hr.iU]; exact .nil _⟩
 | v::l,i,k,h,ν,r,hr,ha=>by
  obtain ⟨y,ys,rfl,h1,J⟩:=hr.jm;obtain ⟨hx,ha⟩:=Nr ha;unfold u6 at h
  split at h
  ·obtain ⟨v',e,h⟩:=FQ h;obtain ⟨l',h3,h4⟩:=Fu h ν ys J ha;exact ⟨_,h3,fun ak ho=>.cons (Vg ho 3 _ _ _ e h1) (h4 ak ho)⟩
  ·obtain ⟨l',h3,h4⟩:=Fu h ν ys J ha;exact ⟨_,h3,fun ak ho=>.cons (hx _) (h4 ak ho)⟩
def u7 (id:Nat) (v:Value):Value:=match pA id 3 v with | false=>v | true=>.chan none
def Ci (id:Nat):List (List Value)→(List (List Value)→Prop)→Prop
 | [],k=>k []
 | r::l,k=>Ci id l fun l'=>k (r.map (u7 id)::l')
theorem KI {id:Nat}:∀ {l:List (List Value)} {k:List (List Value)→Prop},Ci id l k→k (l.map fun r=>r.map (u7 id))
 | [],k,h=>h
 | r::l,k,h=>by have:=KI (l:=l) h; simpa using this
def zU (id:Nat):List (List Value)→Bool
 | []=>false
 | r::l=>sO id 3 r || zU id l
theorem LA {id:Nat}:∀ {l:List (List Value)},zU id l=false→∀ r∈l,sO id 3 r=false
 | [],_,v,hv=>by simp at hv
 | x::l,h,v,hv=>by
  simp only [zU,Bool.or_eq_false_iff] at h;rcases List.mem_cons.1 hv with e | e
  ·rw [e]; exact h.1
  ·exact LA (l:=l) h.2 v e
def zV (id:Nat) (b:ai) (k:ai→Prop):Prop :=
 match b with
 | .flat o n e g=>k (.flat o n e g)
 | .aP o e rows=>match zU id rows with
  | false=>k (.aP o e rows)
  | true=>Ci id rows fun iX=>k (.aP o e iX)
 | .b6 r=>k (.b6 r)
theorem LB {id:Nat} {b:ai} {k:ai→Prop} (h:zV id b k):∃ b',k b'∧b'.own=b.own∧∀ (ν ak:Nu) (l:Loc) (w:World),ν.off ak id→bP ν l b w→bP ak l b' w:=by
 cases b with
 | flat o n e g =>
  exact ⟨_,h,rfl,fun ν ak l w ho hB=>⟨hB.ae,hB.len,fun r hr j v hv=>by
   obtain ⟨v',h1,J⟩:=hB.cell r hr j v hv;have:=hB.plain rfl r hr v (List.mem_of_getElem? hv);rw [J.kJ this] at h1;exact ⟨v,h1,au.kH this⟩,hB.plain,hB.one,hB.own,hB.lr,hB.live⟩⟩
 | b6 r =>
  exact ⟨_,h,rfl,fun ν ak l w ho hB=>⟨hB.ae,fun r hr=>absurd hr (Nat.not_lt_zero r),fun r hr=>absurd hr (Nat.not_lt_zero r),(fun h=>nomatch h),fun r hr=>absurd hr (Nat.not_lt_zero r),fun _ h=>(nomatch h),hB.lr,hB.live⟩⟩
 | aP o e rows =>
  have h:(match zU id rows with
   | false=>k (.aP o e rows)
   | true=>Ci id rows fun iX=>k (.aP o e iX)):=h
  split at h
  ·rename_i hm;exact ⟨_,h,rfl,fun ν ak l w ho hB=>⟨hB.ae,hB.len,fun r hr j v hv=>by
    obtain ⟨v',h1,J⟩:=hB.cell r hr j v hv;refine ⟨v',h1,Fi ho 3 v v' ?_ J⟩;have jx:r < rows.length:=hr;simp only [ai.row,List.getD,List.getElem?_eq_getElem jx,Option.getD_some] at hv;exact wI (LA hm _ (List.getElem_mem _)) v (List.mem_of_getElem? hv),hB.plain,hB.one,hB.own,hB.lr,hB.live⟩⟩
  ·rename_i hm;have h:=KI h;have a8:∀ r,(ai.aP o e (rows.map fun r=>r.map (u7 id))).row r=((ai.aP o e rows).row r).map (u7 id):=by
    intro r;simp only [ai.row,List.getD,List.getElem?_map];cases rows[r]? <;> rfl
   have h1c:∀ v,v.oneCell'=true→(u7 id v).oneCell'=true:=by
    intro v hv;unfold u7
    split
    ·exact hv
    ·rfl
   refine ⟨_,h,rfl,fun ν ak l w ho hB=>⟨hB.ae,fun r hr=>?_,fun r hr j v hv=>?_,fun h=>by simp [ai.jM] at h,fun r hr v hv=>?_,fun h _=>?_,(fun r h=>nomatch h),hB.live⟩⟩
   ·have hr:r < (ai.aP o e rows).n:=by simpa [ai.n] using hr
    rw [a8,List.length_map]; exact hB.len r hr
   ·have hr:r < (ai.aP o e rows).n:=by simpa [ai.n] using hr
    rw [a8,List.getElem?_map] at hv;cases hx:((ai.aP o e rows).row r)[j]? with
    | none=>rw [hx] at hv; cases hv
    | some x =>
     rw [hx] at hv;cases hv;obtain ⟨v',h1,J⟩:=hB.cell r hr j x hx;refine ⟨v',h1,?_⟩;unfold u7
     split
     ·rename_i tI; exact Fi ho 3 x v' tI J
     ·exact .dead _ (by rw [J.CA]; exact hB.one r hr x (List.mem_of_getElem? hx))
   ·have hr:r < (ai.aP o e rows).n:=by simpa [ai.n] using hr
    rw [a8] at hv;obtain ⟨x,hx,rfl⟩:=List.mem_map.1 hv;exact h1c x (hB.one r hr x hx)
   ·obtain ⟨cur,t,q1,q2,q3⟩:=hB.own h rfl;exact ⟨cur,t,q1,q2,by simpa [ai.n] using q3⟩
def xT (id:Nat):ay→(ay→Prop)→Prop
 | [],k=>k []
 | none::H,k=>xT id H fun H'=>k (none::H')
 | some b::H,k=>zV id b fun b'=>xT id H fun H'=>k (some b'::H')
theorem Fv {id:Nat}:∀ {H:ay} {k:ay→Prop},xT id H k→∃ H',k H'∧H'.length=H.length∧∀ (j:Nat) (b':ai),H'[j]?=some (some b')→∃ b,H[j]?=some (some b)∧b'.own=b.own ∧
  ∀ (ν ak:Nu) (l:Loc) (w:World),ν.off ak id→bP ν l b w→bP ak l b' w
 | [],k,h=>⟨[],h,rfl,fun j b' hj=>by simp at hj⟩
 | none::H,k,h=>by
  obtain ⟨H',h1,J,h3⟩:=Fv (H:=H) h;refine ⟨_,h1,by simp [J],fun j b' hj=>?_⟩
  cases j with
  | zero=>simp at hj
  | succ j=>exact h3 j b' (by simpa using hj)
 | some b::H,k,h=>by
  obtain ⟨b1,h,hb⟩:=LB h;obtain ⟨H',h1,J,h3⟩:=Fv (H:=H) h;refine ⟨_,h1,by simp [J],fun j b' hj=>?_⟩
  cases j with
  | zero=>simp at hj; subst hj; exact ⟨b,rfl,hb⟩
  | succ j=>exact h3 j b' (by simpa using hj)
open Go Go.RowKit
structure CR (ν:Nu) (ae:Nat) (g:Nat→List Value) (m:Nat) (L:List Value):Prop where
 len:L.length=m*ae
 row:∀ r,r < m→(g r).length=ae
 cell:∀ r,r < m→∀ (j:Nat) v,(g r)[j]?=some v→∃ v',L[r*ae+j]?=some v'∧au ν v v'
 one:∀ u∈L,u.oneCell'=true
 s9:∀ r,r < m→∀ v∈g r,v.oneCell'=true
def iH (g:Nat→List Value) (n:Nat) (h:Nat→List Value):Nat→List Value:=fun j=>bif Nat.blt j n then g j else h (j - n)
theorem ji {g h:Nat→List Value} {n j:Nat} (hj:j < n):iH g n h j=g j:=by
 have:Nat.blt j n=true:=by rw [Nat.blt_eq]; exact hj
 simp [iH,this]
theorem gw {g h:Nat→List Value} {n j:Nat} (hj:n≤j):iH g n h j=h (j - n):=by
 have:Nat.blt j n=false:=by
  cases h:Nat.blt j n with
  | false=>rfl
  | true=>rw [Nat.blt_eq] at h; omega
 simp [iH,this]
theorem CR.append {ν:Nu} {ae n m:Nat} {g h:Nat→List Value} {L M:List Value} (a:CR ν ae g n L) (b:CR ν ae h m M):CR ν ae (iH g n h) (n+m) (L++M):=by
 refine ⟨by rw [List.length_append,a.len,b.len,Nat.add_mul],fun r hr=>?_,fun r hr j v hv=>?_,fun u hu=>?_,fun r hr v hv=>?_⟩
 ·by_cases h:r < n
  ·rw [ji h]; exact a.row r h
  ·rw [gw (by omega)]; exact b.row _ (by omega)
 ·by_cases h:r < n
  ·rw [ji h] at hv;obtain ⟨v',h1,J⟩:=a.cell r h j v hv;exact ⟨v',by rw [List.getElem?_append_left (List.getElem?_eq_some_iff.1 h1).1]; exact h1,J⟩
  ·rw [gw (by omega)] at hv
   obtain ⟨v',h1,J⟩:=b.cell (r - n) (by omega) j v hv
   refine ⟨v',?_,J⟩;have e:r*ae+j=L.length+((r - n)*ae+j):=by
    rw [a.len];have:r*ae=n*ae+(r - n)*ae:=by rw [← Nat.add_mul]; congr 1; omega
    omega
   rw [e,List.getElem?_append_right (by omega),Nat.add_sub_cancel_left]; exact h1
 ·rcases List.mem_append.1 hu with h | h
  ·exact a.one u h
  ·exact b.one u h
 ·by_cases h:r < n
  ·rw [ji h] at hv; exact a.s9 r h v hv
  ·rw [gw (by omega)] at hv; exact b.s9 _ (by omega) v hv
theorem CR.nil (ν:Nu) (ae:Nat) (g:Nat→List Value):CR ν ae g 0 [] :=
 ⟨by simp,fun r hr=>absurd hr (by omega),fun r hr=>absurd hr (by omega),fun u hu=>by simp at hu,fun r hr=>absurd hr (by omega)⟩
theorem CR.mono {ν ak:Nu} {ae m:Nat} {g:Nat→List Value} {L:List Value} (h:CR ν ae g m L) (hle:ν.le ak):CR ak ae g m L :=
 ⟨h.len,h.row,fun r hr j v hv=>let ⟨v',h1,J⟩:=h.cell r hr j v hv; ⟨v',h1,J.mono hle⟩,h.one,h.s9⟩
theorem CR.congr {ν:Nu} {ae m:Nat} {g g':Nat→List Value} {L:List Value} (h:CR ν ae g m L) (hg:∀ r,r < m→g' r=g r):CR ν ae g' m L :=
 ⟨h.len,fun r hr=>by rw [hg r hr]; exact h.row r hr,fun r hr j v hv=>h.cell r hr j v (by rw [← hg r hr]; exact hv),h.one,fun r hr v hv=>h.s9 r hr v (by rw [← hg r hr]; exact hv)⟩
theorem CR.Hr {ν:Nu} {l:Loc} {b:ai} {w:World} (hB:bP ν l b w) {row m:Nat} (hm:row+m≤b.n):∃ L,CR ν b.ae (fun j=>b.row (row+j)) m L∧∀ (j:Nat) u,L[j]?=some u→w.cell? ((l.at row 0).add j)=some u:=by
 have key:∀ q,q < m*b.ae→∃ r j v v',r < m∧j < b.ae∧q=r*b.ae+j∧(b.row (row+r))[j]?=some v∧w.cell? ((l.at row 0).add q)=some v'∧au ν v v'∧v'.oneCell'=true:=by
  intro q hq;have he:0 < b.ae:=by
   rcases Nat.eq_zero_or_pos b.ae with h | h
   ·rw [h] at hq; omega
   ·exact h
  have hr:q / b.ae < m:=(Nat.div_lt_iff_lt_mul he).2 hq;have hj:q % b.ae < b.ae:=Nat.mod_lt _ he;have hlen:=hB.len (row+q / b.ae) (by omega)
  have hv:(b.row (row+q / b.ae))[q % b.ae]?=some _:=List.getElem?_eq_getElem (by omega)
  obtain ⟨v',h1,J⟩:=hB.cell (row+q / b.ae) (by omega) _ _ hv
  refine ⟨q / b.ae,q % b.ae,_,v',hr,hj,by rw [Nat.mul_comm,Nat.div_add_mod],hv,?_,J,by rw [J.CA]; exact hB.one _ (by omega) _ (List.getElem_mem _)⟩
  rw [Loc.jN,← h1];unfold Loc.at
  congr 2
  rw [hB.ae,Nat.add_mul];have:=Nat.div_add_mod q b.ae;rw [Nat.mul_comm] at this;omega
 let L:=(List.range (m*b.ae)).map fun q=>(w.cell? ((l.at row 0).add q)).getD undef
 have kU:∀ q,q < m*b.ae→L[q]?=some ((w.cell? ((l.at row 0).add q)).getD undef):=by
  intro q hq;simp only [L,List.getElem?_map,List.getElem?_range hq,Option.map_some]
 have hL:L.length=m*b.ae:=by simp [L]
 refine ⟨L,⟨hL,fun r hr=>hB.len _ (by omega),fun r hr j v hv=>?_,fun u hu=>?_,fun r hr v hv=>hB.one _ (by omega) v hv⟩,fun j u hu=>?_⟩
 ·have hj:j < b.ae:=by rw [← hB.len (row+r) (by omega)]; exact (List.getElem?_eq_some_iff.1 hv).1
  have hq:r*b.ae+j < m*b.ae:=by
   have:(r+1)*b.ae≤m*b.ae:=Nat.mul_le_mul_right _ hr;rw [Nat.add_mul] at this; omega
  obtain ⟨v',h1,J⟩:=hB.cell (row+r) (by omega) j v hv
  refine ⟨v',?_,J⟩;have e:(l.at row 0).add (r*b.ae+j)=l.at (row+r) j:=by
   rw [Loc.jN]; unfold Loc.at; congr 1; rw [hB.ae,Nat.add_mul]; omega
  rw [kU _ hq,e,h1]; rfl
 ·obtain ⟨q,hq,rfl⟩:=List.getElem_of_mem hu;rw [hL] at hq;obtain ⟨r,j,v,v',_,_,_,_,h1,_,J⟩:=key q hq;have:=kU q hq;rw [h1] at this;have e:=List.getElem?_eq_getElem (l:=L) (i:=q) (by omega)
  rw [this] at e;rw [← Option.some.inj e]; exact J
 ·have hj:j < m*b.ae:=by rw [← hL]; exact (List.getElem?_eq_some_iff.1 hu).1
  obtain ⟨r,q,v,v',_,_,_,_,h1,_,J⟩:=key j hj;rw [kU j hj,h1] at hu;rw [h1,← hu]; rfl
theorem X0 {ν:Nu} {ae N cap aL:Nat} {g:Nat→List Value} {L:List Value} {b':ai} (hC:CR ν ae g N L) (a8:∀ r,r < N→b'.row r=g r) (hn:b'.n=N) (he:b'.ae=ae)
  (hf:b'.jM=true→∀ r,r < N→∀ v∈g r,cG v=true) {w':World} {C:Array Value} {t:TypeId} (hw:w'.heap[aL]?=some (.cells C t (0,0))) (hCL:∀ q,q < L.length→C[q]?=L[q]?)
  (fO:N≤cap) (aW:cap*ae≤C.size) (Jl:b'.rc=none):bP ν ⟨aL,0,ae,cap⟩ b' w':=by
 have HT:aL < w'.heap.size:=(Array.getElem?_eq_some_iff.1 hw).1;refine ⟨he.symm,fun r hr=>?_,fun r hr j v hv=>?_,fun h r hr v hv=>?_,fun r hr v hv=>?_,fun _ _=>⟨C,t,hw,by simpa using aW,by rw [hn]; exact fO⟩,(fun r h=>by rw [Jl] at h; cases h),HT⟩
 ·rw [hn] at hr; rw [a8 r hr,he]; exact hC.row r hr
 ·rw [hn] at hr; rw [a8 r hr] at hv;obtain ⟨v',h1,J⟩:=hC.cell r hr j v hv;refine ⟨v',?_,J⟩;simp only [Loc.at,World.cell?,Nat.zero_add];rw [hw];simp only [Option.isSome_none,Bool.false_eq_true,if_false];rw [hCL _ (List.getElem?_eq_some_iff.1 h1).1]; exact h1
 ·rw [hn] at hr; rw [a8 r hr] at hv; exact hf h r hr v hv
 ·rw [hn] at hr; rw [a8 r hr] at hv; exact hC.s9 r hr v hv
theorem bU.eP {ν ak:Nu} {H H':ay} {w w':World} (h:bU ν H w) {id:Nat} (gX:ν.off ak id)
  (ho:∀ (j:Nat) (b':ai),H'[j]?=some (some b')→j≠id→∃ b,H[j]?=some (some b)∧b'.own=b.own∧∀ l,ν j=some l→bP ν l b w→bP ak l b' w')
  (bm:∀ b',H'[id]?=some (some b')→∃ l,ak id=some l∧bP ak l b' w'∧∀ j lj bj,j≠id→H[j]?=some (some bj)→ν j=some lj→lj.aL≠l.aL):bU ak H' w':=by
 refine ⟨fun j b' hj=>?_,fun i j bi bj li lj hi hj aD Jr h1 J=>?_⟩
 ·by_cases e:j=id
  ·subst e; obtain ⟨l,h1,J,_⟩:=bm b' hj; exact ⟨l,h1,J⟩
  ·obtain ⟨b,h1,_,J⟩:=ho j b' hj e;obtain ⟨l,h3,h4⟩:=h.aL j b h1;exact ⟨l,by rw [gX j e]; exact h3,J l h3 h4⟩
 ·by_cases ei:i=id
  ·subst ei;obtain ⟨l,e1,_,e2⟩:=bm bi hi;rw [h1] at e1; cases e1;obtain ⟨b,e3,_,_⟩:=ho j bj hj (Ne.symm aD);rw [gX j (Ne.symm aD)] at J;exact Ne.symm (e2 j lj b (Ne.symm aD) e3 J)
  ·obtain ⟨b,e3,e4,_⟩:=ho i bi hi ei;rw [gX i ei] at h1;by_cases ej:j=id
   ·subst ej;obtain ⟨l,e1,_,e2⟩:=bm bj hj;rw [J] at e1; cases e1;exact e2 i li b ei e3 h1
   ·obtain ⟨c,e5,_,_⟩:=ho j bj hj ej;rw [gX j ej] at J;exact h.sep i j b c li lj e3 e5 aD (by rw [← e4]; exact Jr) h1 J
section
variable {P:Program} {w:World}
theorem rY {t ty e:TypeId} {i:TypeInfo} (ht:P.underlying t=some (.slice e)) (hi:P.info? e=some i) {A oy:Option Addr} {n c m cy:Nat} {L:List Value} (hl:L.length=m*i.size)
  (hL:∀ a,oy=some a→∀ (j:Nat) u,L[j]?=some u→w.cell? (a.add j)=some u) (hn:oy=none→m=0) (cP:n+m≤c) {w2:World}
  (ar:∀ a,A=some a→(storeCells (a.add (n*i.size)) L).run P w=.ok () w2) (nf:A=none→w2=w) :
  (Builtin.append_ #[t,t] ty #[.slice A n c,.slice oy m cy]).run P w=.ok (.slice A (n+m) c) w2:=by
 have hf:(Builtin.firstCells i.size m (.slice oy m cy)).run P w=.ok L.toArray w:=by
  cases oy with
  | none =>
   have:=hn rfl;subst this;have:L=[]:=List.eq_nil_of_length_eq_zero (by simpa using hl)
   rw [this];exact run_firstCells_none (P:=P) (w:=w) i.size 0 0 cy
  | some a=>exact run_firstCells_some (P:=P) w i.size m a m cy L hl (hL a rfl)
 cases A with
 | none =>
  have:=nf rfl;subst this;simp [Builtin.append_,run_underlying ht,sizeOf,typeInfo,hi,Builtin.lenOf,cP,hf]
 | some a =>
  have:=ar a rfl;simp [Builtin.append_,run_underlying ht,sizeOf,typeInfo,hi,Builtin.lenOf,cP,hf,this]
def uu (C:Array Value) (z:Value) (k:Nat) (e:TypeId):Obj:=.cells (C++Builtin.zeroCells z.cells k) e
theorem Bt {t ty e:TypeId} {i:TypeInfo} {z:Value} (ht:P.underlying t=some (.slice e)) (hi:P.info? e=some i) (hz:i.zero=some z) {A oy:Option Addr} {n c m cy:Nat} {O L:List Value}
  (g9:O.length=n*i.size) (hO:∀ a,A=some a→∀ (j:Nat) u,O[j]?=some u→w.cell? (a.add j)=some u) (hA:A=none→n=0∧c=0)
  (hl:L.length=m*i.size) (hL:∀ a,oy=some a→∀ (j:Nat) u,L[j]?=some u→w.cell? (a.add j)=some u) (hn:oy=none→m=0) (Es:n≤c) (cP:c < n+m) (hB:(n+m)*i.bytes≤140737488355328) (hN:n+m≤140737488355328) :
  (Builtin.append_ #[t,t] ty #[.slice A n c,.slice oy m cy]).run P w=.ok (.slice (some ⟨w.heap.size,0,none⟩) (n+m) (grownCap w (n+m) c e)) (w.drew.alloc (uu (O++L).toArray z (grownCap w (n+m) c e - (n+m)) e)):=by
 cases oy with
 | none=>have:=hn rfl; omega
 | some a =>
  cases A with
  | none =>
   obtain ⟨rfl,rfl⟩:=hA rfl;have hO0:O=[]:=List.eq_nil_of_length_eq_zero (by simpa using g9)
   subst hO0;have:=run_append_nil (P:=P) (w:=w) t ty e i z ht hi hz a m cy L hl (hL a rfl) (by omega) (by omega) (by simp only [Nat.zero_add] at hB; omega)
   simp only [Nat.zero_add,List.nil_append];exact this
  | some b =>
   have:=run_append_grow (P:=P) (w:=w) t ty e i z ht hi hz b n c O g9 (hO b rfl) a m cy L hl (hL a rfl) cP (by omega) (growslice_fits cP hB)
   rw [this];simp [uu]
end
inductive Src where
 | fl (m:Nat) (g:Nat→List Value)
 | ex (L:List (List Value))
def Src.m:Src→Nat
 | .fl m _=>m
 | .ex L=>L.length
def Src.get:Src→Nat→List Value
 | .fl _ g=>g
 | .ex L=>fun j=>L.getD j []
def Src.kj:Src→Bool
 | .fl _ _=>true
 | .ex _=>false
def sQ:List (List Value)→Nat→Nat→(List (List Value)→Prop)→Prop
 | _,0,0,k=>k []
 | [],0,_+1,_=>False
 | v::l,0,n+1,k=>sQ l 0 n fun vs=>k (v::vs)
 | [],_+1,_,_=>False
 | _::l,o+1,n,k=>sQ l o n k
theorem yQ:∀ {l:List (List Value)} {o n:Nat} {k:List (List Value)→Prop},sQ l o n k→∃ vs,k vs∧(vs.length=n∧o+n≤l.length)∧∀ (j:Nat) v,vs[j]?=some v→l[o+j]?=some v
 | l,0,0,k,h=>⟨[],by cases l <;> exact h,⟨rfl,by simp⟩,fun j v hv=>by simp at hv⟩
 | [],0,_+1,_,h=>h.elim
 | v::l,0,n+1,k,h=>by
  obtain ⟨vs,h1,⟨J,h4⟩,h3⟩:=yQ (l:=l) h;refine ⟨v::vs,h1,⟨by simp [J],by simp at h4 ⊢; omega⟩,fun j u hu=>?_⟩
  cases j with
  | zero=>simpa using hu
  | succ j=>have:=h3 j u (by simpa using hu); simpa using this
 | [],o+1,n,k,h=>by cases n <;> exact h.elim
 | x::l,o+1,n,k,h=>by
  have h':sQ l o n k:=by cases n <;> exact h
  obtain ⟨vs,h1,⟨J,h4⟩,h3⟩:=yQ (l:=l) h';exact ⟨vs,h1,⟨J,by simp; omega⟩,fun j v hv=>by have:=h3 j v hv; rwa [show o+1+j=(o+j)+1 by omega,List.getElem?_cons_succ]⟩
def Dl:List (List Value)→Bool
 | []=>true
 | r::l=>mG r && Dl l
theorem LC:∀ {l:List (List Value)},Dl l=true→∀ r∈l,∀ v∈r,cG v=true
 | [],_,r,hr=>by simp at hr
 | q::l,h,r,hr=>by
  simp only [Dl,Bool.and_eq_true] at h;rcases List.mem_cons.1 hr with e | e
  ·rw [e]; exact dI h.1
  ·exact LC h.2 r e
def ta:List (List Value)→List (List Value)→(List (List Value)→Prop)→Prop
 | [],l,k=>k l
 | x::xs,l,k=>ta xs l fun r=>k (x::r)
theorem yV:∀ {xs l:List (List Value)} {k:List (List Value)→Prop},ta xs l k→k (xs++l)
 | [],_,_,h=>h
 | _::xs,l,k,h=>yV (xs:=xs) h
def xU (g:Nat→List Value):Nat→Nat→(List (List Value)→Prop)→Prop
 | _,0,k=>k []
 | i,m+1,k=>xU g (i+1) m fun l=>k (g i::l)
theorem Fw {g:Nat→List Value}:∀ {m i:Nat} {k:List (List Value)→Prop},xU g i m k→∃ l,k l∧l.length=m∧∀ j,j < m→l.getD j []=g (i+j)
 | 0,i,k,h=>⟨[],h,rfl,fun j hj=>absurd hj (by omega)⟩
 | m+1,i,k,h=>by
  obtain ⟨l,h1,J,h3⟩:=Fw (m:=m) h;refine ⟨_,h1,by simp [J],fun j hj=>?_⟩
  cases j with
  | zero=>simp [List.getD]
  | succ j =>
   have:=h3 j (by omega)
   simp only [List.getD,List.getElem?_cons_succ] at this ⊢;rw [this]; congr 1; omega
def Ai (H:ay) (ae:Nat) (yv:Value) (k:Src→Prop):Prop :=
 match yv with
 | .slice none 0 0=>k (.fl 0 fun _=>[])
 | .slice (some ⟨id,row,_⟩) m _=>gK H id fun b=>match Nat.beq b.ae ae with
  | true=>match b with
   | .flat _ n _ get=>row+m≤n∧k (.fl m fun j=>get (fe row j))
   | .aP _ _ rows=>sQ rows row m fun L=>match Dl L with
    | true=>k (.fl m fun j=>L.getD j [])
    | false=>k (.ex L)
   | .b6 _=>False
  | false=>False
 | _=>False
theorem FR {H:ay} {ae:Nat} {yv:Value} {k:Src→Prop} (h:Ai H ae yv k):∃ s,k s∧(s.kj=true→∀ r,r < s.m→∀ (ν:Nu) w,bU ν H w→∀ v∈s.get r,cG v=true) ∧
  ∀ (ν:Nu) (w:World) (r:Value),bU ν H w→au ν yv r→∃ oy cy L,r=.slice oy s.m cy∧(oy=none→s.m=0)∧CR ν ae s.get s.m L∧∀ a,oy=some a→∀ (j:Nat) u,L[j]?=some u→w.cell? (a.add j)=some u:=by
 unfold Ai at h
 split at h
 ·refine ⟨_,h,fun _ r hr=>absurd hr (by simp [Src.m]),fun ν w r hH hr=>?_⟩
  have:=hr.qn;subst this;exact ⟨none,0,[],rfl,fun _=>rfl,CR.nil _ _ _,fun a ha=>by cases ha⟩
 ·rename_i id row sp m c;obtain ⟨b,hb,h⟩:=gD h
  split at h
  ·rename_i he;have he:b.ae=ae:=Nat.eq_of_beq_eq_true he
   -- a source whose rows are the block's
   have gen:∀ (s:Src),s.m=m→row+m≤b.n→(∀ j,j < m→s.get j=b.row (row+j))→∀ (ν:Nu) (w:World) (r:Value),bU ν H w→au ν (.slice (some ⟨id,row,sp⟩) m c) r →
     ∃ oy cy L,r=.slice oy s.m cy∧(oy=none→s.m=0)∧CR ν ae s.get s.m L∧∀ a,oy=some a→∀ (j:Nat) u,L[j]?=some u→w.cell? (a.add j)=some u:=by
    intro s hm hle a8 ν w r hH hr;obtain ⟨l,hl,hB⟩:=hH.aL id b hb;rcases hr.CX with ⟨l',c',cC,_,_,rfl⟩ | ⟨ky,bb,rfl⟩
    ·rw [hl] at cC; cases cC;obtain ⟨L,h1,J⟩:=CR.Hr hB hle;rw [he] at h1;refine ⟨_,c',L,by rw [hm],(fun h=>by cases h),?_,(fun a ha=>by cases ha; exact J)⟩
     rw [hm];exact h1.congr a8
    ·refine ⟨some bb,0,[],by rw [hm,ky],(fun h=>by cases h),?_,fun a ha j u hu=>by simp at hu⟩
     rw [hm,ky];exact CR.nil _ _ _
   cases b with
   | flat o n e get =>
    obtain ⟨hle,h⟩:=h;have a8:∀ j,j < m→(Src.fl m fun j=>get (fe row j)).get j=(ai.flat o n e get).row (row+j):=fun j _=>by simp [Src.get,ai.row,aw]
    refine ⟨_,h,fun _ r hr ν w hH v hv=>?_,gen _ rfl hle a8⟩
    obtain ⟨l,hl,hB⟩:=hH.aL id _ hb;have hr:r < m:=hr;rw [a8 r hr] at hv;exact hB.plain rfl (row+r) (by simp only [ai.n]; omega) v hv
   | aP o e rows =>
    obtain ⟨L,h,⟨hlen,hle⟩,kU⟩:=yQ h;have a8:∀ j,j < m→L.getD j []=(ai.aP o e rows).row (row+j):=fun j hj=>by
     have al:j < L.length:=by omega
     have:=kU j _ (List.getElem?_eq_getElem al);simp [ai.row,List.getD,this,List.getElem?_eq_getElem al]
    split at h
    ·rename_i hs;refine ⟨_,h,fun _ r hr ν w hH v hv=>?_,gen _ rfl hle a8⟩
     have hr:r < m:=hr;have al:r < L.length:=by omega
     have hv:v∈L.getD r []:=hv;simp only [List.getD,List.getElem?_eq_getElem al,Option.getD_some] at hv;exact LC hs _ (List.getElem_mem _) v hv
    ·exact ⟨_,h,fun h=>by simp [Src.kj] at h,gen _ hlen hle a8⟩
   | b6 r=>exact h.elim
  ·exact h.elim
 ·exact h.elim
end Go.Ae
