import Derived.OrdersIn
import Derived.CallsIn
import Derived.ControlIn
import Derived.Below
import Derived.Laws.IdiomCopy
import Derived.Laws.AppendOwn
import Derived.Laws.NewBlocks
import Derived.Laws.BytesString
import Derived.Laws.MakeOwn
import Derived.Laws.IdiomStrings
import Derived.RangeFuncSeq
set_option linter.unusedVariables false
set_option linter.unusedSimpArgs false
/- The frame of an abstract evaluator over the model's code: values with abstract blocks, how they stand for real ones, and the abstract evaluation of operands and slots. Plain definitions and lemmas; no program in sight. -/
namespace Go.Ae
open Go Go.RowKit
/-- Where an abstract block lies: real block, first cell, cells of a row, rows that there is room for. -/
structure Loc where
 aH:Nat
 base:Nat
 ae:Nat
 cap:Nat
def Loc.at (l:Loc) (row bW:Nat):Addr:=⟨l.aH,l.base+row*l.ae+bW,none⟩
abbrev Nu:=Nat→Option Loc
def Nu.le (ν aj:Nu):Prop:=∀ id l,ν id=some l→aj id=some l
theorem Nu.le_refl (ν:Nu):ν.le ν:=fun _ _ h=>h
theorem Nu.le_trans {a b c:Nu} (h:a.le b) (k:b.le c):a.le c:=fun id l e=>k id l (h id l e)
def Nu.add (ν:Nu) (id:Nat) (l:Loc):Nu:=fun j=>if j=id then some l else ν j
theorem Nu.jN {ν:Nu} {id:Nat} {l:Loc} (h:ν id=none):ν.le (ν.add id l):=by
 intro j k hj
 by_cases e:j=id
 ·subst e; rw [h] at hj; cases hj
 ·simp [Nu.add,e,hj]
theorem Nu.add_same {ν:Nu} {id:Nat} {l:Loc}:ν.add id l id=some l:=by simp [Nu.add]
theorem Nu.iD {ν:Nu} {id j:Nat} {l:Loc} (h:j≠id):ν.add id l j=ν j:=by simp [Nu.add,h]
/-- A value without addresses, of one cell. -/
def cC:Value→Bool
 | .bool _ | .int _ _ | .string _=>true
 | _=>false
/-- The capacity of which nothing is known. -/
def aJ:Nat:=9223372036854775808
/-- The abstract value (left) stands for the real one. An abstract address: block, row, column in 'spot'. -/
inductive ao (ν:Nu):Value→Value→Prop
 | bool (b:Bool):ao ν (.bool b) (.bool b)
 | int (k:IntKind) (n:Int):ao ν (.int k n) (.int k n)
 | str (s:ByteArray):ao ν (.string s) (.string s)
 | lS:ao ν (.pointer none) (.pointer none)
 | ptr (id row:Nat) (sp:Option Nat) (l:Loc) (h:ν id=some l):ao ν (.pointer (some ⟨id,row,sp⟩)) (.pointer (some (l.at row (sp.getD 0))))
 | iY:ao ν (.slice none 0 0) (.slice none 0 0)
 | slice (id row n c c':Nat) (l:Loc) (h:ν id=some l) (hc:c'=c∨c=aJ) (hn:n≤c') (hr:row+c'≤l.cap) :
   ao ν (.slice (some ⟨id,row,none⟩) n c) (.slice (some (l.at row 0)) n c')
 | void (id row c:Nat) (a:Addr) (hc:0=c∨c=aJ):ao ν (.slice (some ⟨id,row,none⟩) 0 c) (.slice (some a) 0 0)
 | lg (id row m n c':Nat) (l:Loc) (h:ν id=some l) (hm:m≤c') (hn:n≤c') (hr:row+c'≤l.cap) :
   ao ν (.slice (some ⟨id,row,some m⟩) n aJ) (.slice (some (l.at row 0)) n c')
 | ku (id row:Nat) (a:Addr):ao ν (.slice (some ⟨id,row,some 0⟩) 0 aJ) (.slice (some a) 0 0)
 | lT:ao ν .nilFunc .nilFunc
 | func (fn:Fn) (xs ys mW c5:List Value) (h1:xs.length=ys.length) (J:∀ (i:Nat) (x y:Value),xs[i]?=some x→ys[i]?=some y→ao ν x y)
   (h3:mW.length=c5.length) (h4:∀ (i:Nat) (x y:Value),mW[i]?=some x→c5[i]?=some y→ao ν x y) :
   ao ν (.func fn ⟨xs⟩ ⟨mW⟩) (.func fn ⟨ys⟩ ⟨c5⟩)
 | agg (xs ys:List Value) (h1:xs.length=ys.length) (J:∀ (i:Nat) (x y:Value),xs[i]?=some x→ys[i]?=some y→ao ν x y):ao ν (.agg ⟨xs⟩) (.agg ⟨ys⟩)
 | tuple (xs ys:List Value) (h1:xs.length=ys.length) (J:∀ (i:Nat) (x y:Value),xs[i]?=some x→ys[i]?=some y→ao ν x y):ao ν (.tuple ⟨xs⟩) (.tuple ⟨ys⟩)
 | dead (w:Value) (h:w.oneCell'=true):ao ν (.chan none) w
/-- Element by element. -/
def bc (ν:Nu) (xs ys:List Value):Prop:=xs.length=ys.length∧∀ (i:Nat) (x y:Value),xs[i]?=some x→ys[i]?=some y→ao ν x y
theorem ao.mono {ν aj:Nu} (hle:ν.le aj) {v w:Value} (h:ao ν v w):ao aj v w:=by
 induction h with
 | bool b=>exact .bool b
 | int k n=>exact .int k n
 | str s=>exact .str s
 | lS=>exact .lS
 | ptr id row sp l h=>exact .ptr id row sp l (hle _ _ h)
 | iY=>exact .iY
 | slice id row n c c' l h hc hn hr=>exact .slice id row n c c' l (hle _ _ h) hc hn hr
 | void id row c a hc=>exact .void id row c a hc
 | lg id row m n c' l h hm hn hr=>exact .lg id row m n c' l (hle _ _ h) hm hn hr
 | ku id row a=>exact .ku id row a
 | lT=>exact .lT
 | func fn xs ys mW c5 h1 _ h3 _ i2 i4=>exact .func fn xs ys mW c5 h1 i2 h3 i4
 | agg xs ys h1 _ i2=>exact .agg xs ys h1 i2
 | tuple xs ys h1 _ i2=>exact .tuple xs ys h1 i2
 | dead w h=>exact .dead w h
theorem bc.mono {ν aj:Nu} (hle:ν.le aj) {xs ys:List Value} (h:bc ν xs ys):bc aj xs ys :=
 ⟨h.1,fun i x y hx hy=>(h.2 i x y hx hy).mono hle⟩
theorem bc.nil (ν:Nu):bc ν [] []:=⟨rfl,fun i x y hx _=>by simp at hx⟩
theorem bc.cons {ν:Nu} {x y:Value} {xs ys:List Value} (h:ao ν x y) (hs:bc ν xs ys):bc ν (x::xs) (y::ys):=by
 refine ⟨by simp [hs.1],fun i a b ha hb=>?_⟩
 cases i with
 | zero=>simp at ha hb; subst ha; subst hb; exact h
 | succ i=>exact hs.2 i a b (by simpa using ha) (by simpa using hb)
theorem bc.head {ν:Nu} {x y:Value} {xs ys:List Value} (h:bc ν (x::xs) (y::ys)):ao ν x y:=h.2 0 x y rfl rfl
theorem bc.tail {ν:Nu} {x y:Value} {xs ys:List Value} (h:bc ν (x::xs) (y::ys)):bc ν xs ys :=
 ⟨by have:=h.1; simpa using this,fun i a b ha hb=>h.2 (i+1) a b (by simpa using ha) (by simpa using hb)⟩
theorem bc.iQ {ν:Nu} {x:Value} {xs zs:List Value} (h:bc ν (x::xs) zs):∃ y ys,zs=y::ys∧ao ν x y∧bc ν xs ys:=by
 cases zs with
 | nil=>simp [bc] at h
 | cons y ys=>exact ⟨y,ys,rfl,h.head,h.tail⟩
theorem bc.iC {ν:Nu} {zs:List Value} (h:bc ν [] zs):zs=[]:=by
 cases zs with
 | nil=>rfl
 | cons y ys=>simp [bc] at h
theorem bc.append {ν:Nu} {a b c d:List Value} (h:bc ν a b) (k:bc ν c d):bc ν (a++c) (b++d):=by
 induction a generalizing b with
 | nil=>rw [bc.iC h]; exact k
 | cons x xs ih=>obtain ⟨y,ys,rfl,h1,J⟩:=h.iQ; exact .cons h1 (ih J)
theorem bc.get {ν:Nu} {xs ys:List Value} (h:bc ν xs ys) {i:Nat} {x:Value} (hx:xs[i]?=some x):∃ y,ys[i]?=some y∧ao ν x y:=by
 have hi:i < xs.length:=(List.getElem?_eq_some_iff.1 hx).1
 refine ⟨ys[i]'(h.1 ▸ hi),List.getElem?_eq_getElem _,h.2 i _ _ hx (List.getElem?_eq_getElem _)⟩
theorem bc.set {ν:Nu} {xs ys:List Value} (h:bc ν xs ys) {v w:Value} (hv:ao ν v w) (i:Nat):bc ν (xs.set i v) (ys.set i w):=by
 refine ⟨by simp [h.1],fun j x y hx hy=>?_⟩
 rw [List.getElem?_set] at hx hy
 by_cases e:i=j
 ·subst e
  rw [if_pos rfl] at hx hy
  split at hx
  ·split at hy
   ·cases hx; cases hy; exact hv
   ·cases hy
  ·cases hx
 ·rw [if_neg e] at hx hy
  exact h.2 j x y hx hy
theorem ao.ki {ν:Nu} {v w:Value} (h:cC v=true) (hr:ao ν v w):w=v:=by
 cases hr <;> simp_all [cC]
theorem ao.kh {ν:Nu} {v:Value} (h:cC v=true):ao ν v v:=by
 cases v <;> simp [cC] at h <;> constructor
theorem ao.tE {ν:Nu} {xs:List Value} {r:Value} (h:ao ν (.agg ⟨xs⟩) r):∃ ys,r=.agg ⟨ys⟩∧bc ν xs ys:=by
 cases h with | agg _ ys h1 J=>exact ⟨ys,rfl,h1,J⟩
theorem ao.nj {ν:Nu} {xs:List Value} {r:Value} (h:ao ν (.tuple ⟨xs⟩) r):∃ ys,r=.tuple ⟨ys⟩∧bc ν xs ys:=by
 cases h with | tuple _ ys h1 J=>exact ⟨ys,rfl,h1,J⟩
theorem ao.undef (ν:Nu):ao ν undef undef:=.tuple [] [] rfl (fun i x y hx _=>by simp at hx)
/-- A cell: no aggregate, no tuple. -/
theorem ao.Ba {ν:Nu} {v w:Value} (h:ao ν v w):w.oneCell'=v.oneCell':=by cases h <;> first | rfl | assumption
theorem ao.cells {ν:Nu} {v w:Value} (h:ao ν v w):bc ν v.cells.toList w.cells.toList:=by
 cases h with
 | agg xs ys h1 J=>exact ⟨h1,J⟩
 | bool b=>exact .cons (.bool b) (.nil ν)
 | int k n=>exact .cons (.int k n) (.nil ν)
 | str s=>exact .cons (.str s) (.nil ν)
 | lS=>exact .cons .lS (.nil ν)
 | ptr id row sp l h=>exact .cons (.ptr id row sp l h) (.nil ν)
 | iY=>exact .cons .iY (.nil ν)
 | slice id row n c c' l h hc hn hr=>exact .cons (.slice id row n c c' l h hc hn hr) (.nil ν)
 | void id row c a hc=>exact .cons (.void id row c a hc) (.nil ν)
 | lg id row m n c' l h hm hn hr=>exact .cons (.lg id row m n c' l h hm hn hr) (.nil ν)
 | ku id row a=>exact .cons (.ku id row a) (.nil ν)
 | lT=>exact .cons .lT (.nil ν)
 | func fn xs ys mW c5 h1 J h3 h4=>exact .cons (.func fn xs ys mW c5 h1 J h3 h4) (.nil ν)
 | tuple xs ys h1 J=>exact .cons (.tuple xs ys h1 J) (.nil ν)
 | dead w h=>
  have e:w.cells=#[w]:=by cases w <;> first | rfl | simp [Value.oneCell'] at h
  rw [e]; exact .cons (.dead w h) (.nil ν)
/-- An abstract block: rows of cells. 'expl': the rows are written out (they may hold addresses); 'flat': a function that gives them, plain cells alone. 'own': may be written. -/
inductive ah where
 | aL (own:Bool) (ae:Nat) (rows:List (List Value))
 | flat (own:Bool) (n ae:Nat) (get:Nat→List Value)
 | bZ (r:Loop)
def ah.own:ah→Bool
 | .aL o _ _ | .flat o _ _ _=>o
 | .bZ _=>true
def ah.ae:ah→Nat
 | .aL _ e _ | .flat _ _ e _=>e
 | .bZ _=>0
def ah.n:ah→Nat
 | .aL _ _ rows=>rows.length
 | .flat _ n _ _=>n
 | .bZ _=>0
def ah.row:ah→Nat→List Value
 | .aL _ _ rows=>fun r=>rows.getD r []
 | .flat _ _ _ get=>get
 | .bZ _=>fun _=>[]
def ah.js:ah→Bool
 | .aL ..=>false
 | .flat ..=>true
 | .bZ _=>false
/-- Own, and made of cells. -/
def ah.nz:ah→Bool
 | .aL o _ _ | .flat o _ _ _=>o
 | .bZ _=>false
/-- The record of a range over a function. -/
def ah.rc:ah→Option Loop
 | .bZ r=>some r
 | _=>none
abbrev ax:=List (Option ah)
theorem ah.cQ {b:ah} (h:b.nz=true):b.own=true∧b.rc=none:=by
 cases b with
 | aL o e r=>exact ⟨h,rfl⟩
 | flat o n e g=>exact ⟨h,rfl⟩
 | bZ r=>cases h
structure bN (ν:Nu) (l:Loc) (b:ah) (w:World):Prop where
 ae:l.ae=b.ae
 len:∀ r,r < b.n→(b.row r).length=b.ae
 cell:∀ r,r < b.n→∀ j v,(b.row r)[j]?=some v→∃ v',w.cell? (l.at r j)=some v'∧ao ν v v'
 plain:b.js=true→∀ r,r < b.n→∀ v∈b.row r,cC v=true
 one:∀ r,r < b.n→∀ v∈b.row r,v.oneCell'=true
 own:b.own=true→b.rc=none→∃ cur t,w.heap[l.aH]?=some (.cells cur t (0,0))∧l.base+l.cap*l.ae≤cur.size∧b.n≤l.cap
 lr:∀ r,b.rc=some r→w.heap[l.aH]?=some (.loop r)
 live:l.aH < w.heap.size
structure bR (ν:Nu) (H:ax) (w:World):Prop where
 aH:∀ id b,H[id]?=some (some b)→∃ l,ν id=some l∧bN ν l b w
 sep:∀ i j bi bj li lj,H[i]?=some (some bi)→H[j]?=some (some bj)→i≠j→bi.own=true→ν i=some li→ν j=some lj→li.aH≠lj.aH
/-- The world has grown, what was there has not turned. -/
theorem RD {w w':World} (h:Below w.heap.size w w') {a:Addr} {v:Value} (hc:w.cell? a=some v):w'.cell? a=some v :=
 (World.cell?_of_block (h.block _ (World.block_lt_of_cell? w a hc))).trans hc
theorem bN.below {ν:Nu} {l:Loc} {b:ah} {w w':World} (h:bN ν l b w) (hb:Below w.heap.size w w'):bN ν l b w' :=
 ⟨h.ae,h.len,fun r hr j v hv=>let ⟨v',hc,jb⟩:=h.cell r hr j v hv; ⟨v',RD hb hc,jb⟩,h.plain,h.one,
   fun ho hc=>let ⟨cur,t,h1,J⟩:=h.own ho hc; ⟨cur,t,by rw [hb.block _ h.live]; exact h1,J⟩,fun r hr=>(hb.block _ h.live).trans (h.lr r hr),Nat.lt_of_lt_of_le h.live hb.size⟩
/-- The block itself has not turned. -/
theorem bN.same {ν:Nu} {l:Loc} {b:ah} {w w':World} (h:bN ν l b w) (he:w'.heap[l.aH]?=w.heap[l.aH]?) (hs:w.heap.size≤w'.heap.size):bN ν l b w' :=
 ⟨h.ae,h.len,fun r hr j v hv=>let ⟨v',hc,jb⟩:=h.cell r hr j v hv; ⟨v',by rw [World.cell?_of_block (a:=l.at r j) he]; exact hc,jb⟩,h.plain,h.one,
   fun ho hc=>let ⟨cur,t,h1,J⟩:=h.own ho hc; ⟨cur,t,by rw [he]; exact h1,J⟩,fun r hr=>he.trans (h.lr r hr),Nat.lt_of_lt_of_le h.live hs⟩
theorem bN.mono {ν aj:Nu} (hle:ν.le aj) {l:Loc} {b:ah} {w:World} (h:bN ν l b w):bN aj l b w :=
 ⟨h.ae,h.len,fun r hr j v hv=>let ⟨v',hc,jb⟩:=h.cell r hr j v hv; ⟨v',hc,jb.mono hle⟩,h.plain,h.one,h.own,h.lr,h.live⟩
theorem bR.below {ν:Nu} {H:ax} {w w':World} (h:bR ν H w) (hb:Below w.heap.size w w'):bR ν H w' :=
 ⟨fun id b hi=>let ⟨l,h1,J⟩:=h.aH id b hi; ⟨l,h1,J.below hb⟩,h.sep⟩
theorem bR.mono {ν aj:Nu} (hle:ν.le aj) {H:ax} {w:World} (h:bR ν H w):bR aj H w :=
 ⟨fun id b hi=>let ⟨l,h1,J⟩:=h.aH id b hi; ⟨l,hle _ _ h1,J.mono hle⟩,
   fun i j bi bj li lj hi hj aI ho h1 J=>by
  obtain ⟨l1,e1,_⟩:=h.aH i bi hi
  obtain ⟨l2,e2,_⟩:=h.aH j bj hj
  have:=hle _ _ e1; rw [h1] at this; cases this
  have:=hle _ _ e2; rw [J] at this; cases this
  exact h.sep i j bi bj _ _ hi hj aI ho e1 e2⟩
/-- Fewer blocks. -/
def ax.le (H G:ax):Prop:=∀ (id:Nat) (b:ah),H[id]?=some (some b)→G[id]?=some (some b)
theorem bR.rD {ν:Nu} {H G:ax} {w:World} (h:bR ν G w) (hle:ax.le H G):bR ν H w :=
 ⟨fun id b hi=>h.aH id b (hle id b hi),fun i j bi bj li lj hi hj=>h.sep i j bi bj li lj (hle i bi hi) (hle j bj hj)⟩
/-- A new block beside the others. -/
theorem bR.push {ν:Nu} {H:ax} {w w':World} (h:bR ν H w) (hb:Below w.heap.size w w') {id:Nat} (hn:ν id=none) {l:Loc} {b:ah} (G:ax)
  (hG:∀ j c,G[j]?=some (some c)→(j=id∧c=b)∨(j≠id∧H[j]?=some (some c))) (hl:w.heap.size≤l.aH)
  (hB:bN (ν.add id l) l b w'):bR (ν.add id l) G w':=by
 have hle:ν.le (ν.add id l):=Nu.jN hn
 have h':=(h.mono hle).below hb
 refine ⟨fun j c hj=>?_,fun i j bi bj li lj hi hj aI ho h1 J=>?_⟩
 ·rcases hG j c hj with ⟨rfl,rfl⟩ | ⟨_,fL⟩
  ·exact ⟨l,Nu.add_same,hB⟩
  ·exact h'.aH j c fL
 ·rcases hG i bi hi with ⟨rfl,rfl⟩ | ⟨_,aM⟩ <;> rcases hG j bj hj with ⟨rfl,rfl⟩ | ⟨_,fL⟩
  ·exact absurd rfl aI
  ·obtain ⟨l2,e2,dx⟩:=h.aH j bj fL
   have:=hle _ _ e2; rw [J] at this; cases this
   rw [Nu.add_same] at h1; cases h1
   have:=dx.live
   omega
  ·obtain ⟨l2,e2,dx⟩:=h.aH i bi aM
   have:=hle _ _ e2; rw [h1] at this; cases this
   rw [Nu.add_same] at J; cases J
   have:=dx.live
   omega
  ·exact h'.sep i j bi bj li lj aM fL aI ho h1 J
/-! ### Slots -/
def pO:List Value→Nat→(Value→Prop)→Prop
 | [],_,_=>False
 | v::_,0,k=>k v
 | _::l,n+1,k=>pO l n k
def wU:List Value→Nat→Value→(List Value→Prop)→Prop
 | [],_,_,_=>False
 | _::l,0,v,k=>k (v::l)
 | x::l,n+1,v,k=>wU l n v fun l'=>k (x::l')
theorem n6:∀ {l:List Value} {n:Nat} {k:Value→Prop},pO l n k→∃ v,l[n]?=some v∧k v
 | [],_,_,h=>h.elim
 | v::_,0,_,h=>⟨v,rfl,h⟩
 | _::l,n+1,k,h=>by obtain ⟨v,h1,J⟩:=n6 (l:=l) h; exact ⟨v,by simpa using h1,J⟩
theorem n7:∀ {l:List Value} {n:Nat} {v:Value} {k:List Value→Prop},wU l n v k→n < l.length∧k (l.set n v)
 | [],_,_,_,h=>h.elim
 | _::l,0,v,k,h=>⟨by simp,h⟩
 | x::l,n+1,v,k,h=>by
  obtain ⟨h1,J⟩:=n7 (l:=l) h
  exact ⟨by simpa using h1,by simpa using J⟩
/-- A constant that stands for itself. -/
def F5 (v:Value) (k:Value→Prop):Prop :=
 match v with
 | .bool b=>k (.bool b)
 | .int q n=>k (.int q n)
 | .string s=>k (.string s)
 | .pointer none=>k (.pointer none)
 | .slice none 0 0=>k (.slice none 0 0)
 | .nilFunc=>k .nilFunc
 | _=>False
theorem JR {v:Value} {k:Value→Prop} (h:F5 v k):k v∧∀ ν,ao ν v v:=by
 unfold F5 at h
 split at h
 ·exact ⟨h,fun ν=>.bool _⟩
 ·exact ⟨h,fun ν=>.int _ _⟩
 ·exact ⟨h,fun ν=>.str _⟩
 ·exact ⟨h,fun ν=>.lS⟩
 ·exact ⟨h,fun ν=>.iY⟩
 ·exact ⟨h,fun ν=>.lT⟩
 ·exact h.elim
def bQ (tmps:List Value) (x:Operand) (k:Value→Prop):Prop :=
 match x with
 | .tmp t=>pO tmps t k
 | .const v=>F5 v k
 | .func f=>k (.func (.func f) #[] #[])
 | .global _=>False
/-- The slots that an operand reads stand for the real ones. -/
def eW (ν:Nu) (tmps:List Value) (a:Act) (x:Operand):Prop :=
 ∀ t,x=.tmp t→∀ v,tmps[t]?=some v→∃ v',a.tmps[t]?=some v'∧ao ν v v'
theorem kg {tmps:List Value} {x:Operand} {k:Value→Prop} (h:bQ tmps x k) {ν:Nu} {a:Act} (ha:eW ν tmps a x) :
  ∃ v,k v∧ao ν v (a.eval x):=by
 cases x with
 | tmp t =>
  obtain ⟨v,h1,J⟩:=n6 h
  obtain ⟨v',h3,h4⟩:=ha t rfl v h1
  exact ⟨v,J,by simpa [Act.eval,h3] using h4⟩
 | const v=>obtain ⟨h1,J⟩:=JR h; exact ⟨v,h1,J ν⟩
 | func f=>exact ⟨_,h,.func _ [] [] [] [] rfl (fun i x y hx _=>by simp at hx) rfl (fun i x y hx _=>by simp at hx)⟩
 | global g=>exact h.elim
theorem cK {tmps:List Value} {x:Operand} {k:Value→Prop} (h:bQ tmps x k) :
  ∃ v,k v∧∀ (ν:Nu) (a:Act),eW ν tmps a x→ao ν v (a.eval x):=by
 cases x with
 | tmp t =>
  obtain ⟨v,h1,J⟩:=n6 h
  refine ⟨v,J,fun ν a ha=>?_⟩
  obtain ⟨v',h3,h4⟩:=ha t rfl v h1
  simpa [Act.eval,h3] using h4
 | const v=>obtain ⟨h1,J⟩:=JR h; exact ⟨v,h1,fun ν a _=>J ν⟩
 | func f=>exact ⟨_,h,fun ν a _=>.func _ [] [] [] [] rfl (fun i x y hx _=>by simp at hx) rfl (fun i x y hx _=>by simp at hx)⟩
 | global g=>exact h.elim
def pr (tmps:List Value):List Operand→(List Value→Prop)→Prop
 | [],k=>k []
 | x::xs,k=>bQ tmps x fun v=>pr tmps xs fun vs=>k (v::vs)
theorem DE {tmps:List Value} {ν:Nu} {a:Act}:∀ {xs:List Operand} {k:List Value→Prop},pr tmps xs k→(∀ x∈xs,eW ν tmps a x) →
  ∃ vs,k vs∧bc ν vs (xs.map a.eval)
 | [],k,h,_=>⟨[],h,.nil ν⟩
 | x::xs,k,h,ha=>by
  obtain ⟨v,h1,J⟩:=kg h (ha x (by simp))
  obtain ⟨vs,h3,h4⟩:=DE h1 (fun y hy=>ha y (by simp [hy]))
  exact ⟨v::vs,h3,.cons J h4⟩
theorem Aw {tmps:List Value}:∀ {xs:List Operand} {k:List Value→Prop},pr tmps xs k →
  ∃ vs,k vs∧∀ (ν:Nu) (a:Act),(∀ x∈xs,eW ν tmps a x)→bc ν vs (xs.map a.eval)
 | [],k,h=>⟨[],h,fun ν a _=>.nil ν⟩
 | x::xs,k,h=>by
  obtain ⟨v,h1,J⟩:=cK h
  obtain ⟨vs,h3,h4⟩:=Aw h1
  exact ⟨v::vs,h3,fun ν a ha=>.cons (J ν a (ha x (by simp))) (h4 ν a (fun y hy=>ha y (by simp [hy])))⟩
/-! ### Pieces of a list -/
def tN:List Value→Nat→Nat→(List Value→Prop)→Prop
 | _,0,0,k=>k []
 | [],0,_+1,_=>False
 | v::l,0,n+1,k=>tN l 0 n fun vs=>k (v::vs)
 | [],_+1,_,_=>False
 | _::l,o+1,n,k=>tN l o n k
theorem xF:∀ {l:List Value} {o n:Nat} {k:List Value→Prop},tN l o n k→∃ vs,k vs∧vs.length=n∧∀ j v,vs[j]?=some v→l[o+j]?=some v
 | l,0,0,k,h=>⟨[],by cases l <;> exact h,rfl,fun j v hv=>by simp at hv⟩
 | [],0,_+1,_,h=>h.elim
 | v::l,0,n+1,k,h=>by
  obtain ⟨vs,h1,J,h3⟩:=xF (l:=l) h
  refine ⟨v::vs,h1,by simp [J],fun j u hu=>?_⟩
  cases j with
  | zero=>simpa using hu
  | succ j=>have:=h3 j u (by simpa using hu); simpa using this
 | [],o+1,n,k,h=>by cases n <;> exact h.elim
 | x::l,o+1,n,k,h=>by
  have h':tN l o n k:=by cases n <;> exact h
  obtain ⟨vs,h1,J,h3⟩:=xF (l:=l) h'
  exact ⟨vs,h1,J,fun j v hv=>by have:=h3 j v hv; rwa [show o+1+j=(o+j)+1 by omega,List.getElem?_cons_succ]⟩
/-- Cells written over, from place o on. -/
def uh:List Value→Nat→List Value→(List Value→Prop)→Prop
 | l,0,[],k=>k l
 | [],0,_::_,_=>False
 | _::l,0,v::vs,k=>uh l 0 vs fun l'=>k (v::l')
 | [],_+1,_,_=>False
 | x::l,o+1,vs,k=>uh l o vs fun l'=>k (x::l')
theorem xM:∀ {l:List Value} {o:Nat} {vs:List Value} {k:List Value→Prop},uh l o vs k →
  ∃ l',k l'∧l'.length=l.length∧o+vs.length≤l.length∧(∀ j v,vs[j]?=some v→l'[o+j]?=some v)∧∀ j,(j < o∨o+vs.length≤j)→l'[j]?=l[j]?
 | l,0,[],k,h=>⟨l,by cases l <;> exact h,rfl,by simp,fun j v hv=>by simp at hv,fun _ _=>rfl⟩
 | [],0,_::_,_,h=>h.elim
 | x::l,0,v::vs,k,h=>by
  obtain ⟨l',h1,J,h3,h4,h5⟩:=xM (l:=l) h
  refine ⟨v::l',h1,by simp [J],by simp at h3 ⊢; omega,fun j u hu=>?_,fun j hj=>?_⟩
  ·cases j with
   | zero=>simpa using hu
   | succ j=>have:=h4 j u (by simpa using hu); simpa using this
  ·cases j with
   | zero=>simp at hj
   | succ j=>have:=h5 j (by simp at hj ⊢; omega); simpa using this
 | [],o+1,vs,k,h=>by cases vs <;> exact h.elim
 | x::l,o+1,vs,k,h=>by
  have h':uh l o vs fun l'=>k (x::l'):=by cases vs <;> exact h
  obtain ⟨l',h1,J,h3,h4,h5⟩:=xM (l:=l) h'
  refine ⟨x::l',h1,by simp [J],by simp; omega,fun j u hu=>?_,fun j hj=>?_⟩
  ·have:=h4 j u hu; rwa [show o+1+j=(o+j)+1 by omega,List.getElem?_cons_succ]
  ·cases j with
   | zero=>simp
   | succ j=>have:=h5 j (by omega); simpa using this
/-- The abstract heap: a block. -/
def gu:ax→Nat→(ah→Prop)→Prop
 | [],_,_=>False
 | b::_,0,k=>match b with | some b=>k b | none=>False
 | _::H,n+1,k=>gu H n k
theorem gl:∀ {H:ax} {id:Nat} {k:ah→Prop},gu H id k→∃ b,H[id]?=some (some b)∧k b
 | [],_,_,h=>h.elim
 | some b::_,0,_,h=>⟨b,rfl,h⟩
 | none::_,0,_,h=>h.elim
 | _::H,n+1,k,h=>by obtain ⟨b,h1,J⟩:=gl (H:=H) h; exact ⟨b,by simpa using h1,J⟩
/-- .. put in another's place. -/
def iZ:ax→Nat→Option ah→(ax→Prop)→Prop
 | [],_,_,_=>False
 | _::H,0,b,k=>k (b::H)
 | c::H,n+1,b,k=>iZ H n b fun H'=>k (c::H')
theorem lJ:∀ {H:ax} {id:Nat} {b:Option ah} {k:ax→Prop},iZ H id b k→id < H.length∧k (H.set id b)
 | [],_,_,_,h=>h.elim
 | _::H,0,_,_,h=>⟨by simp,h⟩
 | c::H,n+1,b,k,h=>by obtain ⟨h1,J⟩:=lJ (H:=H) h; exact ⟨by simpa using h1,by simpa using J⟩
/-- .. laid behind the others. -/
def oq:ax→Option ah→(ax→Prop)→Prop
 | [],b,k=>k [b]
 | c::H,b,k=>oq H b fun H'=>k (c::H')
theorem xG:∀ {H:ax} {b:Option ah} {k:ax→Prop},oq H b k→k (H++[b])
 | [],_,_,h=>h
 | _::H,b,k,h=>xG (H:=H) h
/-- How many there are. -/
def ja:ax→(Nat→Prop)→Prop
 | [],k=>k 0
 | _::H,k=>ja H fun n=>k (n+1)
theorem lK:∀ {H:ax} {k:Nat→Prop},ja H k→k H.length
 | [],_,h=>h
 | _::H,k,h=>lK (H:=H) h
/-- A branch. -/
def br (b:Bool) (x y:Prop):Prop:=match b with | true=>x | false=>y
theorem aF {b:Bool} {x y:Prop} (h1:b=true→x) (J:b=false→y):br b x y:=by cases b <;> simp_all [br]
theorem Bb {b:Bool} {x y:Prop} (h:br b x y) (hb:b=true):x:=by subst hb; exact h
theorem AS {b:Bool} {x y:Prop} (h:br b x y) (hb:b=false):y:=by subst hb; exact h
theorem mC {b:Bool} {x y:Prop} (h:b=true) (hx:x):br b x y:=by subst h; exact hx
/-- What is asked, decided at once where it can be. -/
def wV (p:Prop) [Decidable p] (k:Prop):Prop:=br (decide p) k False
theorem AD {p:Prop} [Decidable p] {k:Prop} (h:wV p k):p∧k:=by
 unfold wV br at h
 split at h
 ·rename_i hp; exact ⟨of_decide_eq_true hp,h⟩
 ·exact h.elim
end Go.Ae
/- The types that the abstract evaluation needs to know, and that a table of them is true of a program. -/
namespace Go.Ae
open Go Go.RowKit
inductive TK where
 | int (k:IntKind) | bool | str
 | struct (fs:List (Nat × Nat × Bool))      -- offset,size,is it a struct or an array
 | slice (e:TypeId)
 | array (n:Nat) (e:TypeId)
 | other
structure TI where
 size:Nat
 bytes:Nat
 kind:TK
 zero:List Value
def TI.agg (ti:TI):Bool:=match ti.kind with | .struct _ | .array _ _=>true | _=>false
abbrev TT:=TypeId→Option TI
def tF:TypeDesc→Bool
 | .struct _ | .array _ _=>true
 | _=>false
def xY (P:Program) (f:Field) (x:Nat × Nat × Bool):Prop :=
 f.offset=x.1∧0 < x.2.1∧(∃ i,P.info? f.type=some i∧i.size=x.2.1)∧∃ d,P.underlying f.type=some d∧tF d=x.2.2
def CI (P:Program) (k:TK) (d:TypeDesc):Prop :=
 match k with
 | .int q=>d=.int q
 | .bool=>d=.bool
 | .str=>d=.string
 | .struct fs=>∃ fields,d=.struct fields∧fields.size=fs.length∧∀ (i:Nat) f x,fields[i]?=some f→fs[i]?=some x→xY P f x
 | .slice e=>d=.slice e
 | .array n e=>d=.array n e
 | .other=>tF d=false
structure ay (P:Program) (t:TypeId) (ti:TI):Prop where
 info:∃ i,P.info? t=some i∧i.size=ti.size∧i.bytes=ti.bytes∧∃ z,i.zero=some z∧z.cells=⟨ti.zero⟩
 under:∃ d,P.underlying t=some d∧CI P ti.kind d
 self:∀ ν,bc ν ti.zero ti.zero
 len:ti.zero.length=ti.size
 one:∀ v∈ti.zero,v.oneCell'=true
 bit:0 < ti.size∧0 < ti.bytes
theorem ay.aco {P:Program} {t:TypeId} {ti:TI} (h:ay P t ti):∃ d,P.underlying t=some d∧tF d=ti.agg:=by
 obtain ⟨d,h1,J⟩:=h.under
 refine ⟨d,h1,?_⟩
 unfold CI at J
 unfold TI.agg
 split at J <;> rename_i hk <;> rw [hk] <;> first | (subst J; rfl) | (obtain ⟨_,rfl,_⟩:=J; rfl) | (simpa using J)
theorem K0 {P:Program} {t:TypeId} {d:TypeDesc} (h:P.underlying t=some d) (w:World):(isAgg t).run P w=.ok (tF d) w:=by
 unfold isAgg underlying
 simp [h]
 cases d <;> rfl
theorem fR {P:Program} {t:TypeId} {i:TypeInfo} (h:P.info? t=some i) (w:World):(sizeOf t).run P w=.ok i.size w:=by simp [sizeOf,typeInfo,h]
theorem vl {P:Program} {t:TypeId} {i:TypeInfo} {z:Value} (h:P.info? t=some i) (hz:i.zero=some z) (w:World):(zeroValue t).run P w=.ok z w:=by
 simp [zeroValue,typeInfo,h,hz]
theorem dq {P:Program} {t:TypeId} {d:TypeDesc} (h:P.underlying t=some d) (w:World):(underlying t).run P w=.ok d w:=by simp [underlying,h]
/-- A variable is read: its cells. -/
theorem Jw {P:Program} {t:TypeId} {ti:TI} (h:ay P t ti) {w:World} {a:Addr} {cs:List Value} (hl:cs.length=ti.size)
  (hc:∀ j v,cs[j]?=some v→w.cell? (a.add j)=some v) :
  (loadVar t a).run P w=.ok (if ti.agg then .agg ⟨cs⟩ else cs.getD 0 undef) w:=by
 obtain ⟨d,h1,J⟩:=h.aco
 obtain ⟨i,hi,hs,_⟩:=h.info
 unfold loadVar
 simp only [Sem.run_bind,K0 h1,Result.andThen_ok,Sem.run_ite]
 rw [J]
 split
 ·simp only [Sem.run_bind,fR hi,Result.andThen_ok]
  rw [hs,← hl,run_loadCells_list w a cs hc]
  rfl
 ·have hp:=h.bit.1
  cases cs with
  | nil=>simp at hl; omega
  | cons v r =>
   have:=hc 0 v rfl
   simp only [Addr.add,if_true] at this
   simp [run_load,this]
theorem Uc (b o j:Nat):(⟨b,o,none⟩:Addr).add j=⟨b,o+j,none⟩:=by unfold Addr.add; split <;> simp_all
theorem Loc.jt (l:Loc) (row bW j:Nat):(l.at row bW).add j=l.at row (bW+j):=by
 unfold Loc.at; rw [Uc]; congr 1; omega
end Go.Ae
/- The abstract evaluation of one operation that writes nothing, and that it stands for the model's own. -/
namespace Go.Ae
open Go Go.RowKit
/-- A function without blocks among its arguments and results: how it may be called, and what it gives. -/
structure bz where
 ι:Type
 args:ι→List Value
 pre:ι→Prop
 val:ι→Value
/-- A function that reads the blocks of its arguments and gives at most one new one: the arguments' blocks have the numbers 0, 1, .., the new one the next. -/
structure bk where
 ι:Type
 args:ι→List Value
 ai:ι→List ah
 pre:ι→Prop
 val:ι→Value
 new:ι→Option ah
inductive tO where
 | p (S:bz)
 | q (S:bk)
 | r (S:bk)
abbrev yq:=FuncId→Option tO
def WF (r:Option Nat):Fence:={ Fence.wide with round:=r }
structure aZ (P:Program) (f:FuncId) (S:bz):Prop where
 enters:∀ args w,(callFunc f args).run P w=.ok (.enter f args) w
 calls:∀ (i:S.ι),S.pre i→∀ (ν:Nu) (as:List Value) (w:World) (n:Nat),bc ν (S.args i) as →
  CallsIn Fence.wide n P f ⟨as⟩ w fun e w'=>∃ v',e=.returned v'∧ao ν (S.val i) v'∧Below w.heap.size w w'
structure mH (ν aj:Nu) (aE:Nat) (w w':World) (v v':Value) (nb:Option ah):Prop where
 le:ν.le aj
 only:∀ id,id≠aE→aj id=ν id
 val:ao aj v v'
 below:Below w.heap.size w w'
 y7:nb=none→aj=ν
 gI:∀ b,nb=some b→∃ l,aj aE=some l∧bN aj l b w'∧w.heap.size≤l.aH
structure c4 (P:Program) (f:FuncId) (S:bk):Prop where
 enters:∀ args w,(callFunc f args).run P w=.ok (.enter f args) w
 ro:∀ i b,b∈S.ai i→b.own=false
 fl:∀ i b,S.new i=some b→b.js=true
 calls:∀ (i:S.ι),S.pre i→∀ (ν:Nu) (as:List Value) (w:World) (n:Nat),bc ν (S.args i) as→bR ν ((S.ai i).map some) w→(∀ id,(S.ai i).length≤id→ν id=none) →
  CallsIn Fence.wide n P f ⟨as⟩ w fun e w'=>∃ v' aj,e=.returned v'∧mH ν aj (S.ai i).length w w' (S.val i) v' (S.new i)
def Ck (P:Program) (f:FuncId):tO→Prop
 | .p S=>aZ P f S
 | .q S=>c4 P f S
 | .r S=>c4 P f S
abbrev QK:=Value→Option ah→Prop
def pA (v:Value) (k:Value→Prop):Prop :=
 match v with
 | .bool b=>k (.bool b)
 | .int q n=>k (.int q n)
 | .string s=>k (.string s)
 | .agg cs=>k (.agg cs)
 | .tuple cs=>k (.tuple cs)
 | .pointer a=>k (.pointer a)
 | .slice a n c=>k (.slice a n c)
 | .func f a b=>k (.func f a b)
 | .nilFunc=>k .nilFunc
 | _=>False
theorem vm {v:Value} {k:Value→Prop} (h:pA v k):k v:=by
 unfold pA at h; split at h <;> first | exact h | exact h.elim
def pP:List Value→List Value→(List Value→Prop)→Prop
 | [],l,k=>k l
 | x::xs,l,k=>pP xs l fun r=>k (x::r)
theorem vB:∀ {xs l:List Value} {k:List Value→Prop},pP xs l k→k (xs++l)
 | [],_,_,h=>h
 | _::xs,l,k,h=>vB (xs:=xs) h
def o8:List Value→Nat→Bool
 | [],0=>true
 | v::l,n+1=>v.oneCell' && o8 l n
 | _,_=>false
theorem xy:∀ {l:List Value} {n:Nat},o8 l n=true→l.length=n∧∀ v∈l,v.oneCell'=true
 | [],0,_=>⟨rfl,fun v hv=>by simp at hv⟩
 | v::l,n+1,h=>by
  simp only [o8,Bool.and_eq_true] at h
  obtain ⟨h1,J⟩:=xy h.2
  exact ⟨by simp [h1],fun u hu=>by
   rcases List.mem_cons.1 hu with e | e
   ·rw [e]; exact h.1
   ·exact J u e⟩
 | [],_+1,h=>by simp [o8] at h
 | _::_,0,h=>by simp [o8] at h
/-- A value's cells. -/
def wi (v:Value) (k:List Value→Prop):Prop :=
 match v with
 | .agg cs=>k cs.toList
 | .tuple _=>False
 | v=>k [v]
theorem Ai {v:Value} {k:List Value→Prop} (h:wi v k):k v.cells.toList:=by
 unfold wi at h
 split at h
 ·exact h
 ·exact h.elim
 ·rename_i h1 J
  cases v <;> first | exact h | exact absurd rfl (h1 _)
def Gx:List (List Value)→Nat→(List Value→Prop)→Prop
 | [],_,_=>False
 | r::_,0,k=>k r
 | _::rs,n+1,k=>Gx rs n k
theorem Kc:∀ {rs:List (List Value)} {n:Nat} {k:List Value→Prop},Gx rs n k→∃ r,rs[n]?=some r∧k r
 | [],_,_,h=>h.elim
 | r::_,0,_,h=>⟨r,rfl,h⟩
 | _::rs,n+1,k,h=>by obtain ⟨r,h1,J⟩:=Kc (rs:=rs) h; exact ⟨r,by simpa using h1,J⟩
def G9 (b:ah) (row:Nat) (k:List Value→Prop):Prop :=
 match b with
 | .aL _ _ rows=>Gx rows row k
 | .flat _ n _ get=>row < n∧k (get row)
 | .bZ _=>False
theorem K1 {b:ah} {row:Nat} {k:List Value→Prop} (h:G9 b row k):row < b.n∧k (b.row row):=by
 cases b with
 | aL o e rows =>
  obtain ⟨r,h1,J⟩:=Kc h
  exact ⟨(List.getElem?_eq_some_iff.1 h1).1,by simpa [ah.row,List.getD,h1] using J⟩
 | flat o n e get=>exact h
 | bZ r=>exact h.elim
def x7:List (Nat × Nat × Bool)→Nat→(Nat→Nat→Bool→Prop)→Prop
 | [],_,_=>False
 | (a,b,c)::_,0,k=>k a b c
 | _::l,n+1,k=>x7 l n k
theorem Aj:∀ {l:List (Nat × Nat × Bool)} {n:Nat} {k:Nat→Nat→Bool→Prop},x7 l n k→∃ x,l[n]?=some x∧k x.1 x.2.1 x.2.2
 | [],_,_,h=>h.elim
 | x::_,0,_,h=>⟨x,rfl,h⟩
 | _::l,n+1,k,h=>by obtain ⟨r,h1,J⟩:=Aj (l:=l) h; exact ⟨r,by simpa using h1,J⟩
def eM (a b:Nat):Nat:=match a with | 0=>b | a+1=>(a+1)+b
theorem ar (a b:Nat):eM a b=a+b:=by cases a <;> simp [eM]
def cE (tt:TT) (t:TypeId) (k:TI→Prop):Prop:=match tt t with | some ti=>k ti | none=>False
theorem cI {tt:TT} {t:TypeId} {k:TI→Prop} (h:cE tt t k):∃ ti,tt t=some ti∧k ti:=by
 unfold cE at h; split at h
 ·exact ⟨_,by assumption,h⟩
 ·exact h.elim
def valOf (agg:Bool) (cs:List Value):Value:=match agg,cs with | true,cs=>.agg ⟨cs⟩ | false,v::_=>v | false,[]=>undef
/-- .. handed on, written out. -/
def Cl (agg:Bool) (cs:List Value) (k:Value→Prop):Prop :=
 match agg,cs with
 | true,cs=>k (.agg ⟨cs⟩)
 | false,v::_=>pA v k
 | false,[]=>k undef
def HQ (sp:Option Nat) (k:Nat→Prop):Prop:=match sp with | none=>k 0 | some c=>k c
theorem LK {sp:Option Nat} {k:Nat→Prop} (h:HQ sp k):k (sp.getD 0):=by cases sp <;> exact h
def bU (s:ByteArray) (i:Nat):Nat:=(s.data.toList.getD i 0).toNat
def BQ (tmps:List Value) (x:Operand) (k:QK):Prop:=bQ tmps x fun v=>k v none
def NM (tmps:List Value) (c a b:Operand) (k:QK):Prop :=
 bQ tmps c fun cv=>match cv with
  | .bool t=>bQ tmps a fun av=>bQ tmps b fun bv =>
   match av,bv with
   | .bool x,.bool y=>k (.bool (bif t then x else y)) none
   | av,bv=>br t (k av none) (k bv none)
  | _=>False
/-- Plain cells taken off the front of a list. -/
def mD:List Value→List Value→Option (List Value)
 | [],l=>some l
 | .int q n::z,.int q' n'::l=>match decide (q=q') && decide (n=n') with | true=>mD z l | false=>none
 | .bool b::z,.bool b'::l=>match b == b' with | true=>mD z l | false=>none
 | .string s::z,.string s'::l=>match Nat.beq s.size 0 && Nat.beq s'.size 0 with | true=>mD z l | false=>none
 | _,_=>none
/-- A list that is n times the same plain cells. -/
def yr (z:List Value):Nat→List Value→Bool
 | 0,[]=>true
 | 0,_::_=>false
 | n+1,l=>match mD z l with | some l'=>yr z n l' | none=>false
def Ng (tt:TT) (t:TypeId) (aE:Nat) (k:QK):Prop :=
 cE tt t fun ti=>match ti.kind with
  | .array n e=>cE tt e fun te=>match Nat.beq te.size 1 && yr te.zero n ti.zero with
   | true=>k (.pointer (some ⟨aE,0,none⟩)) (some (.flat true n te.size fun _=>te.zero))
   | false=>k (.pointer (some ⟨aE,0,none⟩)) (some (.aL true ti.size [ti.zero]))
  | _=>k (.pointer (some ⟨aE,0,none⟩)) (some (.aL true ti.size [ti.zero]))
def On (tt:TT) (tmps:List Value) (t:TypeId) (x:Operand) (aE:Nat) (k:QK):Prop :=
 cE tt t fun ti=>bQ tmps x fun v=>wi v fun cs=>match o8 cs ti.size with
  | true=>k (.pointer (some ⟨aE,0,none⟩)) (some (.aL true ti.size [cs]))
  | false=>False
def Gy (tt:TT) (tmps:List Value) (H:ax) (t:TypeId) (a:Operand) (k:QK):Prop :=
 bQ tmps a fun av=>match av with
  | .pointer (some ⟨id,row,sp⟩)=>cE tt t fun ti=>gu H id fun b=>G9 b row fun cs=>HQ sp fun c=>tN cs c ti.size fun vs=>Cl ti.agg vs fun v=>k v none
  | _=>False
def Kd (tt:TT) (tmps:List Value) (t:TypeId) (x:Operand) (f:Nat) (k:QK):Prop :=
 bQ tmps x fun av=>match av with
  | .pointer (some ⟨id,row,sp⟩)=>cE tt t fun ti=>match ti.kind with
   | .struct fs=>x7 fs f fun off _ _=>HQ sp fun c=>k (.pointer (some ⟨id,row,some (c+off)⟩)) none
   | _=>False
  | _=>False
def Nh (tt:TT) (tmps:List Value) (t:TypeId) (x:Operand) (f:Nat) (k:QK):Prop :=
 bQ tmps x fun av=>match av with
  | .agg cs=>cE tt t fun ti=>match ti.kind with
   | .struct fs=>x7 fs f fun off sz ag=>tN cs.toList off sz fun vs=>Cl ag vs fun v=>k v none
   | _=>False
  | _=>False
def DQ (tt:TT) (tmps:List Value) (H:ax) (t:TypeId) (x ix:Operand) (k:QK):Prop :=
 bQ tmps x fun xv=>bQ tmps ix fun iv=>match iv with
  | .int _ i=>cE tt t fun ti=>match ti.kind with
   | .slice e=>match xv with
    | .slice (some ⟨id,row,none⟩) n _=>cE tt e fun te=>gu H id fun b =>
     (0≤i∧i < (n:Int))∧match Nat.beq b.ae te.size with
      | true=>k (.pointer (some ⟨id,eM row i.toNat,none⟩)) none
      | false=>False
    | _=>False
   | .array n e=>match xv with
    | .pointer (some ⟨id,row,none⟩)=>cE tt e fun te=>gu H id fun b=>(0≤i∧i < (n:Int))∧match Nat.beq b.ae te.size with
     | true=>k (.pointer (some ⟨id,eM row i.toNat,none⟩)) none
     | false=>k (.pointer (some ⟨id,row,some (0+i.toNat*te.size)⟩)) none
    | .pointer (some ⟨id,row,some c⟩)=>cE tt e fun te=>(0≤i∧i < (n:Int))∧k (.pointer (some ⟨id,row,some (c+i.toNat*te.size)⟩)) none
    | _=>False
   | _=>False
  | _=>False
def Ni (tt:TT) (tmps:List Value) (t:TypeId) (x ix:Operand) (k:QK):Prop :=
 bQ tmps x fun xv=>bQ tmps ix fun iv=>match iv with
  | .int _ i=>cE tt t fun ti=>match ti.kind with
   | .str=>match xv with
    | .string s=>(0≤i∧i < (s.size:Int))∧k (.int .u8 (bU s i.toNat)) none
    | _=>False
   | _=>False
  | _=>False
def EW (tmps:List Value) (x:Operand) (ix:Nat) (k:QK):Prop :=
 bQ tmps x fun xv=>match xv with
  | .tuple vs=>pO vs.toList ix fun v=>k v none
  | _=>False
def K2 (tmps:List Value) (fn:Fn) (first cap:List Operand) (k:QK):Prop :=
 pr tmps first fun a=>pr tmps cap fun b=>k (.func fn ⟨a⟩ ⟨b⟩) none
def Pe (tmps:List Value) (op:UnOp) (x:Operand) (k:QK):Prop :=
 bQ tmps x fun xv=>match op,xv with
  | .neg,.int q n=>k (.int q (q.wrap (0 - n))) none
  | .not,.bool b=>k (.bool !b) none
  | .xor,.int q n=>match Op.intBits .xor q (if q.signed then -1 else q.max) n with
   | .pure v=>pA v fun v=>match cC v with | true=>k v none | false=>False
   | _=>False
  | _,_=>False
def eh:List Value→List Value→Bool
 | [],[]=>true
 | .bool a::l,.bool b::m=>(a == b) && eh l m
 | .int _ a::l,.int _ b::m=>(a == b) && eh l m
 | .string a::l,.string b::m=>(a.toList == b.toList) && eh l m
 | _,_=>false
def eL:List Value→List Value→Bool
 | [],[]=>true
 | .bool _::l,.bool _::m=>eL l m
 | .int q _::l,.int q' _::m=>decide (q=q') && eL l m
 | .string _::l,.string _::m=>eL l m
 | _,_=>false
/-- A struct type's '==' is that of its cells, where these have the kinds of the type's own zero value. -/
def wW (P:Program) (t:TypeId) (zero:List Value):Prop :=
 ∀ xs ys w,eL xs zero=true→eL ys zero=true→(Op.equal t (.agg ⟨xs⟩) (.agg ⟨ys⟩)).run P w=.ok (eh xs ys) w∧∀ x y op,(eqGuard op t x y (.agg ⟨xs⟩) (.agg ⟨ys⟩)).run P w=.ok () w
def NN (op:BinOp) (q:IntKind) (a b:Int) (k:QK):Prop :=
 match op with
 | .and | .or | .xor | .andNot=>match Op.intBits op q a b with
  | .pure v=>pA v fun v=>match cC v with | true=>k v none | false=>False
  | _=>False
 | _=>False
def Bc (op:BinOp) (q q':IntKind) (a b:Int) (k:QK):Prop :=
 match op with
 | .shl=>wV (0≤b) <| k (.int q (q.wrap (a*2 ^ (min b.toNat q.bits)))) none
 | .shr=>wV (0≤b) <| k (.int q (a.fdiv (2 ^ (min b.toNat q.bits)))) none
 | op=>match decide (q=q') with
  | true=>match op with
   | .add=>k (.int q (q.wrap (a+b))) none
   | .sub=>k (.int q (q.wrap (a - b))) none
   | .mul=>k (.int q (q.wrap (a*b))) none
   | .quo=>wV (b≠0) <| k (.int q (q.wrap (a.tdiv b))) none
   | .rem=>wV (b≠0) <| k (.int q (a.tmod b)) none
   | .eql=>k (.bool (a == b)) none
   | .neq=>k (.bool (a != b)) none
   | .lss=>k (.bool (decide (a < b))) none
   | .leq=>k (.bool (decide (a≤b))) none
   | .gtr=>k (.bool (decide (a > b))) none
   | .geq=>k (.bool (decide (a ≥ b))) none
   | op=>NN op q a b k
  | false=>False
def Mz (op:BinOp) (a b:ByteArray) (k:QK):Prop :=
 match op with
 | .add=>(a.size+b.size < 9223372036854775808)∧k (.string (a++b)) none
 | .eql=>k (.bool (a.toList == b.toList)) none
 | .neq=>k (.bool !(a.toList == b.toList)) none
 | .lss=>k (.bool (Op.bytesLess a.toList b.toList)) none
 | .gtr=>k (.bool !(Op.bytesLess a.toList b.toList || a.toList == b.toList)) none
 | _=>False
def EX (tk:TK) (op:BinOp) (a b:Bool) (k:QK):Prop :=
 match tk,op with
 | .bool,.eql=>k (.bool (a == b)) none
 | .bool,.neq=>k (.bool !(a == b)) none
 | _,_=>False
/-- '==' of structs of plain cells: which types it may be used at is told by a list that the caller bears a proof for. -/
def Fv (eqs:List TypeId) (t:TypeId) (zero:List Value) (op:BinOp) (a b:List Value) (k:QK):Prop :=
 match eqs.contains t && eL a zero && eL b zero,op with
 | true,.eql=>k (.bool (eh a b)) none
 | true,.neq=>k (.bool !(eh a b)) none
 | _,_=>False
/-- A slice beside nil. -/
def Fw (tk:TK) (op:BinOp) (a:Option Addr) (k:QK):Prop :=
 match tk,op,a with
 | .slice _,.eql,none=>k (.bool true) none
 | .slice _,.eql,some _=>k (.bool false) none
 | .slice _,.neq,none=>k (.bool false) none
 | .slice _,.neq,some _=>k (.bool true) none
 | _,_,_=>False
def Cm (tt:TT) (eqs:List TypeId) (tmps:List Value) (op:BinOp) (t:TypeId) (x y:Operand) (k:QK):Prop :=
 bQ tmps x fun xv=>bQ tmps y fun yv=>match xv,yv with
  | .int q a,.int q' b=>Bc op q q' a b k
  | .string a,.string b=>Mz op a b k
  | .bool a,.bool b=>cE tt t fun ti=>EX ti.kind op a b k
  | .agg a,.agg b=>cE tt t fun ti=>Fv eqs t ti.zero op a.toList b.toList k
  | .slice a _ _,.slice none 0 0=>cE tt t fun ti=>Fw ti.kind op a k
  | _,_=>False
/-- The bytes of n rows. -/
def bytesOf (get:Nat→List Value) (row n:Nat):List UInt8:=(List.range n).map fun r=>match get (row+r) with | .int _ x::_=>UInt8.ofNat x.toNat | _=>0
def LM (tt:TT) (tmps:List Value) (H:ax) (src dst:TypeId) (x:Operand) (aE:Nat) (k:QK):Prop :=
 bQ tmps x fun xv=>cE tt src fun ts=>cE tt dst fun td=>match td.kind,xv with
  | .int q,.int _ n=>match ts.kind with
   | .int _=>k (.int q (q.wrap n)) none
   | _=>False
  | .str,.string s=>match ts.kind with
   | .str=>k (.string s) none
   | _=>False
  | .str,.slice (some ⟨id,row,none⟩) n _=>match ts.kind with
   | .slice e=>cE tt e fun te=>match te.kind with
    | .int .u8=>match n with
     | 0=>k (.string ⟨#[]⟩) none
     | n+1=>gu H id fun b=>match b.ae with
      | 1=>(row+(n+1)≤b.n∧∀ r,r < n+1→∃ x,b.row (row+r)=[.int .u8 x])∧k (.string ⟨⟨bytesOf b.row row (n+1)⟩⟩) none
      | _=>False
    | _=>False
   | _=>False
  | .str,.slice none 0 0=>match ts.kind with
   | .slice e=>cE tt e fun te=>match te.kind with
    | .int .u8=>k (.string ⟨#[]⟩) none
    | _=>False
   | _=>False
  | .slice e,.string s=>match ts.kind with
   | .str=>cE tt e fun te=>match te.kind with
    | .int .u8=>k (.slice (some ⟨aE,0,none⟩) s.size aJ) (some (.flat false s.size 1 fun r=>[.int .u8 (bU s r)]))
    | _=>False
   | _=>False
  | _,_=>False
def Ha (tmps:List Value) (tt:TT) (t:TypeId) (x:Operand) (k:QK):Prop :=
 bQ tmps x fun xv=>cE tt t fun ti=>match ti.kind,xv with
  | .str,.string s=>k (.int .i64 s.size) none
  | .slice _,.slice _ n _=>k (.int .i64 n) none
  | _,_=>False
def Oo (tmps:List Value) (x y:Operand) (k:QK):Prop :=
 bQ tmps x fun xv=>bQ tmps y fun yv=>match xv,yv with
  | .int q a,.int _ b=>k (.int q (if b > a then b else a)) none
  | _,_=>False
def Oq (tmps:List Value) (x y:Operand) (k:QK):Prop :=
 bQ tmps x fun xv=>bQ tmps y fun yv=>match xv,yv with
  | .int q a,.int _ b=>k (.int q (if b < a then b else a)) none
  | _,_=>False
def BR (tmps:List Value) (fs:List (Nat × Nat × Bool)):List (Nat × Operand)→List Value→(List Value→Prop)→Prop
 | [],cs,k=>k cs
 | p::ps,cs,k=>bQ tmps p.2 fun v=>wi v fun vs=>x7 fs p.1 fun off sz _=>match o8 vs sz with
  | true=>uh cs off vs fun dW=>BR tmps fs ps dW k
  | false=>False
/-- The places of an array's elements. -/
def wE (sz:Nat):Nat→Nat→List (Nat × Nat × Bool)
 | _,0=>[]
 | off,n+1=>(off,sz,true)::wE sz (off+sz) n
def Nj (tt:TT) (tmps:List Value) (t:TypeId) (parts:List (Nat × Operand)) (k:QK):Prop :=
 cE tt t fun ti=>match ti.kind with
  | .struct fs=>BR tmps fs parts ti.zero fun cs=>k (.agg ⟨cs⟩) none
  | .array n e=>cE tt e fun te=>BR tmps (wE te.size 0 n) parts ti.zero fun cs=>k (.agg ⟨cs⟩) none
  | _=>False
/-- Blocks renumbered: block id becomes τ[id]. -/
def cL (τ:List Nat):Nat→Value→Option Value
 | 0,_=>none
 | k+1,v=>match v with
  | .bool b=>some (.bool b)
  | .int q n=>some (.int q n)
  | .string s=>some (.string s)
  | .pointer none=>some (.pointer none)
  | .pointer (some ⟨id,row,sp⟩)=>match τ[id]? with | some uD=>some (.pointer (some ⟨uD,row,sp⟩)) | none=>none
  | .slice none 0 0=>some (.slice none 0 0)
  | .slice (some ⟨id,row,none⟩) n c=>match τ[id]? with | some uD=>some (.slice (some ⟨uD,row,none⟩) n c) | none=>none
  | .nilFunc=>some .nilFunc
  | .agg ⟨l⟩=>match l.foldr (fun v acc=>match cL τ k v,acc with | some x,some xs=>some (x::xs) | _,_=>none) (some []) with | some l'=>some (.agg ⟨l'⟩) | none=>none
  | .tuple ⟨l⟩=>match l.foldr (fun v acc=>match cL τ k v,acc with | some x,some xs=>some (x::xs) | _,_=>none) (some []) with | some l'=>some (.tuple ⟨l'⟩) | none=>none
  | .func fn ⟨l⟩ ⟨m⟩=>match l.foldr (fun v acc=>match cL τ k v,acc with | some x,some xs=>some (x::xs) | _,_=>none) (some []),m.foldr (fun v acc=>match cL τ k v,acc with | some x,some xs=>some (x::xs) | _,_=>none) (some []) with
   | some l',some m'=>some (.func fn ⟨l'⟩ ⟨m'⟩) | _,_=>none
  | _=>none
def lU (τ:List Nat) (k:Nat) (l:List Value):Option (List Value):=l.foldr (fun v acc=>match cL τ k v,acc with | some x,some xs=>some (x::xs) | _,_=>none) (some [])
def lV:List Value→Bool
 | []=>true
 | v::l=>cC v && lV l
theorem dt:∀ {l:List Value},lV l=true→∀ v∈l,cC v=true
 | [],_,v,hv=>by simp at hv
 | v::l,h,u,hu=>by
  simp only [lV,Bool.and_eq_true] at h
  rcases List.mem_cons.1 hu with e | e
  ·rw [e]; exact h.1
  ·exact dt h.2 u e
/-- What a contract asks of a block (left), and a block that serves. -/
structure aO (b c:ah):Prop where
 own:b.own=true→c.nz=true∧c.n=b.n
 ae:c.ae=b.ae
 n:b.n≤c.n
 row:∀ r,r < b.n→b.row r=c.row r
 flat:∀ r,r < b.n→∀ v∈b.row r,cC v=true
theorem aO.aY {o o':Bool} {n e:Nat} {g:Nat→List Value} (h:o=true→o'=true) (hs:∀ r,r < n→lV (g r)=true):aO (.flat o n e g) (.flat o' n e g) :=
 ⟨fun ho=>⟨h ho,rfl⟩,rfl,Nat.le_refl _,fun _ _=>rfl,fun r hr v hv=>dt (hs r hr) v hv⟩
def yt (H:ax):List Nat→List ah→Prop→Prop
 | [],[],k=>k
 | s::σ,b::bs,k=>match b with
  | .bZ _=>False
  | b=>gu H s fun c=>aO b c∧yt H σ bs k
 | _,_,_=>False
/-- A block that serves a contract: or a box that points to the contract's blocks. -/
def Cn (σ:List Nat) (b c:ah):Prop:=aO b c∨∃ o e r r',b=.aL false e [r]∧c=.aL o e [r']∧lU σ 3 r=some r'
def Bu (H:ax) (τ:List Nat):List Nat→List ah→Prop→Prop
 | [],[],k=>k
 | s::σ,b::bs,k=>match b with
  | .bZ _=>False
  | b=>gu H s fun c=>Cn τ b c∧Bu H τ σ bs k
 | _,_,_=>False
/-- A call of a function that has a contract. -/
def Gz (Φ:yq) (g:FuncId) (args:List Value) (H:ax) (aE:Nat) (k:QK):Prop :=
 match Φ g with
 | some (.p S)=>∃ i:S.ι,S.args i=args∧S.pre i∧pA (S.val i) fun v=>k v none
 | some (.q S)=>∃ (i:S.ι) (σ:List Nat),lU σ 3 (S.args i)=some args∧S.pre i∧yt H σ (S.ai i) (∃ v,cL (σ++[aE]) 3 (S.val i)=some v∧pA v fun v=>k v (S.new i))
 | some (.r S)=>∃ (i:S.ι) (σ:List Nat),lU σ 3 (S.args i)=some args∧S.pre i∧Bu H σ σ (S.ai i) (∃ v,cL (σ++[aE]) 3 (S.val i)=some v∧pA v fun v=>k v (S.new i))
 | none=>False
/-- What is left of a capacity. -/
def tG (c l:Nat):Nat:=match decide (c=aJ) with | true=>aJ | false=>c - l
/-- A slice out of a literal. -/
def setRow:List (List Value)→Nat→List Value→(List (List Value)→Prop)→Prop
 | [],_,_,_=>False
 | _::rs,0,r,k=>k (r::rs)
 | q::rs,n+1,r,k=>setRow rs n r fun bX=>k (q::bX)
def rowsOf (tmps:List Value) (sz:Nat):List (Nat × Operand)→List (List Value)→(List (List Value)→Prop)→Prop
 | [],rows,k=>k rows
 | p::ps,rows,k=>bQ tmps p.2 fun v=>wi v fun cs=>match o8 cs sz with
  | true=>setRow rows p.1 cs fun iF=>rowsOf tmps sz ps iF k
  | false=>False
def Hb (n:Nat) (r:List Value) (k:List (List Value)→Prop):Prop:=match n with
 | 0=>k []
 | n+1=>Hb n r fun l=>k (r::l)
/-- The block of a literal's rows; without any it is flat. -/
def F6 (ae:Nat) (rows:List (List Value)) (k:ah→Prop):Prop :=
 match rows with
 | []=>k (.flat true 0 ae fun _=>[])
 | r::rs=>k (.aL true ae (r::rs))
def JS (tt:TT) (tmps:List Value) (t:TypeId) (n:Nat) (ps:List (Nat × Operand)) (aE:Nat) (k:QK):Prop :=
 cE tt t fun ti=>match ti.kind with
  | .slice e=>cE tt e fun te=>match Nat.ble (n*te.size) 16777216 with
   | true=>Hb n te.zero fun aaL=>rowsOf tmps te.size ps aaL fun rows=>F6 te.size rows fun b=>k (.slice (some ⟨aE,0,none⟩) n n) (some b)
   | false=>False
  | _=>False
def Ke (tt:TT) (tmps:List Value) (t:TypeId) (x y:Operand) (aE:Nat) (k:QK):Prop :=
 bQ tmps x fun xv=>bQ tmps y fun yv=>cE tt t fun ti=>match ti.kind with
  | .slice e=>cE tt e fun te=>match lV te.zero,xv,yv with
   | true,.int _ n,.int _ m=>(0≤n∧n≤m∧m*te.bytes≤140737488355328)∧k (.slice (some ⟨aE,0,none⟩) n.toNat m.toNat) (some (.flat true n.toNat te.size fun _=>te.zero))
   | _,_,_=>False
  | _=>False
def kT (tmps:List Value) (x:Option Operand) (d:Int) (k:Int→Prop):Prop :=
 match x with
 | none=>k d
 | some x=>bQ tmps x fun v=>match v with | .int _ n=>k n | _=>False
def F7 (tt:TT) (tmps:List Value) (H:ax) (t:TypeId) (x:Operand) (lo hi mx:Option Operand) (k:QK):Prop :=
 bQ tmps x fun xv=>cE tt t fun ti=>match ti.kind,xv with
  | .str,.string s=>match mx with
   | none=>kT tmps lo 0 fun l=>kT tmps hi s.size fun h=>(0≤l∧l≤h∧h≤s.size)∧k (.string (s.extract l.toNat h.toNat)) none
   | some _=>False
  | .slice e,.slice (some ⟨id,row,none⟩) n c=>cE tt e fun te=>gu H id fun b=>match Nat.beq b.ae te.size with
   | true=>match hi,mx with
    | hi,none=>kT tmps lo 0 fun l=>kT tmps hi n fun h=>(0≤l∧l≤h∧h≤n)∧k (.slice (some ⟨id,eM row l.toNat,none⟩) (h.toNat - l.toNat) (tG c l.toNat)) none
    | some h0,some m=>kT tmps lo 0 fun l=>bQ tmps h0 fun hv=>bQ tmps m fun mv=>match hv,mv with
     | .int _ h,.int _ m=>(0≤l∧l≤h∧h≤m∧m≤n)∧k (.slice (some ⟨id,eM row l.toNat,none⟩) (h.toNat - l.toNat) (m.toNat - l.toNat)) none
     | _,_=>False
    | none,some _=>False
   | false=>False
  | .slice e,.slice (some ⟨id,row,some b0⟩) n _=>cE tt e fun te=>gu H id fun b=>match Nat.beq b.ae te.size with
   | true=>match hi,mx with
    | hi,none=>kT tmps lo 0 fun l=>kT tmps hi n fun h=>(0≤l∧l≤h∧h≤b0)∧k (.slice (some ⟨id,eM row l.toNat,some (b0 - l.toNat)⟩) (h.toNat - l.toNat) aJ) none
    | some h0,some m=>kT tmps lo 0 fun l=>bQ tmps h0 fun hv=>bQ tmps m fun mv=>match hv,mv with
     | .int _ h,.int _ m=>(0≤l∧l≤h∧h≤m∧m≤b0)∧k (.slice (some ⟨id,eM row l.toNat,none⟩) (h.toNat - l.toNat) (m.toNat - l.toNat)) none
     | _,_=>False
    | none,some _=>False
   | false=>False
  | .array n e,.pointer (some ⟨id,row,none⟩)=>cE tt e fun te=>gu H id fun b=>match Nat.beq b.ae te.size with
   | true=>match mx with
    | none=>kT tmps lo 0 fun l=>kT tmps hi n fun h=>(0≤l∧l≤h∧h≤n∧row+n≤b.n∧b.nz=true)∧k (.slice (some ⟨id,eM row l.toNat,none⟩) (h.toNat - l.toNat) (n - l.toNat)) none
    | some _=>False
   | false=>False
  | .slice e,.slice none 0 0=>cE tt e fun _=>match hi,mx with
   | hi,none=>kT tmps lo 0 fun l=>kT tmps hi 0 fun h=>(0≤l∧l≤h∧h≤0)∧k (.slice none 0 0) none
   | some h0,some m=>kT tmps lo 0 fun l=>bQ tmps h0 fun hv=>bQ tmps m fun mv=>match hv,mv with
    | .int _ h,.int _ m=>(0≤l∧l≤h∧h≤m∧m≤0)∧k (.slice none 0 0) none
    | _,_=>False
   | none,some _=>False
  | _,_=>False
def Ot (tmps:List Value) (tt:TT) (t:TypeId) (x:Operand) (k:QK):Prop :=
 bQ tmps x fun xv=>cE tt t fun ti=>match ti.kind,xv with
  | .slice _,.slice none 0 0=>k (.int .i64 0) none
  | _,_=>False
/-- Empty rows, appended to nothing. -/
def K3 (tt:TT) (tmps:List Value) (t u:TypeId) (x y:Operand) (aE:Nat) (k:QK):Prop :=
 bQ tmps x fun xv=>bQ tmps y fun yv=>cE tt t fun ti=>match ti.kind with
  | .slice e=>cE tt e fun te=>cE tt u fun tu=>match tu.kind,lV te.zero,xv,yv with
   | .int _,true,.slice none 0 0,.int .i64 n=>(0 < n∧n*te.bytes≤140737488355328)∧k (.slice (some ⟨aE,0,none⟩) n.toNat aJ) (some (.flat true n.toNat te.size fun _=>te.zero))
   | _,_,_,_=>False
  | _=>False
/-- A function as it works upon the abstract heap. -/
abbrev FT:=List Value→ax→(Value→ax→Prop)→Prop
structure Env where
 tt:TT
 eqs:List TypeId
 Φ:yq
 Ψ:FuncId→Option FT:=fun _=>none
 base:Nat:=0
 /-- Appending to a slice of unknown capacity may write over rows of its block. -/
 gZ:Bool:=false
 /-- Yield values in sight: which, and what a round does. -/
 ys:List (Nat × FT):=[]
 /-- Within a round. -/
 rd:Bool:=false
 /-- The numbering that the rounds lean on. -/
 nu:Nu:=fun _=>none
 /-- Iterators, under a yield value. -/
 It:FuncId→Option (Nat→FT→Nu→FT):=fun _=>none
def kD (E:Env) (op:Op) (tmps:List Value) (H:ax) (aE:Nat) (k:QK):Prop :=
 match op with
 | .move x | .assign x=>BQ tmps x k
 | .pick c a b=>NM tmps c a b k
 | .alloc t=>Ng E.tt t aE k
 | .box t x=>On E.tt tmps t x aE k
 | .build t ps=>Nj E.tt tmps t ps.toList k
 | .load t a=>Gy E.tt tmps H t a k
 | .buildSlice t n ps=>JS E.tt tmps t n ps.toList aE k
 | .makeSlice t x y=>Ke E.tt tmps t x y aE k
 | .slice t x lo hi mx=>F7 E.tt tmps H t x lo hi mx k
 | .fieldAddr t x f=>Kd E.tt tmps t x f k
 | .field t x f=>Nh E.tt tmps t x f k
 | .indexAddr t x i=>DQ E.tt tmps H t x i k
 | .index t x i=>Ni E.tt tmps t x i k
 | .extract x i=>EW tmps x i k
 | .makeFunc fn a b=>K2 tmps fn a.toList b.toList k
 | .unOp op _ x=>Pe tmps op x k
 | .binOp op t x y _=>Cm E.tt E.eqs tmps op t x y k
 | .convert s d x=>LM E.tt tmps H s d x aE k
 | .call c=>match c.callee with
  | .value f=>bQ tmps f fun fv=>match fv with
   | .func (.func g) a b=>pr tmps c.args.toList fun vs=>pP a.toList vs fun l=>pP l b.toList fun args=>Gz E.Φ g args H aE k
   | _=>False
  | .builtin .len=>match c.args.toList,c.argTypes.toList with
   | [x],[t]=>Ha tmps E.tt t x k
   | _,_=>False
  | .builtin .max=>match c.args.toList with
   | [x,y]=>Oo tmps x y k
   | _=>False
  | .builtin .cap=>match c.args.toList,c.argTypes.toList with
   | [x],[t]=>Ot tmps E.tt t x k
   | _,_=>False
  | .builtin .append=>match c.args.toList,c.argTypes.toList with
   | [x,y],[t,u]=>K3 E.tt tmps t u x y aE k
   | _,_=>False
  | .builtin .min=>match c.args.toList with
   | [x,y]=>Oq tmps x y k
   | _=>False
  | _=>False
 | _=>False
/-- What is to be shown of an operation: a result that hangs on the abstract state alone, and that the machine comes to from whatever state this one stands for. -/
def eG (P:Program) (op:Op) (tmps:List Value) (H:ax) (aE:Nat) (k:QK):Prop :=
 ∃ v nb,k v nb∧∀ (o:Oper) (ν:Nu) (a:Act) (w:World) (r:Option Nat) (n:Nat),o.op=op→(∀ x∈op.operands,eW ν tmps a x)→bR ν H w→ν aE=none →
  ∀ next Q,(∀ v' w' aj,mH ν aj aE w w' v v' nb→next (a.put o.dst v') w')→o.wpIn (WF r) n P a w next Q
/-- An operation that gives a value out of its operands alone. -/
def pF (P:Program) (bh:Nu) (op:Op) (tmps:List Value) (v:Value):Prop :=
 (∀ c,op≠.defer c)∧∀ (o:Oper) (ν:Nu) (a:Act) (w:World),bh.le ν→o.op=op→(∀ x∈op.operands,eW ν tmps a x)→∃ v',ao ν v v'∧(execOp a.eval o).run P w=.ok (.value v') w
theorem jm {P:Program} {r:Option Nat} {n:Nat} {o:Oper} {a:Act} {w w':World} {v':Value} (hd:∀ c,o.op≠.defer c)
  (h:(execOp a.eval o).run P w=.ok (.value v') w') (next:Act→World→Prop) (Q:Exit→Act→World→Prop) (hn:next (a.put o.dst v') w') :
  o.wpIn (WF r) n P a w next Q:=by
 refine ⟨fun _ _=>trivial,?_⟩
 rw [Oper.semAt_eq _ _ _ hd,h]
 exact hn
/-- An operation that gives a value out of its operands and a heap. -/
def nq (P:Program) (bh:Nu) (G:ax) (op:Op) (tmps:List Value) (v:Value):Prop :=
 (∀ c,op≠.defer c)∧∀ (o:Oper) (ν:Nu) (a:Act) (w:World),bh.le ν→o.op=op→(∀ x∈op.operands,eW ν tmps a x)→bR ν G w→∃ v',ao ν v v'∧(execOp a.eval o).run P w=.ok (.value v') w
def rP (P:Program) (op:Op) (tmps:List Value) (H:ax) (k:QK):Prop:=∃ v,k v none∧∀ bh,nq P bh H op tmps v
theorem rP.value {P:Program} {op:Op} {tmps:List Value} {H:ax} {k:QK} (hd:∀ c,op≠.defer c) {v:Value} (hk:k v none)
  (h:∀ (o:Oper) (ν:Nu) (a:Act) (w:World),o.op=op→(∀ x∈op.operands,eW ν tmps a x)→bR ν H w→∃ v',ao ν v v'∧(execOp a.eval o).run P w=.ok (.value v') w):rP P op tmps H k :=
 ⟨v,hk,fun _=>⟨hd,fun o ν a w _ ho ha hH=>h o ν a w ho ha hH⟩⟩
/-- An operation that gives a value and does nothing else. -/
theorem eG.value {P:Program} {op:Op} {tmps:List Value} {H:ax} {aE:Nat} {k:QK} (hd:∀ c,op≠.defer c) {v:Value} (hk:k v none)
  (h:∀ (o:Oper) (ν:Nu) (a:Act) (w:World),o.op=op→(∀ x∈op.operands,eW ν tmps a x)→bR ν H w→∃ v',ao ν v v'∧(execOp a.eval o).run P w=.ok (.value v') w):eG P op tmps H aE k :=
 ⟨v,none,hk,fun o ν a w r n ho ha hH _ next Q hn=>by
  obtain ⟨v',hv,hr⟩:=h o ν a w ho ha hH
  exact jm (by rw [ho]; exact hd) hr next Q (hn _ _ ν ⟨ν.le_refl,fun _ _=>rfl,hv,Below.refl _ _,fun _=>rfl,(fun b hb=>by cases hb)⟩)⟩
theorem rP.ok {P:Program} {op:Op} {tmps:List Value} {H:ax} {aE:Nat} {k:QK} (h:rP P op tmps H k):eG P op tmps H aE k :=
 let ⟨_,hk,hv⟩:=h
 .value (hv fun _=>none).1 hk fun o ν a w ho ha hH=>(hv ν).2 o ν a w ν.le_refl ho ha hH
end Go.Ae
/- The abstract operations stand for the model's: one lemma an operation. -/
namespace Go.Ae
open Go Go.RowKit
section
variable {P:Program} {tt:TT} {Φ:yq} {w:World} {ν:Nu} {aE:Nat} {k:QK} {tmps:List Value} {H:ax}
theorem Yv {x:Operand} (h:BQ tmps x k):eG P (.move x) tmps H aE k:=by
 obtain ⟨v,hk,hv⟩:=cK h
 exact .value (by simp) hk fun o ν a w ho ha _=>⟨_,hv ν a (ha x (by simp [Op.operands])),by simp [execOp,ho]⟩
theorem Ud {x:Operand} (h:BQ tmps x k):eG P (.assign x) tmps H aE k:=by
 obtain ⟨v,hk,hv⟩:=cK h
 exact .value (by simp) hk fun o ν a w ho ha _=>⟨_,hv ν a (ha x (by simp [Op.operands])),by simp [execOp,ho]⟩
theorem ao.jM {ν:Nu} {b:Bool} {r:Value} (h:ao ν (.bool b) r):r=.bool b:=by cases h; rfl
theorem ao.fu {ν:Nu} {k:IntKind} {x:Int} {r:Value} (h:ao ν (.int k x) r):r=.int k x:=by cases h; rfl
theorem ao.rr {ν:Nu} {x:ByteArray} {r:Value} (h:ao ν (.string x) r):r=.string x:=by cases h; rfl
theorem ao.og {ν:Nu} {id row:Nat} {sp:Option Nat} {r:Value} (h:ao ν (.pointer (some ⟨id,row,sp⟩)) r):∃ l,ν id=some l∧r=.pointer (some (l.at row (sp.getD 0))):=by
 cases h with | ptr _ _ _ l h=>exact ⟨l,h,rfl⟩
theorem Yw {c x y:Operand} (h:NM tmps c x y k):eG P (.pick c x y) tmps H aE k:=by
 obtain ⟨cv,h,hc⟩:=cK h
 split at h
 ·rename_i t
  obtain ⟨av,h,hx⟩:=cK h
  obtain ⟨bv,h,hy⟩:=cK h
  split at h
  ·refine .value (by simp) h fun o ν a w ho ha _=>⟨_,.bool _,?_⟩
   have hc:=(hc ν a (ha c (by simp [Op.operands]))).jM
   have hx:=(hx ν a (ha x (by simp [Op.operands]))).jM
   have hy:=(hy ν a (ha y (by simp [Op.operands]))).jM
   cases t <;> simp [execOp,ho,hc,hx,hy,asBool]
  ·cases t with
   | true =>
    refine .value (by simp) h fun o ν a w ho ha _=>⟨_,hx ν a (ha x (by simp [Op.operands])),?_⟩
    have hc:=(hc ν a (ha c (by simp [Op.operands]))).jM
    simp [execOp,ho,hc,asBool]
   | false =>
    refine .value (by simp) h fun o ν a w ho ha _=>⟨_,hy ν a (ha y (by simp [Op.operands])),?_⟩
    have hc:=(hc ν a (ha c (by simp [Op.operands]))).jM
    simp [execOp,ho,hc,asBool]
 ·exact h.elim
/-- A new row of cells: what it is worth. -/
theorem LN {ν:Nu} {aE:Nat} (hn:ν aE=none) {ae:Nat} {cs:List Value} {dW:List Value} (hl:cs.length=ae) (hr:bc ν cs dW)
  (h1:∀ v∈cs,v.oneCell'=true) (w:World) (t:TypeId) :
  bN (ν.add aE ⟨w.heap.size,0,ae,1⟩) ⟨w.heap.size,0,ae,1⟩ (.aL true ae [cs]) { w with heap:=w.heap.push (.cells ⟨dW⟩ t) }:=by
 have dn:({ w with heap:=w.heap.push (.cells ⟨dW⟩ t) }:World).heap[w.heap.size]?=some (.cells ⟨dW⟩ t (0,0)):=by simp
 refine ⟨rfl,fun r jb=>?_,fun r jb j v hv=>?_,fun h=>by simp [ah.js] at h,fun r jb v hv=>?_,fun _ _=>⟨_,_,dn,?_,?_⟩,(fun r h=>nomatch h),?_⟩
 ·have:r=0:=by simp [ah.n] at jb; exact jb
  subst this; simpa [ah.row,ah.ae] using hl
 ·have:r=0:=by simp [ah.n] at jb; exact jb
  subst this
  have hv:cs[j]?=some v:=by simpa [ah.row] using hv
  obtain ⟨v',J,h3⟩:=hr.get hv
  refine ⟨v',?_,h3.mono (Nu.jN hn)⟩
  simp only [Loc.at,World.cell?,Nat.zero_mul,Nat.zero_add]
  rw [dn]
  simpa using J
 ·have:r=0:=by simp [ah.n] at jb; exact jb
  subst this; exact h1 v (by simpa [ah.row] using hv)
 ·simp [← hl,hr.1]
 ·simp [ah.n]
 ·simp
theorem mw {ν:Nu} {aE:Nat} (hn:ν aE=none) {b:ah} {w w':World} {l:Loc} {v v':Value} (hb:bN (ν.add aE l) l b w') (hB:Below w.heap.size w w') (hl:w.heap.size≤l.aH)
  (hv:ao (ν.add aE l) v v'):mH ν (ν.add aE l) aE w w' v v' (some b) :=
 ⟨Nu.jN hn,fun id bm=>Nu.iD bm,hv,hB,(fun h=>by cases h),(fun b' bE=>by cases bE; exact ⟨l,Nu.add_same,hb,hl⟩)⟩
theorem xH (w:World) (o:Obj):Below w.heap.size w { w with heap:=w.heap.push o }:=(Below.refl _ w).alloc (Nat.le_refl _) o
theorem Ak:∀ {z l l':List Value},mD z l=some l'→l=z++l'∧∀ v∈z,cC v=true
 | [],l,l',h=>by simp [mD] at h; exact ⟨by simp [h],fun v hv=>by cases hv⟩
 | .int q n::z,[],l',h=>by simp [mD] at h
 | .int q n::z,x::l,l',h=>by
  cases x <;> simp only [mD] at h <;> try (cases h)
  split at h
  ·rename_i hd
   simp only [Bool.and_eq_true,decide_eq_true_eq] at hd
   obtain ⟨rfl,rfl⟩:=hd
   obtain ⟨h1,J⟩:=Ak h
   exact ⟨by rw [h1]; rfl,fun v hv=>(List.mem_cons.1 hv).elim (fun e=>by rw [e]; rfl) (fun e=>J v e)⟩
  ·cases h
 | .bool b::z,[],l',h=>by simp [mD] at h
 | .bool b::z,x::l,l',h=>by
  cases x <;> simp only [mD] at h <;> try (cases h)
  split at h
  ·rename_i hd
   have hd:=eq_of_beq hd
   subst hd
   obtain ⟨h1,J⟩:=Ak h
   exact ⟨by rw [h1]; rfl,fun v hv=>(List.mem_cons.1 hv).elim (fun e=>by rw [e]; rfl) (fun e=>J v e)⟩
  ·cases h
 | .string s::z,[],l',h=>by simp [mD] at h
 | .string s::z,x::l,l',h=>by
  cases x <;> simp only [mD] at h <;> try (cases h)
  split at h
  ·rename_i s' _ hd
   simp only [Bool.and_eq_true] at hd
   have e1:=Nat.eq_of_beq_eq_true hd.1
   have e2:=Nat.eq_of_beq_eq_true hd.2
   have e:s=s':=by
    apply ByteArray.ext
    apply Array.ext
    ·show s.size=s'.size; omega
    ·intro i h1 J
     have:i < s.size:=h1
     omega
   subst e
   obtain ⟨h1,J⟩:=Ak h
   exact ⟨by rw [h1]; rfl,fun v hv=>(List.mem_cons.1 hv).elim (fun e=>by rw [e]; rfl) (fun e=>J v e)⟩
  ·cases h
theorem Kf {z:List Value}:∀ {n:Nat} {l:List Value},yr z n l=true→l.length=n*z.length∧(∀ r,r < n→∀ (j:Nat) v,z[j]?=some v→l[r*z.length+j]?=some v)∧(0 < n→∀ v∈z,cC v=true)
 | 0,[],_=>⟨by simp,fun r hr=>absurd hr (by omega),fun h=>absurd h (by omega)⟩
 | 0,_::_,h=>by simp [yr] at h
 | n+1,l,h=>by
  simp only [yr] at h
  split at h
  ·rename_i l' he
   obtain ⟨h1,J⟩:=Ak he
   obtain ⟨h3,h4,_⟩:=Kf h
   refine ⟨by rw [h1,List.length_append,h3,Nat.add_mul]; omega,fun r hr j v hv=>?_,fun _=>J⟩
   have hj:j < z.length:=(List.getElem?_eq_some_iff.1 hv).1
   rw [h1]
   cases r with
   | zero=>rw [Nat.zero_mul,Nat.zero_add,List.getElem?_append_left hj]; exact hv
   | succ r =>
    rw [List.getElem?_append_right (by rw [Nat.add_mul]; omega),show (r+1)*z.length+j - z.length=r*z.length+j by rw [Nat.add_mul]; omega]
    exact h4 r (by omega) j v hv
  ·cases h
theorem VJ (hT:∀ t ti,tt t=some ti→ay P t ti) {t:TypeId} (h:Ng tt t aE k):eG P (.alloc t) tmps H aE k:=by
 obtain ⟨ti,ht,h⟩:=cI h
 have a9:=hT _ _ ht
 obtain ⟨i,hi,_,_,z,hz,g8⟩:=a9.info
 have iw:k (.pointer (some ⟨aE,0,none⟩)) (some (.aL true ti.size [ti.zero]))→eG P (.alloc t) tmps H aE k:=fun h=>by
  refine ⟨_,_,h,fun o ν a w r n ho ha hH hn next Q hN=>jm (w':={ w with heap:=w.heap.push (.cells ⟨ti.zero⟩ t) }) (v':=.pointer (some ⟨w.heap.size,0,none⟩)) (by simp [ho]) ?_ next Q (hN _ _ (ν.add aE ⟨w.heap.size,0,ti.size,1⟩) (mw hn (LN hn a9.len (a9.self ν) a9.one w t) (xH _ _) (Nat.le_refl _) ?_))⟩
  ·simp [execOp,ho,Instr.alloc,vl hi hz,newVar,newRow,g8]
  ·have:=ao.ptr (ν:=ν.add aE ⟨w.heap.size,0,ti.size,1⟩) aE 0 none _ Nu.add_same
   simpa [Loc.at] using this
 split at h
 ·rename_i n e hk
  obtain ⟨te,he,h⟩:=cI h
  have Co:=hT _ _ he
  split at h
  ·rename_i oH
   rw [Bool.and_eq_true] at oH
   obtain ⟨z1,z2,z3⟩:=Kf oH.2
   refine ⟨_,_,h,fun o ν a w r nn ho ha hH hn next Q hN=>jm (w':={ w with heap:=w.heap.push (.cells ⟨ti.zero⟩ t) }) (v':=.pointer (some ⟨w.heap.size,0,none⟩)) (by simp [ho]) ?_ next Q (hN _ _ (ν.add aE ⟨w.heap.size,0,te.size,n⟩) (mw hn ?_ (xH _ _) (Nat.le_refl _) ?_))⟩
   ·simp [execOp,ho,Instr.alloc,vl hi hz,newVar,newRow,g8]
   ·have dn:({ w with heap:=w.heap.push (.cells ⟨ti.zero⟩ t) }:World).heap[w.heap.size]?=some (.cells ⟨ti.zero⟩ t (0,0)):=by show (w.heap.push _)[w.heap.size]?=_; simp
    refine ⟨rfl,fun r hr=>Co.len,fun r hr j v hv=>⟨v,?_,ao.kh (z3 (by have:r < n:=hr; omega) v (List.mem_of_getElem? hv))⟩,fun _ r hr v hv=>z3 (by have:r < n:=hr; omega) v hv,fun r hr v hv=>Co.one v hv,fun _ _=>⟨_,_,dn,?_,Nat.le_refl _⟩,(fun r h=>nomatch h),?_⟩
    ·have hr:r < n:=hr
     have hv:te.zero[j]?=some v:=hv
     have J:=z2 r hr j v hv
     simp only [Loc.at,World.cell?,Nat.zero_add]
     rw [dn]
     simp only [Option.isSome_none,Bool.false_eq_true,if_false]
     rw [← Co.len]
     simpa using J
    ·simp [z1,Co.len]
    ·show w.heap.size < (w.heap.push _).size
     simp
   ·have:=ao.ptr (ν:=ν.add aE ⟨w.heap.size,0,te.size,n⟩) aE 0 none _ Nu.add_same
    simpa [Loc.at] using this
  ·exact iw h
 ·exact iw h
theorem aaM (hT:∀ t ti,tt t=some ti→ay P t ti) {t:TypeId} {x:Operand} (h:On tt tmps t x aE k):eG P (.box t x) tmps H aE k:=by
 obtain ⟨ti,ht,h⟩:=cI h
 obtain ⟨v,h,hv⟩:=cK h
 have h:=Ai h
 have a9:=hT _ _ ht
 split at h
 ·rename_i he
  obtain ⟨h1,J⟩:=xy he
  refine ⟨_,_,h,fun o ν a w r n ho ha hH hn next Q hN=>?_⟩
  have hc:=(hv ν a (ha x (by simp [Op.operands]))).cells
  refine jm (w':={ w with heap:=w.heap.push (.cells (a.eval x).cells t) }) (v':=.pointer (some ⟨w.heap.size,0,none⟩)) (by simp [ho]) ?_ next Q (hN _ _ (ν.add aE ⟨w.heap.size,0,ti.size,1⟩) (mw hn (LN hn h1 hc J w t) (xH _ _) (Nat.le_refl _) ?_))
  ·simp [execOp,ho,Instr.box,newVar,newRow]
  ·have:=ao.ptr (ν:=ν.add aE ⟨w.heap.size,0,ti.size,1⟩) aE 0 none _ Nu.add_same
   simpa [Loc.at] using this
 ·exact h.elim
theorem K4 {ag:Bool} {cs:List Value} {k:Value→Prop} (h:Cl ag cs k):k (valOf ag cs):=by
 unfold Cl at h
 split at h
 ·exact h
 ·exact vm h
 ·exact h
theorem D9 {ν:Nu} {ag:Bool} {cs dW:List Value} (h:bc ν cs dW):ao ν (valOf ag cs) (if ag then .agg ⟨dW⟩ else dW.getD 0 undef):=by
 cases ag with
 | true=>exact .agg _ _ h.1 h.2
 | false =>
  cases cs with
  | nil=>rw [h.iC]; exact .undef ν
  | cons v l=>obtain ⟨y,ys,rfl,h1,_⟩:=h.iQ; exact h1
/-- A stretch of a row, read in the real memory. -/
theorem Kg {l:Loc} {b:ah} (hb:bN ν l b w) {row off sz:Nat} {vs:List Value} (hr:row < b.n) (hl:vs.length=sz) (hv:∀ j v,vs[j]?=some v→(b.row row)[off+j]?=some v) :
  ∃ fA,bc ν vs fA∧fA.length=sz∧∀ j v,fA[j]?=some v→w.cell? ((l.at row off).add j)=some v:=by
 have key:∀ (vs:List Value) (off:Nat),(∀ j v,vs[j]?=some v→(b.row row)[off+j]?=some v)→∃ fA,bc ν vs fA∧∀ j v,fA[j]?=some v→w.cell? ((l.at row off).add j)=some v:=by
  intro vs
  induction vs with
  | nil=>exact fun _ _=>⟨[],.nil ν,fun j v hj=>by simp at hj⟩
  | cons v vs ih =>
   intro off hv
   obtain ⟨v',h1,J⟩:=hb.cell row hr off v (by have:=hv 0 v rfl; simpa using this)
   obtain ⟨fA,h3,h4⟩:=ih (off+1) (fun j u hu=>by have:=hv (j+1) u (by simpa using hu); rwa [show off+(j+1)=off+1+j by omega] at this)
   refine ⟨v'::fA,.cons J h3,fun j u hu=>?_⟩
   cases j with
   | zero=>rw [Loc.jt]; simp at hu; subst hu; simpa using h1
   | succ j=>have:=h4 j u (by simpa using hu); rw [Loc.jt] at this ⊢; rwa [show off+(j+1)=off+1+j by omega]
 obtain ⟨fA,h1,J⟩:=key vs off hv
 exact ⟨fA,h1,by rw [← h1.1,hl],J⟩
theorem MA (hT:∀ t ti,tt t=some ti→ay P t ti) {t:TypeId} {x:Operand} (h:Gy tt tmps H t x k):rP P (.load t x) tmps H k:=by
 obtain ⟨av,h,hv⟩:=cK h
 split at h
 ·rename_i id row sp
  obtain ⟨ti,ht,h⟩:=cI h
  obtain ⟨b,hb,h⟩:=gl h
  obtain ⟨hr,h⟩:=K1 h
  have h:=LK h
  obtain ⟨vs,h,hl,fe⟩:=xF h
  have h:=K4 h
  refine .value (by simp) h fun o ν a w ho ha hH=>?_
  obtain ⟨l,oI,hB⟩:=hH.aH id b hb
  obtain ⟨l',iK,he⟩:=(hv ν a (ha x (by simp [Op.operands]))).og
  rw [oI] at iK; cases iK
  obtain ⟨fA,h1,J,h3⟩:=Kg hB hr hl fe
  exact ⟨_,D9 h1,by simp [execOp,ho,Instr.loadAt,he,Instr.sureAddr,Jw (hT _ _ ht) J h3]⟩
 ·exact h.elim
theorem Yx (hT:∀ t ti,tt t=some ti→ay P t ti) {t:TypeId} {x:Operand} (h:Gy tt tmps H t x k):eG P (.load t x) tmps H aE k:=(MA hT h).ok
theorem Rd (hT:∀ t ti,tt t=some ti→ay P t ti) {t:TypeId} {x:Operand} {f:Nat} (h:Kd tt tmps t x f k):eG P (.fieldAddr t x f) tmps H aE k:=by
 obtain ⟨av,h,hv⟩:=cK h
 split at h
 ·rename_i id row sp
  obtain ⟨ti,ht,h⟩:=cI h
  split at h
  ·rename_i fs hk
   obtain ⟨x',p5,h⟩:=Aj h
   have h:=LK h
   obtain ⟨d,hu,hd⟩:=(hT _ _ ht).under
   rw [hk] at hd
   obtain ⟨fields,rfl,aT,hf⟩:=hd
   have ak:f < fields.size:=by rw [aT]; exact (List.getElem?_eq_some_iff.1 p5).1
   have jE:fields[f]?=some fields[f]:=Array.getElem?_eq_getElem ak
   obtain ⟨h1,J,⟨i,h3,h4⟩,_⟩:=hf f _ _ jE p5
   refine .value (by simp) h fun o ν a w ho ha hH=>?_
   obtain ⟨l,hl,he⟩:=(hv ν a (ha x (by simp [Op.operands]))).og
   refine ⟨.pointer (some (l.at row (sp.getD 0+x'.1))),.ptr _ _ (some _) _ hl,?_⟩
   have aI:¬ (i.size=0):=by omega
   simp [execOp,ho,Instr.fieldAt,dq hu,jE,he,Instr.sureAddr,fieldPlace,fR h3,aI,h1,Loc.jt]
  ·exact h.elim
 ·exact h.elim
theorem EY {P:Program} {f:Field} {x:Nat × Nat × Bool} (hf:xY P f x) {cs vs:List Value} (hl:vs.length=x.2.1) (hv:∀ j v,vs[j]?=some v→cs[x.1+j]?=some v) (w:World) :
  (part f.type ⟨cs⟩ f.offset).run P w=.ok (if x.2.2 then .agg ⟨vs⟩ else vs.getD 0 undef) w:=by
 obtain ⟨h1,J,⟨i,h3,h4⟩,d,h5,h6⟩:=hf
 unfold part
 simp only [Sem.run_bind,K0 h5,Result.andThen_ok,Sem.run_ite,h6]
 split
 ·simp only [Sem.run_bind,fR h3,Result.andThen_ok,h1,h4,← hl,Sem.run_pure]
  congr 2
  apply Array.ext'
  simp only [Array.toList_extract]
  apply List.ext_getElem?
  intro j
  by_cases hj:j < vs.length
  ·have:=hv j vs[j] (List.getElem?_eq_getElem hj)
   simp [List.extract,List.getElem?_take,List.getElem?_drop,hj,this]
  ·rw [List.getElem?_eq_none (by omega:vs.length≤j)]
   simp [List.extract,List.getElem?_take,hj]
 ·cases vs with
  | nil=>simp at hl; omega
  | cons v l =>
   have:=hv 0 v rfl
   simp only [Nat.add_zero] at this
   simp [h1,this]
theorem VK (hT:∀ t ti,tt t=some ti→ay P t ti) {t:TypeId} {x:Operand} {f:Nat} (h:Nh tt tmps t x f k):eG P (.field t x f) tmps H aE k:=by
 obtain ⟨av,h,hv⟩:=cK h
 split at h
 ·rename_i cs
  obtain ⟨ti,ht,h⟩:=cI h
  split at h
  ·rename_i fs hk
   obtain ⟨x',p5,h⟩:=Aj h
   obtain ⟨vs,h,hl,fe⟩:=xF h
   have h:=K4 h
   obtain ⟨d,hu,hd⟩:=(hT _ _ ht).under
   rw [hk] at hd
   obtain ⟨fields,rfl,aT,hf⟩:=hd
   have ak:f < fields.size:=by rw [aT]; exact (List.getElem?_eq_some_iff.1 p5).1
   have jE:fields[f]?=some fields[f]:=Array.getElem?_eq_getElem ak
   have a9:=hf f _ _ jE p5
   refine .value (by simp) h fun o ν a w ho ha hH=>?_
   obtain ⟨ys,he,hy⟩:=ao.tE (xs:=cs.toList) (hv ν a (ha x (by simp [Op.operands])))
   -- the same stretch of the real cells
   have acp:∃ fA,bc ν vs fA∧fA.length=x'.2.1∧∀ j v,fA[j]?=some v→ys[x'.1+j]?=some v:=by
    refine ⟨(ys.drop x'.1).take vs.length,⟨?_,fun j a b ha hb=>?_⟩,?_,fun j v hj=>?_⟩
    ·rw [List.length_take,List.length_drop]
     have:∀ m,m < vs.length→x'.1+m < cs.toList.length:=fun m hm=>(List.getElem?_eq_some_iff.1 (fe m _ (List.getElem?_eq_getElem hm))).1
     have h0:=hy.1
     by_cases y8:vs.length=0
     ·omega
     ·have:=this (vs.length - 1) (by omega); omega
    ·rw [List.getElem?_take,List.getElem?_drop] at hb
     split at hb
     ·exact hy.2 _ a b (fe j a ha) hb
     ·cases hb
    ·rw [List.length_take,List.length_drop,hl]
     have:∀ m,m < vs.length→x'.1+m < cs.toList.length:=fun m hm=>(List.getElem?_eq_some_iff.1 (fe m _ (List.getElem?_eq_getElem hm))).1
     have h0:=hy.1
     have hp:=a9.2.1
     have:=this (vs.length - 1) (by omega); omega
    ·rw [List.getElem?_take,List.getElem?_drop] at hj
     split at hj
     ·exact hj
     ·cases hj
   obtain ⟨fA,h1,J,h3⟩:=acp
   exact ⟨_,D9 h1,by simp [execOp,ho,Instr.field,dq hu,jE,he,asAgg,EY a9 J h3]⟩
  ·exact h.elim
 ·exact h.elim
theorem S0 {x:Operand} {ix:Nat} (h:EW tmps x ix k):eG P (.extract x ix) tmps H aE k:=by
 obtain ⟨v,h,hv⟩:=cK h
 split at h
 ·rename_i vs
  obtain ⟨u,h1,J⟩:=n6 h
  refine .value (by simp) J fun o ν a w ho ha hH=>?_
  obtain ⟨ys,he,hy⟩:=ao.nj (xs:=vs.toList) (hv ν a (ha x (by simp [Op.operands])))
  obtain ⟨u',h3,h4⟩:=hy.get h1
  exact ⟨_,h4,by simp [execOp,ho,he,Instr.extract,h3]⟩
 ·exact h.elim
theorem RE {fn:Fn} {f c:Array Operand} (h:K2 tmps fn f.toList c.toList k):eG P (.makeFunc fn f c) tmps H aE k:=by
 obtain ⟨vs,h,h1⟩:=Aw h
 obtain ⟨us,h,J⟩:=Aw h
 refine .value (by simp) h fun o ν a w ho ha hH=>?_
 have h1:=h1 ν a (fun x hx=>ha x (by simp [Op.operands]; exact .inl (by simpa using hx)))
 have J:=J ν a (fun x hx=>ha x (by simp [Op.operands]; exact .inr (by simpa using hx)))
 refine ⟨.func fn ⟨f.toList.map a.eval⟩ ⟨c.toList.map a.eval⟩,.func fn _ _ _ _ h1.1 h1.2 J.1 J.2,?_⟩
 simp only [execOp,ho,Instr.makeFunc]
 have e1:f.map a.eval=⟨f.toList.map a.eval⟩:=by apply Array.ext'; simp
 have e2:c.map a.eval=⟨c.toList.map a.eval⟩:=by apply Array.ext'; simp
 rw [e1,e2]; rfl
theorem acq {op:UnOp} {t:TypeId} {x:Operand} (h:Pe tmps op x k):eG P (.unOp op t x) tmps H aE k:=by
 obtain ⟨v,h,hv⟩:=cK h
 split at h
 ·refine .value (by simp) h fun o ν a w ho ha hH=>⟨_,.int _ _,?_⟩
  have hv:=(hv ν a (ha x (by simp [Op.operands]))).fu
  simp [execOp,ho,hv,Op.unary,Op.intArith]
 ·refine .value (by simp) h fun o ν a w ho ha hH=>⟨_,.bool _,?_⟩
  have hv:=(hv ν a (ha x (by simp [Op.operands]))).jM
  simp [execOp,ho,hv,Op.unary]
 ·rename_i q m
  split at h
  ·rename_i u hu
   have h:=vm h
   split at h
   ·rename_i hs
    refine .value (by simp) h fun o ν a w ho ha hH=>⟨_,ao.kh hs,?_⟩
    have hv:=(hv ν a (ha x (by simp [Op.operands]))).fu
    simp [execOp,ho,hv,Op.unary,hu]
   ·exact h.elim
  ·exact h.elim
 ·exact h.elim
end
end Go.Ae
/- The abstract operations stand for the model's: slices that are made and cut, strings and bytes. -/
namespace Go.Ae
open Go Go.RowKit
section
variable {P:Program} {tt:TT} {w:World} {ν:Nu} {aE:Nat} {k:QK} {tmps:List Value} {H:ax}
theorem ao.s6 {ν:Nu} {id row m c:Nat} {x:Value} (h:ao ν (.slice (some ⟨id,row,none⟩) m c) x) :
  (∃ l c',ν id=some l∧(c'=c∨c=aJ)∧m≤c'∧row+c'≤l.cap∧x=.slice (some (l.at row 0)) m c')∨(m=0∧(0=c∨c=aJ)∧∃ b,x=.slice (some b) 0 0):=by
 cases h with
 | slice _ _ _ _ c' l h hc hn hr=>exact .inl ⟨l,c',h,hc,hn,hr,rfl⟩
 | void _ _ _ b hc=>exact .inr ⟨rfl,hc,b,rfl⟩
theorem ao.Nk {ν:Nu} {id row b0 m c:Nat} {x:Value} (h:ao ν (.slice (some ⟨id,row,some b0⟩) m c) x) :
  (∃ l c',ν id=some l∧b0≤c'∧m≤c'∧row+c'≤l.cap∧x=.slice (some (l.at row 0)) m c')∨(m=0∧b0=0∧∃ b,x=.slice (some b) 0 0):=by
 cases h with
 | lg _ _ _ _ c' l h hm hn hr=>exact .inl ⟨l,c',h,hm,hn,hr,rfl⟩
 | ku _ _ a=>exact .inr ⟨rfl,rfl,a,rfl⟩
theorem ao.VL {ν:Nu} {id row b0 m c:Nat} {x:Value} (h:ao ν (.slice (some ⟨id,row,some b0⟩) m c) x) :
  (∃ l c',ν id=some l∧b0≤c'∧m≤c'∧row+c'≤l.cap∧c=aJ∧x=.slice (some (l.at row 0)) m c')∨(m=0∧b0=0∧c=aJ∧∃ b,x=.slice (some b) 0 0):=by
 cases h with
 | lg _ _ _ _ c' l h hm hn hr=>exact .inl ⟨l,c',h,hm,hn,hr,rfl,rfl⟩
 | ku _ _ a=>exact .inr ⟨rfl,rfl,rfl,a,rfl⟩
theorem ao.Bv {ν:Nu} {id row m c:Nat} {sp:Option Nat} {x:Value} (h:ao ν (.slice (some ⟨id,row,sp⟩) m c) x) :
  (∃ l c',ν id=some l∧m≤c'∧row+c'≤l.cap∧x=.slice (some (l.at row 0)) m c')∨(m=0∧∃ b,x=.slice (some b) 0 0):=by
 cases h with
 | slice _ _ _ _ c' l h hc hn hr=>exact .inl ⟨l,c',h,hn,hr,rfl⟩
 | void _ _ _ b hc=>exact .inr ⟨rfl,b,rfl⟩
 | lg _ _ _ _ c' l h hm hn hr=>exact .inl ⟨l,c',h,hn,hr,rfl⟩
 | ku _ _ a=>exact .inr ⟨rfl,a,rfl⟩
theorem ao.o9 {ν:Nu} {x:Value} (h:ao ν (.slice none 0 0) x):x=.slice none 0 0:=by cases h; rfl
theorem lL {x:Option Operand} {d:Int} {k:Int→Prop} (h:kT tmps x d k):∃ n,k n∧∀ (ν:Nu) (a:Act),(∀ y∈x.toArray,eW ν tmps a y)→(x=none∧n=d)∨∃ q,x.map a.eval=some (.int q n):=by
 cases x with
 | none=>exact ⟨d,h,fun ν a _=>.inl ⟨rfl,rfl⟩⟩
 | some x =>
  obtain ⟨v,h,hv⟩:=cK h
  split at h
  ·rename_i q n
   exact ⟨n,h,fun ν a ha=>.inr ⟨q,by simp [(hv ν a (ha x (by simp))).fu]⟩⟩
  ·exact h.elim
theorem vC {q:IntKind} {n:Int} {y:Nat} {code:BoundsCode} (h0:0≤n) (h1:n≤y) (w:World):(Instr.sliceBound (.int q n) y code).run P w=.ok n.toNat w:=by
 simp [Instr.sliceBound,asIntOf,h0,h1]
/-- The three bounds of a slice expression. -/
theorem n5 {len cap:Nat} {lo hi mx:Option Value} {l h m:Int} (hl:(lo=none∧l=0)∨∃ q,lo=some (.int q l)) (hh:(hi=none∧h=(len:Int))∨∃ q,hi=some (.int q h))
  (hm:(mx=none∧m=(cap:Int))∨((∃ q,mx=some (.int q m))∧∃ v,hi=some v)) (b0:0≤l) (b1:l≤h) (b2:h≤m) (b3:m≤cap) (gI:Bool) (w:World) :
  (Instr.sliceBounds gI len cap lo hi mx).run P w=.ok (l.toNat,h.toNat,m.toNat) w:=by
 unfold Instr.sliceBounds
 rcases hm with ⟨rfl,rfl⟩ | ⟨⟨q,rfl⟩,v,rfl⟩
 ·rcases hh with ⟨rfl,rfl⟩ | ⟨q,rfl⟩
  ·rcases hl with ⟨rfl,rfl⟩ | ⟨q,rfl⟩
   ·simp
   ·simp [vC (P:=P) (q:=q) (n:=l) (y:=len) b0 (by omega)]
  ·have e:=vC (P:=P) (q:=q) (n:=h) (y:=cap) (code:=if gI then .sliceAcap else .sliceAlen) (by omega) (by omega) w
   rcases hl with ⟨rfl,rfl⟩ | ⟨q',rfl⟩
   ·simp [e]
   ·simp [e,vC (P:=P) (q:=q') (n:=l) (y:=h.toNat) b0 (by omega)]
 ·rcases hh with ⟨h',_⟩ | ⟨q',h'⟩
  ·cases h'
  ·cases h'
   have e0:=vC (P:=P) (q:=q) (n:=m) (y:=cap) (code:=if gI then .slice3Acap else .slice3Alen) (by omega) (by omega) w
   have e:=vC (P:=P) (q:=q') (n:=h) (y:=m.toNat) (code:=.slice3B) (by omega) (by omega) w
   rcases hl with ⟨rfl,rfl⟩ | ⟨q',rfl⟩
   ·simp [e0,e]
   ·simp [e0,e,vC (P:=P) (q:=q') (n:=l) (y:=h.toNat) b0 (by omega)]
theorem Jx (hT:∀ t ti,tt t=some ti→ay P t ti) {t:TypeId} {x:Operand} {lo hi mx:Option Operand} (h:F7 tt tmps H t x lo hi mx k):∃ v,k v none∧∀ (bh:Nu) (w0:World),bR bh H w0→pF P bh (.slice t x lo hi mx) tmps v:=by
 obtain ⟨xv,J,hx⟩:=cK h
 clear h
 obtain ⟨ti,ht,h⟩:=cI J
 clear J
 obtain ⟨d,hu,hd⟩:=(hT _ _ ht).under
 have mem:∀ (o:Option Operand) y,(o=lo∨o=hi∨o=mx)→y∈o.toArray→y∈(Op.slice t x lo hi mx).operands:=by
  intro o y ho hy
  simp only [Op.operands,Array.mem_append]
  rcases ho with rfl | rfl | rfl
  ·exact .inl (.inl (.inr hy))
  ·exact .inl (.inr hy)
  ·exact .inr hy
 have ui:x∈(Op.slice t x lo hi mx).operands:=by simp [Op.operands]
 split at h
 ·rename_i s hk
  rw [hk] at hd
  have hd:d=.string:=hd
  subst hd
  split at h
  ·obtain ⟨l,h,hl⟩:=lL h
   obtain ⟨hh,h,jc⟩:=lL h
   obtain ⟨⟨b0,b1,b2⟩,h⟩:=h
   refine ⟨_,h,fun bh w0 hH=>⟨by simp,fun o ν a w hle ho ha=>⟨_,.str _,?_⟩⟩⟩
   have hx:=(hx ν a (ha x ui)).rr
   have e1:=hl ν a (fun y hy=>ha y (mem _ y (.inl rfl) hy))
   have e2:=jc ν a (fun y hy=>ha y (mem _ y (.inr (.inl rfl)) hy))
   have:=n5 (P:=P) (len:=s.size) (cap:=s.size) (lo:=lo.map a.eval) (hi:=hi.map a.eval) (mx:=none) (l:=l) (h:=hh) (m:=s.size) (e1.imp (fun ⟨p,q⟩=>⟨by rw [p]; rfl,q⟩) (fun x=>x)) (e2.imp (fun ⟨p,q⟩=>⟨by rw [p]; rfl,q⟩) (fun x=>x)) (.inl ⟨rfl,rfl⟩) b0 b1 b2 (Int.le_refl _) false w
   simp [execOp,ho,Instr.sliceAt,dq hu,Instr.slice,hx,this]
  ·exact h.elim
 ·rename_i e id row n c hk
  rw [hk] at hd
  have hd:d=.slice e:=hd
  subst hd
  obtain ⟨te,he,J⟩:=cI h
  clear h
  obtain ⟨b,hb,h⟩:=gl J
  clear J
  obtain ⟨ei,ff,iL,_⟩:=(hT _ _ he).info
  split at h
  ·rename_i hq
   have hq:b.ae=te.size:=Nat.eq_of_beq_eq_true hq
   -- what both forms come to
   have fin:∀ (o:Oper) (ν:Nu) (a:Act) (w:World) (l hh m:Int) (c1:Nat),o.op=.slice t x lo hi mx→(∀ x'∈(Op.slice t x lo hi mx).operands,eW ν tmps a x')→∀ (bh:Nu) (w0:World),bR bh H w0→bh.le ν →
     (∀ (lv hv:Nat) (c':Nat),n≤c'→(c'=c∨c=aJ)→∃ mm:Int,(Instr.sliceBounds true n c' (lo.map a.eval) (hi.map a.eval) (mx.map a.eval)).run P w=.ok (l.toNat,hh.toNat,mm.toNat) w∧hh.toNat≤mm.toNat∧mm.toNat≤c'∧(mm.toNat - l.toNat=c1∨c1=aJ)) →
     0≤l→l≤hh→hh≤n →
     ∃ v',ao ν (.slice (some ⟨id,eM row l.toNat,none⟩) (hh.toNat - l.toNat) c1) v'∧(execOp a.eval o).run P w=.ok (.value v') w:=by
    intro o ν a w l hh m c1 ho ha bh w0 hH hle Pf b0 b1 b2
    obtain ⟨l0,dX,hB⟩:=hH.aH id b hb
    have dX:=hle _ _ dX
    rcases (hx ν a (ha x ui)).s6 with ⟨lc,c',dy,hc,hn,hr,b9⟩ | ⟨hn,hc,bb,b9⟩
    ·rw [dX] at dy; cases dy
     obtain ⟨mm,bA,m1,m2,m3⟩:=Pf 0 0 c' hn hc
     by_cases hz:mm.toNat=l.toNat
     ·have e0:hh.toNat - l.toNat=0:=by omega
      refine ⟨.slice (some (l0.at row 0)) 0 0,?_,?_⟩
      ·rw [e0]; exact .void _ _ _ _ (m3.imp (fun h=>by omega) (fun h=>h))
      ·simp [execOp,ho,Instr.sliceAt,dq hu,Instr.slice,b9,bA,fR ff,hz,e0]
     ·refine ⟨.slice (some (l0.at (row+l.toNat) 0)) (hh.toNat - l.toNat) (mm.toNat - l.toNat),?_,?_⟩
      ·rw [ar]; exact .slice _ _ _ _ _ l0 dX m3 (by omega) (by omega)
      ·have kv:(l0.at row 0).add (l.toNat*ei.size)=l0.at (row+l.toNat) 0:=by
        rw [Loc.jt]
        unfold Loc.at
        congr 1
        rw [iL,← hq,← hB.ae,Nat.add_mul]; omega
       simp [execOp,ho,Instr.sliceAt,dq hu,Instr.slice,b9,bA,fR ff,hz,kv]
    ·obtain ⟨mm,bA,m1,m2,m3⟩:=Pf 0 0 0 (by omega) (hc.imp (fun h=>h) (fun h=>h))
     have e0:hh.toNat - l.toNat=0:=by omega
     have e1:mm.toNat - l.toNat=0:=by omega
     have e2:l.toNat=0:=by omega
     have e3:mm.toNat=0:=by omega
     have e4:hh.toNat=0:=by omega
     refine ⟨.slice (some bb) 0 0,?_,?_⟩
     ·rw [e0]; exact .void _ _ _ _ (m3.imp (fun h=>by omega) (fun h=>h))
     ·rw [e2,e3,e4] at bA
      subst hn
      simp [execOp,ho,Instr.sliceAt,dq hu,Instr.slice,b9,bA,fR ff]
   split at h
   ·obtain ⟨l,h,hl⟩:=lL h
    obtain ⟨hh,h,jc⟩:=lL h
    obtain ⟨⟨b0,b1,b2⟩,h⟩:=h
    refine ⟨_,h,fun bh w0 hH=>⟨by simp,fun o ν a w hle ho ha=>fin o ν a w l hh 0 _ ho ha bh w0 hH hle (fun _ _ c' hn hc=>⟨c',?_,by omega,by omega,?_⟩) b0 b1 b2⟩⟩
    ·have e1:=hl ν a (fun y hy=>ha y (mem _ y (.inl rfl) hy))
     have e2:=jc ν a (fun y hy=>ha y (mem _ y (.inr (.inl rfl)) hy))
     exact n5 (P:=P) (e1.imp (fun ⟨p,q⟩=>⟨by rw [p]; rfl,q⟩) (fun x=>x)) (e2.imp (fun ⟨p,q⟩=>⟨by rw [p]; rfl,q⟩) (fun x=>x)) (.inl ⟨rfl,rfl⟩) b0 b1 (by omega) (Int.le_refl _) true w
    ·unfold tG
     by_cases fo:c=aJ
     ·right; simp [fo]
     ·left
      have:c'=c:=hc.resolve_right fo
      simp [fo,this]
   ·rename_i h0 m0
    obtain ⟨l,J,hl⟩:=lL h
    clear h
    obtain ⟨hv,h,jc⟩:=cK J
    clear J
    obtain ⟨mv,J,hm⟩:=cK h
    clear h
    have h:=J
    clear J
    split at h
    ·rename_i q1 hh q2 m
     obtain ⟨⟨b0,b1,b2,b3⟩,h⟩:=h
     refine ⟨_,h,fun bh w0 hH=>⟨by simp,fun o ν a w hle ho ha=>fin o ν a w l hh m _ ho ha bh w0 hH hle (fun _ _ c' hn hc=>⟨m,?_,by omega,by omega,.inl rfl⟩) b0 b1 (by omega)⟩⟩
     have e1:=hl ν a (fun y hy=>ha y (mem _ y (.inl rfl) hy))
     have e2:=(jc ν a (ha h0 (mem _ h0 (.inr (.inl rfl)) (by simp)))).fu
     have e3:=(hm ν a (ha m0 (mem _ m0 (.inr (.inr rfl)) (by simp)))).fu
     exact n5 (P:=P) (e1.imp (fun ⟨p,q⟩=>⟨by rw [p]; rfl,q⟩) (fun x=>x)) (.inr ⟨q1,by simp [e2]⟩)
      (.inr ⟨⟨q2,by simp [e3]⟩,_,rfl⟩) b0 b1 (by omega) (by omega) true w
    ·exact h.elim
   ·exact h.elim
  ·exact h.elim
 ·rename_i e id row b0 n c hk
  rw [hk] at hd
  have hd:d=.slice e:=hd
  subst hd
  obtain ⟨te,he,J⟩:=cI h
  clear h
  obtain ⟨b,hb,h⟩:=gl J
  clear J
  obtain ⟨ei,ff,iL,_⟩:=(hT _ _ he).info
  split at h
  ·rename_i hq
   have hq:b.ae=te.size:=Nat.eq_of_beq_eq_true hq
   split at h
   ·obtain ⟨l,h,hl⟩:=lL h
    obtain ⟨hh,h,jc⟩:=lL h
    obtain ⟨⟨k0,k1,k2⟩,h⟩:=h
    refine ⟨_,h,fun bh w0 hH=>⟨by simp,fun o ν a w hle ho ha=>?_⟩⟩
    obtain ⟨l0,dX,hB⟩:=hH.aH id b hb
    have dX:=hle _ _ dX
    have e1:=hl ν a (fun y hy=>ha y (mem _ y (.inl rfl) hy))
    have e2:=jc ν a (fun y hy=>ha y (mem _ y (.inr (.inl rfl)) hy))
    rcases (hx ν a (ha x ui)).Nk with ⟨lc,c',dy,oJ,hn,hr,b9⟩ | ⟨hn,gJ,bb,b9⟩
    ·rw [dX] at dy; cases dy
     have bA:=n5 (P:=P) (len:=n) (cap:=c') (lo:=lo.map a.eval) (hi:=hi.map a.eval) (mx:=none) (l:=l) (h:=hh) (m:=c') (e1.imp (fun ⟨p,q⟩=>⟨by rw [p]; rfl,q⟩) (fun x=>x)) (e2.imp (fun ⟨p,q⟩=>⟨by rw [p]; rfl,q⟩) (fun x=>x)) (.inl ⟨rfl,rfl⟩) k0 k1 (by omega) (Int.le_refl _) true w
     rw [Int.toNat_natCast] at bA
     by_cases hz:c'=l.toNat
     ·have e0:hh.toNat - l.toNat=0:=by omega
      have e3:b0 - l.toNat=0:=by omega
      refine ⟨.slice (some (l0.at row 0)) 0 0,?_,?_⟩
      ·rw [e0,e3]; exact .ku _ _ _
      ·simp [execOp,ho,Instr.sliceAt,dq hu,Instr.slice,b9,bA,fR ff,hz.symm,← hz]
       first | done | omega
     ·refine ⟨.slice (some (l0.at (row+l.toNat) 0)) (hh.toNat - l.toNat) (c' - l.toNat),?_,?_⟩
      ·rw [ar]; exact .lg _ _ _ _ _ l0 dX (by omega) (by omega) (by omega)
      ·have kv:(l0.at row 0).add (l.toNat*ei.size)=l0.at (row+l.toNat) 0:=by
        rw [Loc.jt]
        unfold Loc.at
        congr 1
        rw [iL,← hq,← hB.ae,Nat.add_mul]; omega
       simp [execOp,ho,Instr.sliceAt,dq hu,Instr.slice,b9,bA,fR ff,hz,kv]
    ·have bA:=n5 (P:=P) (len:=n) (cap:=0) (lo:=lo.map a.eval) (hi:=hi.map a.eval) (mx:=none) (l:=l) (h:=hh) (m:=(0:Nat)) (e1.imp (fun ⟨p,q⟩=>⟨by rw [p]; rfl,q⟩) (fun x=>x)) (e2.imp (fun ⟨p,q⟩=>⟨by rw [p]; rfl,q⟩) (fun x=>x)) (.inl ⟨rfl,rfl⟩) k0 k1 (by omega) (Int.le_refl _) true w
     have e2:l.toNat=0:=by omega
     have e4:hh.toNat=0:=by omega
     refine ⟨.slice (some bb) 0 0,?_,?_⟩
     ·rw [e4,e2,gJ]; exact .ku _ _ _
     ·rw [e2,e4] at bA
      subst hn
      simp [execOp,ho,Instr.sliceAt,dq hu,Instr.slice,b9,bA,fR ff]
   ·rename_i h0 m0
    obtain ⟨l,J,hl⟩:=lL h
    clear h
    obtain ⟨hv,h,jc⟩:=cK J
    clear J
    obtain ⟨mv,J,hm⟩:=cK h
    clear h
    have h:=J
    clear J
    split at h
    ·rename_i q1 hh q2 m
     obtain ⟨⟨k0,k1,k2,k3⟩,h⟩:=h
     refine ⟨_,h,fun bh w0 hH=>⟨by simp,fun o ν a w hle ho ha=>?_⟩⟩
     obtain ⟨l0,dX,hB⟩:=hH.aH id b hb
     have dX:=hle _ _ dX
     have e1:=hl ν a (fun y hy=>ha y (mem _ y (.inl rfl) hy))
     have e2:=(jc ν a (ha h0 (mem _ h0 (.inr (.inl rfl)) (by simp)))).fu
     have e3:=(hm ν a (ha m0 (mem _ m0 (.inr (.inr rfl)) (by simp)))).fu
     rcases (hx ν a (ha x ui)).Nk with ⟨lc,c',dy,oJ,hn,hr,b9⟩ | ⟨hn,gJ,bb,b9⟩
     ·rw [dX] at dy; cases dy
      have bA:=n5 (P:=P) (len:=n) (cap:=c') (lo:=lo.map a.eval) (hi:=some (a.eval h0)) (mx:=some (a.eval m0)) (l:=l) (h:=hh) (m:=m) (e1.imp (fun ⟨p,q⟩=>⟨by rw [p]; rfl,q⟩) (fun x=>x)) (.inr ⟨q1,by rw [e2]⟩) (.inr ⟨⟨q2,by rw [e3]⟩,_,rfl⟩) k0 k1 (by omega) (by omega) true w
      by_cases hz:m.toNat=l.toNat
      ·have e0:hh.toNat - l.toNat=0:=by omega
       have e4:m.toNat - l.toNat=0:=by omega
       refine ⟨.slice (some (l0.at row 0)) 0 0,?_,?_⟩
       ·rw [e0,e4]; exact .void _ _ _ _ (.inl rfl)
       ·simp [execOp,ho,Instr.sliceAt,dq hu,Instr.slice,b9,bA,fR ff,hz,e0]
      ·refine ⟨.slice (some (l0.at (row+l.toNat) 0)) (hh.toNat - l.toNat) (m.toNat - l.toNat),?_,?_⟩
       ·rw [ar]; exact .slice _ _ _ _ _ l0 dX (.inl rfl) (by omega) (by omega)
       ·have kv:(l0.at row 0).add (l.toNat*ei.size)=l0.at (row+l.toNat) 0:=by
         rw [Loc.jt]
         unfold Loc.at
         congr 1
         rw [iL,← hq,← hB.ae,Nat.add_mul]; omega
        simp [execOp,ho,Instr.sliceAt,dq hu,Instr.slice,b9,bA,fR ff,hz,kv]
     ·have bA:=n5 (P:=P) (len:=n) (cap:=0) (lo:=lo.map a.eval) (hi:=some (a.eval h0)) (mx:=some (a.eval m0)) (l:=l) (h:=hh) (m:=m) (e1.imp (fun ⟨p,q⟩=>⟨by rw [p]; rfl,q⟩) (fun x=>x)) (.inr ⟨q1,by rw [e2]⟩) (.inr ⟨⟨q2,by rw [e3]⟩,_,rfl⟩) k0 k1 (by omega) (by omega) true w
      have e5:l.toNat=0:=by omega
      have e6:hh.toNat=0:=by omega
      have e7:m.toNat=0:=by omega
      refine ⟨.slice (some bb) 0 0,?_,?_⟩
      ·rw [e5,e6,e7]; exact .void _ _ _ _ (.inl rfl)
      ·rw [e5,e6,e7] at bA
       subst hn
       simp [execOp,ho,Instr.sliceAt,dq hu,Instr.slice,b9,bA,fR ff]
    ·exact h.elim
   ·exact h.elim
  ·exact h.elim
 ·rename_i n e id row hk
  rw [hk] at hd
  have hd:d=.array n e:=hd
  subst hd
  obtain ⟨te,he,J⟩:=cI h
  clear h
  obtain ⟨b,hb,h⟩:=gl J
  clear J
  obtain ⟨ei,ff,iL,_⟩:=(hT _ _ he).info
  split at h
  ·rename_i hq
   have hq:b.ae=te.size:=Nat.eq_of_beq_eq_true hq
   split at h
   ·obtain ⟨l,h,hl⟩:=lL h
    obtain ⟨hh,h,jc⟩:=lL h
    obtain ⟨⟨b0,b1,b2,b3,b4⟩,h⟩:=h
    refine ⟨_,h,fun bh w0 hH=>⟨by simp,fun o ν a w hle ho ha=>?_⟩⟩
    obtain ⟨l0,dX,hB⟩:=hH.aH id b hb
    have dX:=hle _ _ dX
    obtain ⟨lp,Pg,b9⟩:=(hx ν a (ha x ui)).og
    rw [dX] at Pg; cases Pg
    have b9:a.eval x=.pointer (some (l0.at row 0)):=b9
    obtain ⟨_,_,_,_,fx⟩:=hB.own (ah.cQ b4).1 (ah.cQ b4).2
    have e1:=hl ν a (fun y hy=>ha y (mem _ y (.inl rfl) hy))
    have e2:=jc ν a (fun y hy=>ha y (mem _ y (.inr (.inl rfl)) hy))
    have bA:=n5 (P:=P) (len:=n) (cap:=n) (lo:=lo.map a.eval) (hi:=hi.map a.eval) (mx:=none) (l:=l) (h:=hh) (m:=n) (e1.imp (fun ⟨p,q⟩=>⟨by rw [p]; rfl,q⟩) (fun x=>x)) (e2.imp (fun ⟨p,q⟩=>⟨by rw [p]; rfl,q⟩) (fun x=>x)) (.inl ⟨rfl,rfl⟩) b0 b1 b2 (Int.le_refl _) false w
    rw [Int.toNat_natCast] at bA
    by_cases hz:n=l.toNat
    ·have e0:hh.toNat - l.toNat=0:=by omega
     have e3:n - l.toNat=0:=by omega
     refine ⟨.slice (some (l0.at row 0)) 0 0,?_,?_⟩
     ·rw [e0,e3]; exact .void _ _ _ _ (.inl rfl)
     ·simp [execOp,ho,Instr.sliceAt,dq hu,Instr.sureAddr,b9,bA,fR ff,hz.symm,← hz,e0]
      first | done | omega
    ·refine ⟨.slice (some (l0.at (row+l.toNat) 0)) (hh.toNat - l.toNat) (n - l.toNat),?_,?_⟩
     ·rw [ar]; exact .slice _ _ _ _ _ l0 dX (.inl rfl) (by omega) (by omega)
     ·have kv:(l0.at row 0).add (l.toNat*ei.size)=l0.at (row+l.toNat) 0:=by
       rw [Loc.jt]
       unfold Loc.at
       congr 1
       rw [iL,← hq,← hB.ae,Nat.add_mul]; omega
      simp [execOp,ho,Instr.sliceAt,dq hu,Instr.sureAddr,b9,bA,fR ff,hz,kv]
   ·exact h.elim
  ·exact h.elim
 ·rename_i e hk
  rw [hk] at hd
  have hd:d=.slice e:=hd
  subst hd
  obtain ⟨te,he,J⟩:=cI h
  clear h
  obtain ⟨ei,ff,iL,_⟩:=(hT _ _ he).info
  split at J
  ·obtain ⟨l,h,hl⟩:=lL J
   obtain ⟨hh,h,jc⟩:=lL h
   obtain ⟨⟨b0,b1,b2⟩,h⟩:=h
   refine ⟨_,h,fun bh w0 hH=>⟨by simp,fun o ν a w hle ho ha=>⟨_,.iY,?_⟩⟩⟩
   have hx:=(hx ν a (ha x ui)).o9
   have e1:=hl ν a (fun y hy=>ha y (mem _ y (.inl rfl) hy))
   have e2:=jc ν a (fun y hy=>ha y (mem _ y (.inr (.inl rfl)) hy))
   have:=n5 (P:=P) (len:=0) (cap:=0) (lo:=lo.map a.eval) (hi:=hi.map a.eval) (mx:=none) (l:=l) (h:=hh) (m:=0) (e1.imp (fun ⟨p,q⟩=>⟨by rw [p]; rfl,q⟩) (fun x=>x)) (e2.imp (fun ⟨p,q⟩=>⟨by rw [p]; rfl,q⟩) (fun x=>x)) (.inl ⟨rfl,rfl⟩) b0 b1 b2 (by omega) true w
   rw [show l.toNat=0 by omega,show hh.toNat=0 by omega] at this
   simp [execOp,ho,Instr.sliceAt,dq hu,Instr.slice,hx,this,fR ff]
  ·rename_i h0 m0
   obtain ⟨l,h,hl⟩:=lL J
   clear J
   obtain ⟨hv,J,jc⟩:=cK h
   clear h
   obtain ⟨mv,h,hm⟩:=cK J
   clear J
   split at h
   ·rename_i q1 hh q2 m
    obtain ⟨⟨b0,b1,b2,b3⟩,h⟩:=h
    refine ⟨_,h,fun bh w0 hH=>⟨by simp,fun o ν a w hle ho ha=>⟨_,.iY,?_⟩⟩⟩
    have hx:=(hx ν a (ha x ui)).o9
    have e1:=hl ν a (fun y hy=>ha y (mem _ y (.inl rfl) hy))
    have e2:=(jc ν a (ha h0 (mem _ h0 (.inr (.inl rfl)) (by simp)))).fu
    have e3:=(hm ν a (ha m0 (mem _ m0 (.inr (.inr rfl)) (by simp)))).fu
    have:=n5 (P:=P) (len:=0) (cap:=0) (lo:=lo.map a.eval) (hi:=some (a.eval h0)) (mx:=some (a.eval m0)) (l:=l) (h:=hh) (m:=m) (e1.imp (fun ⟨p,q⟩=>⟨by rw [p]; rfl,q⟩) (fun x=>x)) (.inr ⟨q1,by rw [e2]⟩)
     (.inr ⟨⟨q2,by rw [e3]⟩,_,rfl⟩) b0 b1 b2 (by omega) true w
    rw [show l.toNat=0 by omega,show hh.toNat=0 by omega,show m.toNat=0 by omega] at this
    simp [execOp,ho,Instr.sliceAt,dq hu,Instr.slice,hx,this,fR ff]
   ·exact h.elim
  ·exact J.elim
 ·exact h.elim
theorem VM (hT:∀ t ti,tt t=some ti→ay P t ti) {t:TypeId} {x:Operand} {lo hi mx:Option Operand} (h:F7 tt tmps H t x lo hi mx k):eG P (.slice t x lo hi mx) tmps H aE k:=by
 obtain ⟨v,hk,hp⟩:=Jx hT h
 exact .value (by simp) hk fun o ν a w ho ha hH=>(hp ν w hH).2 o ν a w ν.le_refl ho ha
end
end Go.Ae
/- The abstract operations stand for the model's, continued: indexes, arithmetic, conversions, lengths, structs, calls; and all of them together. -/
namespace Go.Ae
open Go Go.RowKit
section
variable {P:Program} {tt:TT} {Φ:yq} {o:Oper} {a:Act} {w:World} {ν:Nu} {aE:Nat} {k:QK} {tmps:List Value} {H:ax}
theorem ao.aaN {ν:Nu} {b:Option Addr} {m c:Nat} {z:Value} (h:ao ν (.slice b m c) z):∃ b' c',z=.slice b' m c':=by cases h <;> exact ⟨_,_,rfl⟩
theorem ao.rh {ν:Nu} {fn:Fn} {x y:Array Value} {z:Value} (h:ao ν (.func fn x y) z):∃ ys c5,z=.func fn ⟨ys⟩ ⟨c5⟩∧bc ν x.toList ys∧bc ν y.toList c5:=by
 cases h with | func _ xs ys mW c5 h1 J h3 h4=>exact ⟨ys,c5,rfl,⟨h1,J⟩,⟨h3,h4⟩⟩
theorem Jy (hT:∀ t ti,tt t=some ti→ay P t ti) {t:TypeId} {x ix:Operand} (h:DQ tt tmps H t x ix k):rP P (.indexAddr t x ix) tmps H k:=by
 obtain ⟨xv,J,hx⟩:=cK h
 clear h
 obtain ⟨iv,h,hi⟩:=cK J
 clear J
 split at h
 ·rename_i q i
  obtain ⟨ti,ht,J⟩:=cI h
  clear h
  have h:=J
  clear J
  obtain ⟨d,hu,hd⟩:=(hT _ _ ht).under
  split at h
  ·rename_i e hk
   rw [hk] at hd
   have hd:d=.slice e:=hd
   subst hd
   split at h
   ·rename_i id row m c
    obtain ⟨te,he,h⟩:=cI h
    obtain ⟨b,hb,h⟩:=gl h
    obtain ⟨⟨h0,h1⟩,h⟩:=h
    split at h
    ·rename_i hq
     have hq:b.ae=te.size:=Nat.eq_of_beq_eq_true hq
     obtain ⟨ei,ff,iL,_⟩:=(hT _ _ he).info
     rw [ar] at h
     refine .value (by simp) h fun o ν a w ho ha hH=>?_
     have hi:=(hi ν a (ha ix (by simp [Op.operands]))).fu
     obtain ⟨l0,dX,hB⟩:=hH.aH id b hb
     rcases (hx ν a (ha x (by simp [Op.operands]))).s6 with ⟨l,c',hl,hc,hm,hr,b9⟩ | ⟨hm,_⟩
     ·rw [dX] at hl; cases hl
      refine ⟨.pointer (some (l0.at (row+i.toNat) 0)),.ptr _ _ none _ dX,?_⟩
      have ak:i < (m:Int):=h1
      have kv:(l0.at row 0).add (i.toNat*ei.size)=l0.at (row+i.toNat) 0:=by
       rw [Loc.jt]
       unfold Loc.at
       congr 1
       rw [iL,← hq,← hB.ae,Nat.add_mul]; omega
      simp [execOp,ho,Instr.indexAt,hi,asIntOf,dq hu,b9,h0,ak,fR ff,kv]
     ·omega
    ·exact h.elim
   ·exact h.elim
  ·rename_i m e hk
   rw [hk] at hd
   have hd:d=.array m e:=hd
   subst hd
   split at h
   ·rename_i id row
    obtain ⟨te,he,h⟩:=cI h
    obtain ⟨b,hb,h⟩:=gl h
    obtain ⟨⟨h0,h1⟩,h⟩:=h
    obtain ⟨ei,ff,iL,_⟩:=(hT _ _ he).info
    split at h
    ·rename_i hq
     have hq:b.ae=te.size:=Nat.eq_of_beq_eq_true hq
     rw [ar] at h
     refine .value (by simp) h fun o ν a w ho ha hH=>?_
     have hi:=(hi ν a (ha ix (by simp [Op.operands]))).fu
     obtain ⟨l0,dX,hB⟩:=hH.aH id b hb
     obtain ⟨l,hl,b9⟩:=(hx ν a (ha x (by simp [Op.operands]))).og
     rw [dX] at hl; cases hl
     refine ⟨.pointer (some (l0.at (row+i.toNat) 0)),.ptr _ _ none _ dX,?_⟩
     have kv:(l0.at row 0).add (i.toNat*ei.size)=l0.at (row+i.toNat) 0:=by
      rw [Loc.jt]
      unfold Loc.at
      congr 1
      rw [iL,← hq,← hB.ae,Nat.add_mul]; omega
     have b9:a.eval x=.pointer (some (l0.at row 0)):=b9
     simp [execOp,ho,Instr.indexAt,hi,asIntOf,dq hu,b9,Instr.sureAddr,h0,h1,fR ff,kv]
    ·refine .value (by simp) h fun o ν a w ho ha hH=>?_
     have hi:=(hi ν a (ha ix (by simp [Op.operands]))).fu
     obtain ⟨l,hl,b9⟩:=(hx ν a (ha x (by simp [Op.operands]))).og
     have b9:a.eval x=.pointer (some (l.at row 0)):=b9
     refine ⟨.pointer (some (l.at row (0+i.toNat*te.size))),.ptr _ _ (some _) _ hl,?_⟩
     simp [execOp,ho,Instr.indexAt,hi,asIntOf,dq hu,b9,Instr.sureAddr,h0,h1,fR ff,Loc.jt,iL]
   ·rename_i id row c
    obtain ⟨te,he,h⟩:=cI h
    obtain ⟨⟨h0,h1⟩,h⟩:=h
    obtain ⟨ei,ff,iL,_⟩:=(hT _ _ he).info
    refine .value (by simp) h fun o ν a w ho ha hH=>?_
    have hi:=(hi ν a (ha ix (by simp [Op.operands]))).fu
    obtain ⟨l,hl,b9⟩:=(hx ν a (ha x (by simp [Op.operands]))).og
    have b9:a.eval x=.pointer (some (l.at row c)):=b9
    refine ⟨.pointer (some (l.at row (c+i.toNat*te.size))),.ptr _ _ (some _) _ hl,?_⟩
    simp [execOp,ho,Instr.indexAt,hi,asIntOf,dq hu,b9,Instr.sureAddr,h0,h1,fR ff,Loc.jt,iL]
   ·exact h.elim
  ·exact h.elim
 ·exact h.elim
theorem Re (hT:∀ t ti,tt t=some ti→ay P t ti) {t:TypeId} {x ix:Operand} (h:DQ tt tmps H t x ix k):eG P (.indexAddr t x ix) tmps H aE k:=(Jy hT h).ok
theorem RF (s:ByteArray) (i:Nat) (h:i < s.size):s[i]?=some (s[i]'h)∧((s[i]'h).toNat=bU s i):=by
 refine ⟨by simp [h],?_⟩
 unfold bU
 rw [List.getD_eq_getElem?_getD,Array.getElem?_toList]
 have:s.data[i]?=some (s[i]'h):=by rw [Array.getElem?_eq_getElem (by simpa using h)]; rfl
 rw [this]; rfl
theorem VN (hT:∀ t ti,tt t=some ti→ay P t ti) {t:TypeId} {x ix:Operand} (h:Ni tt tmps t x ix k):eG P (.index t x ix) tmps H aE k:=by
 obtain ⟨xv,J,hx⟩:=cK h
 clear h
 obtain ⟨iv,h,hi⟩:=cK J
 clear J
 split at h
 ·rename_i q i
  obtain ⟨ti,ht,J⟩:=cI h
  clear h
  have h:=J
  clear J
  obtain ⟨d,hu,hd⟩:=(hT _ _ ht).under
  split at h
  ·rename_i hk
   rw [hk] at hd
   have hd:d=.string:=hd
   subst hd
   split at h
   ·rename_i s
    obtain ⟨⟨h0,h1⟩,h⟩:=h
    have ak:i.toNat < s.size:=by omega
    obtain ⟨J,h3⟩:=RF s i.toNat ak
    refine .value (by simp) h fun o ν a w ho ha hH=>⟨_,.int _ _,?_⟩
    have hi:=(hi ν a (ha ix (by simp [Op.operands]))).fu
    have hx:=(hx ν a (ha x (by simp [Op.operands]))).rr
    simp [execOp,ho,Instr.index,hi,asIntOf,dq hu,hx,h0,J,h3]
   ·exact h.elim
  ·exact h.elim
 ·exact h.elim
def Bw (op:BinOp) (q:IntKind) (a b:Int):Sem Value :=
 match op with
 | .add | .sub | .mul=>Op.intArith op q a b
 | .quo | .rem=>Op.intDiv op q a b
 | .and | .or | .xor | .andNot=>Op.intBits op q a b
 | _=>Op.intCmp op a b
theorem S3 (op:BinOp) (t:TypeId) (q:IntKind) (a b:Int) (h1:op≠.shl) (J:op≠.shr):binOp op t (.int q a) (.int q b)=Bw op q a b:=by
 cases op <;> first | exact absurd rfl h1 | exact absurd rfl J | (cases q <;> rfl)
theorem binOp_shl (t:TypeId) (q q':IntKind) (a b:Int):binOp .shl t (.int q a) (.int q' b)=Op.shift .shl q a q' b:=rfl
theorem binOp_shr (t:TypeId) (q q':IntKind) (a b:Int):binOp .shr t (.int q a) (.int q' b)=Op.shift .shr q a q' b:=rfl
theorem S4 (op:BinOp) (t:TypeId) (x y:Operand) (q q':IntKind) (a b:Int) (w:World):(eqGuard op t x y (.int q a) (.int q' b)).run P w=.ok () w:=by cases op <;> rfl
theorem S5 (op:BinOp) (t:TypeId) (x y:Operand) (a b:ByteArray) (w:World):(eqGuard op t x y (.string a) (.string b)).run P w=.ok () w:=by cases op <;> rfl
theorem RG (op:BinOp) (t:TypeId) (x y:Operand) (a b:Bool) (w:World):(eqGuard op t x y (.bool a) (.bool b)).run P w=.ok () w:=by cases op <;> rfl
/-- The run of a binary operation out of its parts. -/
theorem xZ {op:BinOp} {t ty:TypeId} {x y:Operand} (ho:o.op=.binOp op t x y ty) {u v z:Value} (hx:a.eval x=u) (hy:a.eval y=v) (hg:(eqGuard op t x y u v).run P w=.ok () w)
  (hb:(binOp op t u v).run P w=.ok z w):(execOp a.eval o).run P w=.ok (.value z) w:=by
 simp only [execOp,ho,hx,hy,Sem.run_bind,hg,hb,Result.andThen_ok,Sem.run_pure]
theorem Bx {op:BinOp} {t:TypeId} {q:IntKind} {x y:Int} (h:NN op q x y k):∃ z,k z none∧cC z=true∧∀ w,(Bw op q x y).run P w=.ok z w:=by
 cases op <;> first | exact h.elim | skip
 case and=>exact ⟨.int q (q.wrap (BitVec.ofInt q.bits x &&& BitVec.ofInt q.bits y).toNat),h,rfl,fun w=>rfl⟩
 case or=>exact ⟨.int q (q.wrap (BitVec.ofInt q.bits x ||| BitVec.ofInt q.bits y).toNat),h,rfl,fun w=>rfl⟩
 case xor=>exact ⟨.int q (q.wrap (BitVec.ofInt q.bits x ^^^ BitVec.ofInt q.bits y).toNat),h,rfl,fun w=>rfl⟩
 case andNot=>exact ⟨.int q (q.wrap (BitVec.ofInt q.bits x &&& ~~~(BitVec.ofInt q.bits y)).toNat),h,rfl,fun w=>rfl⟩
theorem Ue {op:BinOp} {t:TypeId} {q q':IntKind} {x y:Int} (h:Bc op q q' x y k):∃ z,k z none∧cC z=true∧∀ w,(binOp op t (.int q x) (.int q' y)).run P w=.ok z w:=by
 by_cases p6:op=.shl
 ·subst p6
  obtain ⟨h0,h⟩:=AD h
  exact ⟨_,h,rfl,fun w=>by rw [binOp_shl]; simp [Op.shift,show ¬ y < 0 by omega]⟩
 by_cases CJ:op=.shr
 ·subst CJ
  obtain ⟨h0,h⟩:=AD h
  exact ⟨_,h,rfl,fun w=>by rw [binOp_shr]; simp [Op.shift,show ¬ y < 0 by omega]⟩
 by_cases hq:q=q'
 ·subst hq
  have e:=S3 op t q x y p6 CJ
  rw [e]
  have hd:decide (q=q)=true:=by simp
  cases op <;> first | exact absurd rfl p6 | exact absurd rfl CJ | skip
  all_goals (unfold Bc at h; rw [hd] at h; dsimp only at h)
  case quo=>obtain ⟨h0,h⟩:=AD h; exact ⟨_,h,rfl,fun w=>by simp [Bw,Op.intDiv,h0]⟩
  case rem=>obtain ⟨h0,h⟩:=AD h; exact ⟨_,h,rfl,fun w=>by simp [Bw,Op.intDiv,h0]⟩
  case and=>exact Bx (t:=t) h
  case or=>exact Bx (t:=t) h
  case xor=>exact Bx (t:=t) h
  case andNot=>exact Bx (t:=t) h
  all_goals exact ⟨_,h,rfl,fun w=>rfl⟩
 ·have hd:decide (q=q')=false:=by simp [hq]
  cases op <;> first | exact absurd rfl p6 | exact absurd rfl CJ | (unfold Bc at h; rw [hd] at h; exact h.elim)
theorem Uf {op:BinOp} {t:TypeId} {x y:ByteArray} (h:Mz op x y k):∃ z,k z none∧cC z=true∧∀ w,(binOp op t (.string x) (.string y)).run P w=.ok z w:=by
 cases op <;> first | exact h.elim | exact ⟨_,h,rfl,fun w=>rfl⟩ | skip
 obtain ⟨h0,h⟩:=h
 refine ⟨_,h,rfl,fun w=>?_⟩
 have:¬ (((x.size+y.size:Nat):Int) > IntKind.i64.max):=by
  have:IntKind.i64.max=9223372036854775807:=by decide
  rw [this]; omega
 show (Op.stringOp .add x y).run P w=_
 unfold Op.stringOp
 dsimp only
 rw [if_neg this]
 rfl
theorem ri {t:TypeId} {x y:Value} {b:Bool} (hs:∀ q a,x≠.int q a) (an:∀ s,x≠.string s) (hf:∀ q a,x≠.float q a) (hc:∀ q a b,x≠.complex q a b) (hp:∀ a,x≠.pointer a)
  (h:(Op.equal t x y).run P w=.ok b w):(binOp .eql t x y).run P w=.ok (.bool b) w∧(binOp .neq t x y).run P w=.ok (.bool !b) w:=by
 have e1:binOp .eql t x y=(do pure (.bool (← Op.equal t x y)):Sem Value):=by
  cases x <;> first | exact absurd rfl (hs _ _) | exact absurd rfl (an _) | exact absurd rfl (hf _ _) | exact absurd rfl (hc _ _ _) | exact absurd rfl (hp _) | rfl
 have e2:binOp .neq t x y=(do pure (.bool (!(← Op.equal t x y))):Sem Value):=by
  cases x <;> first | exact absurd rfl (hs _ _) | exact absurd rfl (an _) | exact absurd rfl (hf _ _) | exact absurd rfl (hc _ _ _) | exact absurd rfl (hp _) | rfl
 rw [e1,e2]
 simp only [Sem.run_bind,h,Result.andThen_ok]
 exact ⟨rfl,rfl⟩
theorem run_equal_bool {t:TypeId} (hu:P.underlying t=some .bool) (b b':Bool) (w:World):(Op.equal t (.bool b) (.bool b')).run P w=.ok (b == b') w:=by
 show (Op.equalIn (9999+1) t (.bool b) (.bool b')).run P w=_
 rw [Op.equalIn]
 simp only [Sem.run_bind,dq hu,Result.andThen_ok]
 rfl
theorem S6 {ti:TI} {op:BinOp} {t:TypeId} {x y:Bool} (hu:ti.kind=.bool→P.underlying t=some .bool) (h:EX ti.kind op x y k):∃ z,k z none∧cC z=true∧∀ w,(binOp op t (.bool x) (.bool y)).run P w=.ok z w:=by
 unfold EX at h
 split at h
 ·rename_i hk
  exact ⟨_,h,rfl,fun w=>(ri (by simp) (by simp) (by simp) (by simp) (by simp) (run_equal_bool (hu hk) x y w)).1⟩
 ·rename_i hk
  exact ⟨_,h,rfl,fun w=>(ri (by simp) (by simp) (by simp) (by simp) (by simp) (run_equal_bool (hu hk) x y w)).2⟩
 ·exact h.elim
theorem sM:∀ {l m:List Value},eL l m=true→∀ v∈l,cC v=true
 | [],[],_=>fun v hv=>by simp at hv
 | .bool _::l,.bool _::m,h=>fun v hv=>by
  rcases List.mem_cons.1 hv with e | e
  ·rw [e]; rfl
  ·exact sM (l:=l) (m:=m) h v e
 | .int q _::l,.int q' _::m,h=>fun v hv=>by
  rcases List.mem_cons.1 hv with e | e
  ·rw [e]; rfl
  ·exact sM (l:=l) (m:=m) (by simp only [eL,Bool.and_eq_true] at h; exact h.2) v e
 | .string _::l,.string _::m,h=>fun v hv=>by
  rcases List.mem_cons.1 hv with e | e
  ·rw [e]; rfl
  ·exact sM (l:=l) (m:=m) h v e
theorem bc.ki {ν:Nu}:∀ {l m:List Value},(∀ v∈l,cC v=true)→bc ν l m→m=l
 | [],m,_,h=>h.iC
 | v::l,m,hs,h=>by
  obtain ⟨y,ys,rfl,h1,J⟩:=h.iQ
  rw [h1.ki (hs v (by simp)),bc.ki (fun u hu=>hs u (by simp [hu])) J]
theorem Ug {eqs:List TypeId} {zero:List Value} {op:BinOp} {t:TypeId} {xs ys:List Value} (hE:∀ t∈eqs,∀ ti,tt t=some ti→wW P t ti.zero) {ti:TI} (ht:tt t=some ti) (h:Fv eqs t ti.zero op xs ys k) :
  ∃ z,k z none∧cC z=true∧(∀ v∈xs,cC v=true)∧(∀ v∈ys,cC v=true)∧∀ w,(binOp op t (.agg ⟨xs⟩) (.agg ⟨ys⟩)).run P w=.ok z w∧∀ x y,(eqGuard op t x y (.agg ⟨xs⟩) (.agg ⟨ys⟩)).run P w=.ok () w:=by
 unfold Fv at h
 split at h
 ·rename_i hb
  simp only [Bool.and_eq_true] at hb
  obtain ⟨⟨h1,J⟩,h3⟩:=hb
  have hq:=hE t (by simpa using h1) ti ht
  exact ⟨_,h,rfl,sM J,sM h3,fun w=>⟨(ri (by simp) (by simp) (by simp) (by simp) (by simp) (hq xs ys w J h3).1).1,fun x y=>(hq xs ys w J h3).2 x y _⟩⟩
 ·rename_i hb
  simp only [Bool.and_eq_true] at hb
  obtain ⟨⟨h1,J⟩,h3⟩:=hb
  have hq:=hE t (by simpa using h1) ti ht
  exact ⟨_,h,rfl,sM J,sM h3,fun w=>⟨(ri (by simp) (by simp) (by simp) (by simp) (by simp) (hq xs ys w J h3).1).2,fun x y=>(hq xs ys w J h3).2 x y _⟩⟩
 ·exact h.elim
theorem Rf (op:BinOp) (t:TypeId) (x y:Operand) (a b:Option Addr) (n c n' c':Nat) (w:World):(eqGuard op t x y (.slice a n c) (.slice b n' c')).run P w=.ok () w:=by cases op <;> rfl
theorem ao.S7 {ν:Nu} {a:Option Addr} {n c:Nat} {z:Value} (h:ao ν (.slice a n c) z):∃ a' n' c',z=.slice a' n' c'∧a'.isNone=a.isNone:=by
 cases h with
 | iY=>exact ⟨none,0,0,rfl,rfl⟩
 | slice id row n c c' l h hc hn hr=>exact ⟨_,_,_,rfl,rfl⟩
 | void id row c a hc=>exact ⟨_,_,_,rfl,rfl⟩
 | lg id row m n c' l h hm hn hr=>exact ⟨_,_,_,rfl,rfl⟩
 | ku id row a=>exact ⟨_,_,_,rfl,rfl⟩
theorem z8 {t e:TypeId} (hu:P.underlying t=some (.slice e)) (a:Option Addr) (n c:Nat) (w:World):(Op.equal t (.slice a n c) (.slice none 0 0)).run P w=.ok a.isNone w:=by
 show (Op.equalIn (9999+1) t (.slice a n c) (.slice none 0 0)).run P w=_
 rw [Op.equalIn]
 simp only [Sem.run_bind,dq hu,Result.andThen_ok]
 cases a <;> rfl
theorem Uh {ti:TI} {op:BinOp} {t:TypeId} {a:Option Addr} (hu:∀ e,ti.kind=.slice e→P.underlying t=some (.slice e)) (h:Fw ti.kind op a k) :
  ∃ z,k z none∧cC z=true∧∀ (a':Option Addr) (n c:Nat) w,a'.isNone=a.isNone→(binOp op t (.slice a' n c) (.slice none 0 0)).run P w=.ok z w:=by
 unfold Fw at h
 split at h
 ·rename_i e hk
  refine ⟨_,h,rfl,fun a' n c w ha=>?_⟩
  rw [(ri (by simp) (by simp) (by simp) (by simp) (by simp) (z8 (hu _ hk) a' n c w)).1,ha]; rfl
 ·rename_i e b hk
  refine ⟨_,h,rfl,fun a' n c w ha=>?_⟩
  rw [(ri (by simp) (by simp) (by simp) (by simp) (by simp) (z8 (hu _ hk) a' n c w)).1,ha]; rfl
 ·rename_i e hk
  refine ⟨_,h,rfl,fun a' n c w ha=>?_⟩
  rw [(ri (by simp) (by simp) (by simp) (by simp) (by simp) (z8 (hu _ hk) a' n c w)).2,ha]; rfl
 ·rename_i e b hk
  refine ⟨_,h,rfl,fun a' n c w ha=>?_⟩
  rw [(ri (by simp) (by simp) (by simp) (by simp) (by simp) (z8 (hu _ hk) a' n c w)).2,ha]; rfl
 ·exact h.elim
theorem Kh (hT:∀ t ti,tt t=some ti→ay P t ti) {eqs:List TypeId} (hE:∀ t∈eqs,∀ ti,tt t=some ti→wW P t ti.zero) {op:BinOp} {t ty:TypeId} {x y:Operand} (h:Cm tt eqs tmps op t x y k):∃ v,k v none∧∀ bh,pF P bh (.binOp op t x y ty) tmps v:=by
 obtain ⟨xv,J,hx⟩:=cK h
 clear h
 obtain ⟨yv,h,hy⟩:=cK J
 clear J
 split at h
 ·obtain ⟨z,hk,hs,hr⟩:=Ue (P:=P) (t:=t) h
  refine ⟨_,hk,fun bh=>⟨by simp,fun o ν a w hle ho ha=>⟨_,ao.kh hs,?_⟩⟩⟩
  exact xZ ho (hx ν a (ha x (by simp [Op.operands]))).fu (hy ν a (ha y (by simp [Op.operands]))).fu (S4 ..) (hr w)
 ·obtain ⟨z,hk,hs,hr⟩:=Uf (P:=P) (t:=t) h
  refine ⟨_,hk,fun bh=>⟨by simp,fun o ν a w hle ho ha=>⟨_,ao.kh hs,?_⟩⟩⟩
  exact xZ ho (hx ν a (ha x (by simp [Op.operands]))).rr (hy ν a (ha y (by simp [Op.operands]))).rr (S5 ..) (hr w)
 ·obtain ⟨ti,ht,h⟩:=cI h
  obtain ⟨d,hu,hd⟩:=(hT _ _ ht).under
  obtain ⟨z,hk,hs,hr⟩:=S6 (P:=P) (t:=t) (fun hk=>by rw [hk] at hd; have hd:d=.bool:=hd; rw [hu,hd]) h
  refine ⟨_,hk,fun bh=>⟨by simp,fun o ν a w hle ho ha=>⟨_,ao.kh hs,?_⟩⟩⟩
  exact xZ ho (hx ν a (ha x (by simp [Op.operands]))).jM (hy ν a (ha y (by simp [Op.operands]))).jM (RG ..) (hr w)
 ·rename_i xs ys
  obtain ⟨ti,ht,h⟩:=cI h
  obtain ⟨z,hk,hs,h1,J,hr⟩:=Ug (xs:=xs.toList) (ys:=ys.toList) (zero:=[]) hE ht h
  refine ⟨_,hk,fun bh=>⟨by simp,fun o ν a w hle ho ha=>⟨_,ao.kh hs,?_⟩⟩⟩
  obtain ⟨mW,xe,p7⟩:=ao.tE (xs:=xs.toList) (hx ν a (ha x (by simp [Op.operands])))
  obtain ⟨c5,oK,p8⟩:=ao.tE (xs:=ys.toList) (hy ν a (ha y (by simp [Op.operands])))
  rw [bc.ki h1 p7] at xe
  rw [bc.ki J p8] at oK
  exact xZ ho xe oK ((hr w).2 x y) (hr w).1
 ·rename_i b n c
  obtain ⟨ti,ht,h⟩:=cI h
  obtain ⟨d,hu,hd⟩:=(hT _ _ ht).under
  obtain ⟨z,hk,hs,hr⟩:=Uh (P:=P) (t:=t) (fun e hk=>by rw [hk] at hd; have hd:d=.slice e:=hd; rw [hu,hd]) h
  refine ⟨_,hk,fun bh=>⟨by simp,fun o ν a w hle ho ha=>⟨_,ao.kh hs,?_⟩⟩⟩
  obtain ⟨a1,n1,c1,e1,h1⟩:=(hx ν a (ha x (by simp [Op.operands]))).S7
  have e2:a.eval y=.slice none 0 0:=by
   have J:=hy ν a (ha y (by simp [Op.operands]))
   generalize a.eval y=z at J
   cases J
   rfl
  exact xZ ho e1 e2 (Rf ..) (hr a1 n1 c1 w h1)
 ·exact h.elim
theorem aaO (hT:∀ t ti,tt t=some ti→ay P t ti) {eqs:List TypeId} (hE:∀ t∈eqs,∀ ti,tt t=some ti→wW P t ti.zero) {op:BinOp} {t ty:TypeId} {x y:Operand} (h:Cm tt eqs tmps op t x y k):eG P (.binOp op t x y ty) tmps H aE k:=by
 obtain ⟨v,hk,hp⟩:=Kh hT hE (ty:=ty) h
 exact .value (by simp) hk fun o ν a w ho ha hH=>(hp ν).2 o ν a w ν.le_refl ho ha
theorem MB {P:Program} {t:TypeId} {ty:TypeId} {d:TypeDesc} (hu:P.underlying t=some d) {x:Value} {m:Int} (w:World)
  (h:(∃ s,d=.string∧x=.string s∧m=s.size)∨(∃ e b n c,d=.slice e∧x=.slice b n c∧m=(n:Int))) :
  (Builtin.len_ #[t] ty #[x]).run P w=.ok (.int .i64 m) w:=by
 rcases h with ⟨s,rfl,rfl,rfl⟩ | ⟨e,b,n,c,rfl,rfl,rfl⟩ <;> simp [Builtin.len_,dq hu,goInt]
theorem Nl (hT:∀ t ti,tt t=some ti→ay P t ti) {c:Call} (hc:c.callee=.builtin .len) {t:TypeId} {x:Operand} (hx:c.args=#[x]) (ht:c.argTypes=#[t]) (h:Ha tmps tt t x k):rP P (.call c) tmps H k:=by
 obtain ⟨xv,J,hv⟩:=cK h
 clear h
 obtain ⟨ti,HR,h⟩:=cI J
 clear J
 obtain ⟨d,hu,hd⟩:=(hT _ _ HR).under
 split at h
 ·rename_i s hk
  rw [hk] at hd
  refine .value (by simp) h fun o ν a w ho ha hH=>⟨_,.int _ _,?_⟩
  have hv:=hv ν a (ha x (by simp [Op.operands,Call.operands,hc,hx]))
  have hr:=MB (P:=P) (ty:=o.type) hu w (.inl ⟨_,hd,hv.rr,rfl⟩)
  simp [execOp,ho,resolve,hc,hx,ht,invoke,builtin,hr]
 ·rename_i e b m c hk
  rw [hk] at hd
  refine .value (by simp) h fun o ν a w ho ha hH=>⟨_,.int _ _,?_⟩
  obtain ⟨b',c',he⟩:=(hv ν a (ha x (by simp [Op.operands,Call.operands,hc,hx]))).aaN
  have hr:=MB (P:=P) (ty:=o.type) hu w (.inr ⟨_,_,_,_,hd,he,rfl⟩)
  simp [execOp,ho,resolve,hc,hx,ht,invoke,builtin,hr]
 ·exact h.elim
theorem aaP (hT:∀ t ti,tt t=some ti→ay P t ti) {c:Call} (hc:c.callee=.builtin .len) {t:TypeId} {x:Operand} (hx:c.args=#[x]) (ht:c.argTypes=#[t]) (h:Ha tmps tt t x k):eG P (.call c) tmps H aE k:=(Nl hT hc hx ht h).ok
theorem aaQ {c:Call} (hc:c.callee=.builtin .max) {x y:Operand} (hx:c.args=#[x,y]) (h:Oo tmps x y k):eG P (.call c) tmps H aE k:=by
 obtain ⟨xv,J,h1⟩:=cK h
 clear h
 obtain ⟨yv,h,J⟩:=cK J
 split at h
 ·refine .value (by simp) h fun o ν a w ho ha hH=>⟨_,.int _ _,?_⟩
  have h1:=(h1 ν a (ha x (by simp [Op.operands,Call.operands,hc,hx]))).fu
  have J:=(J ν a (ha y (by simp [Op.operands,Call.operands,hc,hx]))).fu
  simp [execOp,ho,resolve,hc,hx,invoke,builtin,Builtin.max_,h1,J,Builtin.max2]
 ·exact h.elim
theorem aaR {c:Call} (hc:c.callee=.builtin .min) {x y:Operand} (hx:c.args=#[x,y]) (h:Oq tmps x y k):eG P (.call c) tmps H aE k:=by
 obtain ⟨xv,J,h1⟩:=cK h
 clear h
 obtain ⟨yv,h,J⟩:=cK J
 split at h
 ·refine .value (by simp) h fun o ν a w ho ha hH=>⟨_,.int _ _,?_⟩
  have h1:=(h1 ν a (ha x (by simp [Op.operands,Call.operands,hc,hx]))).fu
  have J:=(J ν a (ha y (by simp [Op.operands,Call.operands,hc,hx]))).fu
  simp [execOp,ho,resolve,hc,hx,invoke,builtin,Builtin.min_,h1,J,Builtin.min2]
 ·exact h.elim
/-- A struct laid out of its fields. -/
theorem Ed {fs:List (Nat × Nat × Bool)}
  {By:Nat→Option (Nat × Nat)} (hp:∀ (i:Nat) x,fs[i]?=some x→By i=some (x.1,x.2.1)) :
  ∀ {ps:List (Nat × Operand)} {cs:List Value} {k:List Value→Prop},BR tmps fs ps cs k →
  ∃ ds,k ds∧∀ (ν:Nu) (a:Act),(∀ p∈ps,eW ν tmps a p.2)→∀ (dW:List Value),bc ν cs dW→∃ r8,bc ν ds r8∧Instr.fill By ⟨dW⟩ (ps.map fun p=>(p.1,a.eval p.2))=some ⟨r8⟩
 | [],cs,k,h=>⟨cs,h,fun ν a _ dW hc=>⟨dW,hc,rfl⟩⟩
 | p::ps,cs,k,h=>by
  obtain ⟨v,J,hv⟩:=cK h
  clear h
  have h:=Ai J
  clear J
  obtain ⟨x,hx,J⟩:=Aj h
  clear h
  split at J
  ·rename_i a9
   obtain ⟨hl,h1⟩:=xy a9
   obtain ⟨cs2,h3,iK,hle,oL,wX⟩:=xM J
   obtain ⟨ds,k1,k0⟩:=Ed hp h3
   refine ⟨ds,k1,fun ν a ha dW hc=>?_⟩
   have uE:=(hv ν a (ha p (by simp))).cells
   -- the same cells written over in the real struct
   have GC:∀ (us:List Value) (o:Nat) (acc:List Value) (m:Nat),((us.zipIdx m).foldl (fun cs (c,j)=>cs.setIfInBounds (o+j) c) (⟨acc⟩:Array Value)).size=acc.length ∧
     ∀ j,((us.zipIdx m).foldl (fun cs (c,j)=>cs.setIfInBounds (o+j) c) (⟨acc⟩:Array Value))[j]?=if j < acc.length∧o+m≤j∧j < o+m+us.length then us[j - (o+m)]? else acc[j]?:=by
    intro us
    induction us with
    | nil =>
     intro o acc m
     refine ⟨by simp,fun j=>?_⟩
     simp
     intros
     omega
    | cons u us ih =>
     intro o acc m
     simp only [List.zipIdx_cons,List.foldl_cons]
     have e:(⟨acc⟩:Array Value).setIfInBounds (o+m) u=⟨acc.set (o+m) u⟩:=by apply Array.ext'; simp
     rw [e]
     obtain ⟨i1,i2⟩:=ih o (acc.set (o+m) u) (m+1)
     refine ⟨by rw [i1]; simp,fun j=>?_⟩
     rw [i2 j]
     simp only [List.length_set,List.length_cons]
     by_cases hj:j < acc.length
     ·by_cases h1:o+(m+1)≤j∧j < o+(m+1)+us.length
      ·rw [if_pos ⟨hj,h1⟩,if_pos ⟨hj,by omega,by omega⟩]
       rw [show j - (o+m)=(j - (o+(m+1)))+1 by omega]; simp
      ·rw [if_neg (by omega)]
       by_cases J:j=o+m
       ·subst J
        rw [if_pos ⟨hj,by omega,by omega⟩]
        simp [List.getElem?_set,hj]
       ·rw [if_neg (by omega),List.getElem?_set_ne (by omega)]
     ·rw [if_neg (by omega),if_neg (by omega)]
      rw [List.getElem?_eq_none (by simp; omega),List.getElem?_eq_none (by omega)]
   obtain ⟨f1,f2⟩:=GC (a.eval p.2).cells.toList x.1 dW 0
   generalize Hc:(((a.eval p.2).cells.toList.zipIdx 0).foldl (fun cs (c,j)=>cs.setIfInBounds (x.1+j) c) (⟨dW⟩:Array Value))=G at f1 f2
   have Hd:bc ν cs2 G.toList:=by
    refine ⟨by rw [iK,hc.1]; simpa using f1.symm,fun j y z hy hz=>?_⟩
    rw [Array.getElem?_toList,f2 j] at hz
    split at hz
    ·rename_i hj
     have ak:j - (x.1+0) < v.cells.toList.length:=by rw [uE.1]; omega
     have:=oL (j - (x.1+0)) _ (List.getElem?_eq_getElem ak)
     rw [show x.1+(j - (x.1+0))=j by omega] at this
     rw [this] at hy; cases hy
     exact uE.2 _ _ _ (List.getElem?_eq_getElem ak) hz
    ·rename_i hj
     have aaS:=wX j (by
      have HS:j < dW.length:=(List.getElem?_eq_some_iff.1 hz).1
      have:=uE.1
      omega)
     rw [aaS] at hy
     exact hc.2 _ _ _ hy hz
   obtain ⟨r8,k2,k3⟩:=k0 ν a (fun q hq=>ha q (by simp [hq])) _ Hd
   refine ⟨r8,k2,?_⟩
   have tP:(a.eval p.2).cells.size=x.2.1:=by rw [← Array.length_toList,← uE.1,hl]
   simp only [List.map_cons,Instr.fill,hp p.1 x hx]
   rw [if_neg]
   ·have:(((a.eval p.2).cells.zipIdx).foldl (fun cs (c,j)=>cs.setIfInBounds (x.1+j) c) (⟨dW⟩:Array Value))=⟨G.toList⟩:=by
     rw [← Hc,← Array.foldl_toList]
     simp
    rw [this]
    exact k3
   ·have:((⟨dW⟩:Array Value).size)=cs.length:=by simp [hc.1]
    simp only [tP,this]
    simp
    omega
  ·exact J.elim
theorem K5 {sz:Nat}:∀ {n off i:Nat} {x:Nat × Nat × Bool},(wE sz off n)[i]?=some x→x.1=off+i*sz∧x.2.1=sz
 | 0,off,i,x,h=>by simp [wE] at h
 | n+1,off,0,x,h=>by simp [wE] at h; subst h; simp
 | n+1,off,i+1,x,h=>by
  obtain ⟨h1,J⟩:=K5 (n:=n) (off:=off+sz) (i:=i) (by simpa [wE] using h)
  exact ⟨by rw [h1,Nat.succ_mul]; omega,J⟩
theorem VO (hT:∀ t ti,tt t=some ti→ay P t ti) {t:TypeId} {ps:Array (Nat × Operand)} (h:Nj tt tmps t ps.toList k):eG P (.build t ps) tmps H aE k:=by
 obtain ⟨ti,ht,J⟩:=cI h
 clear h
 have a9:=hT _ _ ht
 obtain ⟨d,hu,hd⟩:=a9.under
 obtain ⟨i,hi,_,_,z,hz,g8⟩:=a9.info
 split at J
 ·rename_i fs hk
  rw [hk] at hd
  obtain ⟨fields,rfl,aT,hf⟩:=hd
  -- the places that the model reckons
  have acr:∀ (w:World) (l:List Field) (m:List (Nat × Nat × Bool)),l.length=m.length→(∀ (i:Nat) f x,l[i]?=some f→m[i]?=some x→xY P f x) →
    (l.mapM (m:=Sem) fun f=>do pure (f.offset,← sizeOf f.type)).run P w=.ok (m.map fun x=>(x.1,x.2.1)) w:=by
   intro w l
   induction l with
   | nil=>intro m hl _; cases m with
    | nil=>rfl
    | cons=>simp at hl
   | cons f l ih =>
    intro m hl hf
    cases m with
    | nil=>simp at hl
    | cons x m =>
     obtain ⟨h1,J,⟨i,h3,h4⟩,_⟩:=hf 0 f x rfl rfl
     have ih:=ih m (by simpa using hl) (fun i f' x' h h'=>hf (i+1) f' x' (by simpa using h) (by simpa using h'))
     simp only [List.mapM_cons,Sem.run_bind,fR h3,Result.andThen_ok,Sem.run_pure,ih,List.map_cons,h1,h4]
  obtain ⟨ds,k1,k0⟩:=Ed (By:=((fs.map fun x=>(x.1,x.2.1)).toArray[·]?)) (fun i x hx=>by simp [hx]) J
  refine .value (by simp) k1 fun o ν a w ho ha hH=>?_
  have hm:=acr w fields.toList fs (by simpa using aT) (fun i f x h h'=>hf i f x (by simpa using h) h')
  obtain ⟨r8,k2,k3⟩:=k0 ν a (fun p hp=>ha p.2 (by simp [Op.operands]; exact ⟨p.1,by simpa using hp⟩)) _ (a9.self ν)
  refine ⟨.agg ⟨r8⟩,.agg _ _ k2.1 k2.2,?_⟩
  simp only [execOp,ho,Instr.build,Sem.run_bind,vl hi hz,Result.andThen_ok,dq hu,g8]
  have HT:(fields.mapM (m:=Sem) fun f=>do pure (f.offset,← sizeOf f.type)).run P w=.ok (fs.map fun x=>(x.1,x.2.1)).toArray w:=by
   rw [Array.mapM_eq_mapM_toList]
   simp only [Sem.run_map,hm,Result.andThen_ok]
  simp only [HT,Sem.run_bind,Result.andThen_ok]
  have e:(ps.map fun x=>(x.1,a.eval x.2)).toList=ps.toList.map fun p=>(p.1,a.eval p.2):=by simp
  have e2:(ps.map fun (x:Nat × Operand)=>match x with | (i,x)=>(i,a.eval x))=(ps.map fun x=>(x.1,a.eval x.2)):=rfl
  rw [e2,e,k3]
  rfl
 ·rename_i n e hk
  rw [hk] at hd
  have hd:d=.array n e:=hd
  subst hd
  obtain ⟨te,he,h⟩:=cI J
  obtain ⟨ei,ff,iL,_⟩:=(hT _ _ he).info
  obtain ⟨ds,k1,k0⟩:=Ed (By:=fun i=>some (i*ei.size,ei.size)) (fun i x hx=>by
   obtain ⟨h1,J⟩:=K5 hx
   rw [h1,J,iL,Nat.zero_add]) h
  refine .value (by simp) k1 fun o ν a w ho ha hH=>?_
  obtain ⟨r8,k2,k3⟩:=k0 ν a (fun p hp=>ha p.2 (by simp [Op.operands]; exact ⟨p.1,by simpa using hp⟩)) _ (a9.self ν)
  refine ⟨.agg ⟨r8⟩,.agg _ _ k2.1 k2.2,?_⟩
  simp only [execOp,ho,Instr.build,Sem.run_bind,vl hi hz,Result.andThen_ok,dq hu,g8,fR ff]
  have e:(ps.map fun x=>(x.1,a.eval x.2)).toList=ps.toList.map fun p=>(p.1,a.eval p.2):=by simp
  have e2:(ps.map fun (x:Nat × Operand)=>match x with | (i,x)=>(i,a.eval x))=(ps.map fun x=>(x.1,a.eval x.2)):=rfl
  rw [e2,e,k3]
  rfl
 ·exact J.elim
end
end Go.Ae
/- The abstract operations stand for the model's: slices that are made, literals of slices, strings and bytes. -/
namespace Go.Ae
open Go Go.RowKit
section
variable {P:Program} {tt:TT} {w:World} {ν:Nu} {aE:Nat} {k:QK} {tmps:List Value} {H:ax}
theorem Jr (z:Array Value) (n j:Nat) (h:j < n) (hz:0 < z.size):(madeCells z n)[j]?=z[j % z.size]?:=by
 unfold madeCells
 rw [Array.getElem?_map,Array.getElem?_range,if_pos h]
 simp only [Option.map_some]
 have:j % z.size < z.size:=Nat.mod_lt _ hz
 rw [Array.getElem?_eq_getElem this]
 simp [this]
theorem Fx (r e j:Nat) (h:j < e):(r*e+j) % e=j:=by
 rw [Nat.add_comm,Nat.add_mul_mod_self_right,Nat.mod_eq_of_lt h]
theorem Rg (hT:∀ t ti,tt t=some ti→ay P t ti) {t:TypeId} {x y:Operand} (h:Ke tt tmps t x y aE k):eG P (.makeSlice t x y) tmps H aE k:=by
 obtain ⟨xv,J,hx⟩:=cK h
 clear h
 obtain ⟨yv,h,hy⟩:=cK J
 clear J
 obtain ⟨ti,ht,J⟩:=cI h
 clear h
 obtain ⟨d,hu,hd⟩:=(hT _ _ ht).under
 split at J
 ·rename_i e hk
  rw [hk] at hd
  have hd:d=.slice e:=hd
  subst hd
  obtain ⟨te,he,h⟩:=cI J
  clear J
  have a9:=hT _ _ he
  obtain ⟨i,hi,gi,mX,z,hz,g8⟩:=a9.info
  split at h
  ·rename_i q n q' m cS
   obtain ⟨⟨b0,b1,b2⟩,h⟩:=h
   refine ⟨_,_,h,fun o ν a w r nn ho ha hH hn next Q hN=>?_⟩
   have hx:=(hx ν a (ha x (by simp [Op.operands]))).fu
   have hy:=(hy ν a (ha y (by simp [Op.operands]))).fu
   have kU:=a9.bit
   have hm1:m≤m*te.bytes:=by
    have:m*1≤m*(te.bytes:Int):=Int.mul_le_mul_of_nonneg_left (by omega) (by omega)
    omega
   have bA:=run_make (P:=P) w t e i z hu hi hz q q' n m b0 b1 (by rw [mX,Int.mul_comm]; omega) (by omega)
   refine jm (w':=w.alloc (.cells (madeCells z.cells (m.toNat*i.size)) e)) (v':=.slice (some ⟨w.heap.size,0,none⟩) n.toNat m.toNat) (by simp [ho]) (by simp [execOp,ho,hx,hy,bA]) next Q
    (hN _ _ (ν.add aE ⟨w.heap.size,0,te.size,m.toNat⟩) (mw hn ?_ (xH _ _) (Nat.le_refl _) ?_))
   ·have dn:(w.alloc (.cells (madeCells z.cells (m.toNat*i.size)) e)).heap[w.heap.size]?=some (.cells (madeCells z.cells (m.toNat*i.size)) e (0,0)):=by show (w.heap.push _)[w.heap.size]?=_; simp
    have jd:z.cells.size=te.size:=by rw [g8]; simpa using a9.len
    refine ⟨rfl,fun r hr=>a9.len,fun r hr j v hv=>⟨v,?_,ao.kh (dt cS v (List.mem_of_getElem? hv))⟩,fun _ r hr v hv=>dt cS v hv,fun r hr v hv=>a9.one v hv,fun _ _=>⟨_,_,dn,?_,?_⟩,(fun r h=>nomatch h),?_⟩
    ·have hr:r < n.toNat:=hr
     have hv:te.zero[j]?=some v:=hv
     have hj:j < te.size:=by rw [← a9.len]; exact (List.getElem?_eq_some_iff.1 hv).1
     simp only [Loc.at,World.cell?,Nat.zero_add]
     rw [dn]
     have ak:r*te.size+j < m.toNat*i.size:=by
      rw [gi]
      have:(r+1)*te.size≤m.toNat*te.size:=Nat.mul_le_mul_right _ (by omega)
      rw [Nat.add_mul] at this; omega
     simp only [Option.isSome_none,Bool.false_eq_true,if_false]
     rw [Jr _ _ _ ak (by omega),jd,Fx _ _ _ hj,g8]
     simpa using hv
    ·simp [size_madeCells,gi]
    ·simp only [ah.n]; omega
    ·show w.heap.size < (w.alloc _).heap.size
     simp
   ·have:=ao.slice (ν:=ν.add aE ⟨w.heap.size,0,te.size,m.toNat⟩) aE 0 n.toNat m.toNat m.toNat _ Nu.add_same (.inl rfl) (by omega) (by simp)
    simpa [Loc.at] using this
  ·exact h.elim
 ·exact J.elim
theorem K6:∀ {n:Nat} {r:List Value} {k:List (List Value)→Prop},Hb n r k→k (List.replicate n r)
 | 0,_,_,h=>h
 | n+1,r,k,h=>by have:=K6 (n:=n) h; simpa [List.replicate_succ] using this
theorem JT:∀ {rs:List (List Value)} {n:Nat} {r:List Value} {k:List (List Value)→Prop},setRow rs n r k→n < rs.length∧k (rs.set n r)
 | [],_,_,_,h=>h.elim
 | _::rs,0,_,_,h=>⟨by simp,h⟩
 | q::rs,n+1,r,k,h=>by obtain ⟨h1,J⟩:=JT (rs:=rs) h; exact ⟨by simpa using h1,by simpa using J⟩
/-- Rows of a literal, and the model's cells for them. -/
def Bd (ν:Nu) (sz:Nat) (rows:List (List Value)) (C:Array Value):Prop :=
 C.size=rows.length*sz∧(∀ row∈rows,row.length=sz)∧∀ r j row v,rows[r]?=some row→row[j]?=some v→∃ v',C[r*sz+j]?=some v'∧ao ν v v'
theorem JU {sz n:Nat}:∀ {ps:List (Nat × Operand)} {rows:List (List Value)} {k:List (List Value)→Prop},rowsOf tmps sz ps rows k→rows.length=n →
  ∃ iF,k iF∧iF.length=n∧((∀ row∈rows,∀ v∈row,v.oneCell'=true)→∀ row∈iF,∀ v∈row,v.oneCell'=true) ∧
   ∀ (ν:Nu) (a:Act),(∀ p∈ps,eW ν tmps a p.2)→∀ C,Bd ν sz rows C→∃ C',Bd ν sz iF C'∧Instr.fill (fun i=>some (i*sz,sz)) C (ps.map fun p=>(p.1,a.eval p.2))=some C'
 | [],rows,k,h,hl=>⟨rows,h,hl,fun h=>h,fun ν a _ C hC=>⟨C,hC,rfl⟩⟩
 | p::ps,rows,k,h,hl=>by
  obtain ⟨v,J,hv⟩:=cK h
  clear h
  have h:=Ai J
  clear J
  split at h
  ·rename_i a9
   obtain ⟨hlen,pQ⟩:=xy a9
   obtain ⟨ak,J⟩:=JT h
   obtain ⟨iF,k1,k2,k3,k4⟩:=JU (n:=n) (ps:=ps) J (by rw [List.length_set]; exact hl)
   refine ⟨iF,k1,k2,fun h0=>k3 (fun row aX u hu=>?_),fun ν a ha C hC=>?_⟩
   ·rcases List.mem_or_eq_of_mem_set aX with h | h
    ·exact h0 row h u hu
    ·rw [h] at hu; exact pQ u hu
   ·obtain ⟨c1,c2,c3⟩:=hC
    have uE:=(hv ν a (ha p (by simp))).cells
    have tP:(a.eval p.2).cells.size=sz:=by rw [← Array.length_toList,← uE.1,hlen]
    have GC:∀ (us:List Value) (o:Nat) (acc:Array Value) (m:Nat),((us.zipIdx m).foldl (fun cs (c,j)=>cs.setIfInBounds (o+j) c) acc).size=acc.size ∧
      ∀ j,((us.zipIdx m).foldl (fun cs (c,j)=>cs.setIfInBounds (o+j) c) acc)[j]?=if j < acc.size∧o+m≤j∧j < o+m+us.length then us[j - (o+m)]? else acc[j]?:=by
     intro us
     induction us with
     | nil =>
      intro o acc m
      refine ⟨by simp,fun j=>?_⟩
      simp
      intros
      omega
     | cons u us ih =>
      intro o acc m
      simp only [List.zipIdx_cons,List.foldl_cons]
      obtain ⟨i1,i2⟩:=ih o (acc.setIfInBounds (o+m) u) (m+1)
      refine ⟨by rw [i1]; simp,fun j=>?_⟩
      rw [i2 j]
      simp only [Array.size_setIfInBounds,List.length_cons]
      by_cases hj:j < acc.size
      ·by_cases h1:o+(m+1)≤j∧j < o+(m+1)+us.length
       ·rw [if_pos ⟨hj,h1⟩,if_pos ⟨hj,by omega,by omega⟩]
        rw [show j - (o+m)=(j - (o+(m+1)))+1 by omega]; simp
       ·rw [if_neg (by omega)]
        by_cases J:j=o+m
        ·subst J
         rw [if_pos ⟨hj,by omega,by omega⟩]
         simp [hj]
        ·rw [if_neg (by omega),Array.getElem?_setIfInBounds_ne (by omega)]
      ·rw [if_neg (by omega),if_neg (by omega)]
       rw [Array.getElem?_eq_none (by simp; omega),Array.getElem?_eq_none (by omega)]
    obtain ⟨f1,f2⟩:=GC (a.eval p.2).cells.toList (p.1*sz) C 0
    have eH:(a.eval p.2).cells.toList.length=sz:=by simpa using tP
    have hbound:(p.1+1)*sz≤rows.length*sz:=Nat.mul_le_mul_right _ ak
    rw [Nat.add_mul] at hbound
    have Hc:(((a.eval p.2).cells.toList.zipIdx 0).foldl (fun cs (c,j)=>cs.setIfInBounds (p.1*sz+j) c) C)=((a.eval p.2).cells.zipIdx.foldl (fun cs (c,j)=>cs.setIfInBounds (p.1*sz+j) c) C):=by
     rw [← Array.foldl_toList]; simp
    have Hd:Bd ν sz (rows.set p.1 v.cells.toList) ((a.eval p.2).cells.zipIdx.foldl (fun cs (c,j)=>cs.setIfInBounds (p.1*sz+j) c) C):=by
     rw [← Hc]
     refine ⟨by rw [f1,c1,List.length_set],fun row aX=>?_,fun r j row u hr hj=>?_⟩
     ·rcases List.mem_or_eq_of_mem_set aX with h | h
      ·exact c2 row h
      ·rw [h]; exact hlen
     ·rw [f2]
      have ads:j < sz:=by
       have gw:=List.mem_of_getElem? hr
       have:row.length=sz:=by
        rcases List.mem_or_eq_of_mem_set gw with h | h
        ·exact c2 row h
        ·rw [h]; exact hlen
       rw [← this]; exact (List.getElem?_eq_some_iff.1 hj).1
      by_cases e:r=p.1
      ·subst e
       rw [List.getElem?_set_self ak] at hr
       cases hr
       rw [if_pos ⟨by omega,by omega,by omega⟩]
       rw [show p.1*sz+j - (p.1*sz+0)=j by omega]
       exact uE.get hj
      ·rw [List.getElem?_set_ne (Ne.symm e)] at hr
       have aI:¬ (p.1*sz+0≤r*sz+j∧r*sz+j < p.1*sz+0+(a.eval p.2).cells.toList.length):=by
        rw [eH]
        rcases Nat.lt_or_ge r p.1 with h | h
        ·have:(r+1)*sz≤p.1*sz:=Nat.mul_le_mul_right _ h
         rw [Nat.add_mul] at this; omega
        ·have:(p.1+1)*sz≤r*sz:=Nat.mul_le_mul_right _ (by omega)
         rw [Nat.add_mul] at this; omega
       rw [if_neg (fun h=>aI h.2)]
       exact c3 r j row u hr hj
    obtain ⟨C',q1,q2⟩:=k4 ν a (fun q hq=>ha q (by simp [hq])) _ Hd
    refine ⟨C',q1,?_⟩
    simp only [List.map_cons,Instr.fill]
    rw [if_neg]
    ·exact q2
    ·simp only [tP]
     simp
     omega
  ·exact h.elim
theorem Rh {ae:Nat} {rows:List (List Value)} {k:ah→Prop} (h:F6 ae rows k):∃ b,k b∧∀ (ν:Nu) (l:Loc) (w:World),bN ν l (.aL true ae rows) w→bN ν l b w:=by
 unfold F6 at h
 split at h
 ·refine ⟨_,h,fun ν l w hB=>⟨hB.ae,fun r hr=>absurd hr (Nat.not_lt_zero r),fun r hr=>absurd hr (Nat.not_lt_zero r),fun _ r hr=>absurd hr (Nat.not_lt_zero r),fun r hr=>absurd hr (Nat.not_lt_zero r),fun _ _=>?_,(fun r h=>nomatch h),hB.live⟩⟩
  obtain ⟨cur,t,h1,J,_⟩:=hB.own rfl rfl
  exact ⟨cur,t,h1,J,Nat.zero_le _⟩
 ·exact ⟨_,h,fun ν l w hB=>hB⟩
theorem QP (hT:∀ t ti,tt t=some ti→ay P t ti) {t:TypeId} {n:Nat} {ps:Array (Nat × Operand)} (h:JS tt tmps t n ps.toList aE k):eG P (.buildSlice t n ps) tmps H aE k:=by
 obtain ⟨ti,ht,J⟩:=cI h
 clear h
 obtain ⟨d,hu,hd⟩:=(hT _ _ ht).under
 split at J
 ·rename_i e hk
  rw [hk] at hd
  have hd:d=.slice e:=hd
  subst hd
  obtain ⟨te,he,h⟩:=cI J
  clear J
  have a9:=hT _ _ he
  obtain ⟨i,hi,gi,mX,z,hz,g8⟩:=a9.info
  split at h
  ·rename_i rQ
   have rQ:=Nat.le_of_ble_eq_true rQ
   have h:=K6 h
   obtain ⟨rows,k1,k2,k3,k4⟩:=JU (n:=n) h (by simp)
   obtain ⟨b,k1,kb⟩:=Rh k1
   refine ⟨_,_,k1,fun o ν a w r nn ho ha hH hn next Q hN=>?_⟩
   have jd:z.cells.size=te.size:=by rw [g8]; simpa using a9.len
   -- the zero rows
   have y9:Bd ν te.size (List.replicate n te.zero) (madeCells z.cells (n*te.size)):=by
    refine ⟨by simp [size_madeCells],fun row aX=>by rw [(List.mem_replicate.1 aX).2]; exact a9.len,fun r j row v hr hj=>?_⟩
    have aX:=(List.mem_replicate.1 (List.mem_of_getElem? hr)).2
    subst aX
    have acs:r < n:=by have:=(List.getElem?_eq_some_iff.1 hr).1; simpa using this
    have fL:j < te.size:=by rw [← a9.len]; exact (List.getElem?_eq_some_iff.1 hj).1
    have ak:r*te.size+j < n*te.size:=by
     have:(r+1)*te.size≤n*te.size:=Nat.mul_le_mul_right _ acs
     rw [Nat.add_mul] at this; omega
    obtain ⟨v',h1,J⟩:=(a9.self ν).get hj
    rw [hj] at h1; cases h1
    exact ⟨v,by rw [Jr _ _ _ ak (by have:=a9.bit.1; omega),jd,Fx _ _ _ fL,g8]; simpa using hj,J⟩
   obtain ⟨C',q1,q2⟩:=k4 ν a (fun p hp=>ha p.2 (by simp [Op.operands]; exact ⟨p.1,by simpa using hp⟩)) _ y9
   have bA:(execOp a.eval o).run P w=.ok (.value (.slice (some ⟨w.heap.size,0,none⟩) n n)) { w with heap:=w.heap.push (.cells C' e) }:=by
    have e1:(ps.map fun (x:Nat × Operand)=>match x with | (i,x)=>(i,a.eval x))=(ps.map fun x=>(x.1,a.eval x.2)):=rfl
    have e2:(ps.map fun x=>(x.1,a.eval x.2)).toList=ps.toList.map fun p=>(p.1,a.eval p.2):=by simp
    have Ph:¬ (n*te.size > 2 ^ 24):=by omega
    have CK:Instr.fill (fun i=>some (i*te.size,te.size)) ((Array.range (n*te.size)).map (z.cells[· % z.cells.size]!)) (ps.map fun x=>(x.1,a.eval x.2)).toList=some C':=by rw [e2]; exact q2
    simp only [execOp,ho,Instr.buildSlice,Sem.run_bind,dq hu,Result.andThen_ok,fR hi,gi,e1]
    rw [if_neg Ph]
    by_cases h0:n*te.size=0
    ·have e0:(Array.range (n*te.size)).map (z.cells[· % z.cells.size]!)=(Array.range (n*te.size)).map ((#[]:Array Value)[· % (#[]:Array Value).size]!):=by rw [h0]; simp
     rw [e0] at CK
     simp only [Sem.run_bind,Sem.run_ite,h0,if_true,Sem.run_pure,Result.andThen_ok,newRow,run_newObj]
     rw [h0] at CK
     simp only [CK,Sem.run_bind,Sem.run_pure,Result.andThen_ok,newRow,run_newObj]
    ·simp only [Sem.run_bind,Sem.run_ite,h0,if_false,Sem.run_pure,vl hi hz,Result.andThen_ok]
     simp only [CK,Sem.run_bind,Sem.run_pure,Result.andThen_ok,newRow,run_newObj]
   have dn:({ w with heap:=w.heap.push (.cells C' e) }:World).heap[w.heap.size]?=some (.cells C' e (0,0)):=by simp
   obtain ⟨c1,c2,c3⟩:=q1
   refine jm (by simp [ho]) bA next Q (hN _ _ (ν.add aE ⟨w.heap.size,0,te.size,n⟩) (mw hn ?_ (xH _ _) (Nat.le_refl _) ?_))
   ·refine kb _ _ _ ⟨rfl,fun r hr=>?_,fun r hr j v hv=>?_,fun h=>by simp [ah.js] at h,fun r hr v hv=>?_,fun _ _=>⟨_,_,dn,?_,?_⟩,(fun r h=>nomatch h),by simp⟩
    ·have hr:r < rows.length:=hr
     simp only [ah.row,List.getD,List.getElem?_eq_getElem hr,Option.getD_some]
     exact c2 _ (List.getElem_mem _)
    ·have hr:r < rows.length:=hr
     simp only [ah.row,List.getD,List.getElem?_eq_getElem hr,Option.getD_some] at hv
     obtain ⟨v',h1,J⟩:=c3 r j _ v (List.getElem?_eq_getElem hr) hv
     refine ⟨v',?_,J.mono (Nu.jN hn)⟩
     simp only [Loc.at,World.cell?,Nat.zero_add]
     rw [dn]
     simpa using h1
    ·have hr:r < rows.length:=hr
     simp only [ah.row,List.getD,List.getElem?_eq_getElem hr,Option.getD_some] at hv
     exact k3 (fun row aX u hu=>by rw [(List.mem_replicate.1 aX).2] at hu; exact a9.one u hu) _ (List.getElem_mem _) v hv
    ·simp [c1,k2]
    ·simp [ah.n,k2]
   ·have:=ao.slice (ν:=ν.add aE ⟨w.heap.size,0,te.size,n⟩) aE 0 n n n _ Nu.add_same (.inl rfl) (Nat.le_refl _) (by simp)
    simpa [Loc.at] using this
  ·exact h.elim
 ·exact J.elim
end
end Go.Ae
/- The abstract operations stand for the model's: conversions; calls by contract. -/
namespace Go.Ae
open Go Go.RowKit
section
variable {P:Program} {tt:TT} {w:World} {ν:Nu} {aE:Nat} {k:QK} {tmps:List Value} {H:ax}
theorem foldl_push (ns:List Int):∀ r:ByteArray,ns.foldl (fun r n=>r.push (UInt8.ofNat n.toNat)) r=⟨r.data++(ns.map fun n=>UInt8.ofNat n.toNat).toArray⟩:=by
 induction ns with
 | nil=>intro r; simp
 | cons n ns ih=>intro r; rw [List.foldl_cons,ih]; simp [ByteArray.push]
theorem RH {a:Addr} {c:Nat} (w:World):(Conv.bytesToString (.slice (some a) 0 c)).run P w=.ok (.string ⟨#[]⟩) w:=by
 rw [run_bytesToString w a 0 c [] (by simpa using run_loadCells_list (P:=P) w a [] (fun j v h=>by simp at h))]
 rfl
theorem S8 (hT:∀ t ti,tt t=some ti→ay P t ti) {s d:TypeId} {x:Operand} (h:LM tt tmps H s d x aE k):eG P (.convert s d x) tmps H aE k:=by
 obtain ⟨xv,J,hx⟩:=cK h
 clear h
 obtain ⟨ts,hs,h⟩:=cI J
 clear J
 obtain ⟨td,hd,J⟩:=cI h
 clear h
 have h:=J
 clear J
 obtain ⟨ds,r9,dY⟩:=(hT _ _ hs).under
 obtain ⟨dd,xf,c0⟩:=(hT _ _ hd).under
 split at h
 ·rename_i q q' m hk
  rw [hk] at c0
  have c0:dd=.int q:=c0
  subst c0
  split at h
  ·rename_i qs je
   rw [je] at dY
   have dY:ds=.int qs:=dY
   subst dY
   refine .value (by simp) h fun o ν a w ho ha hH=>⟨_,.int _ _,?_⟩
   have hx:=(hx ν a (ha x (by simp [Op.operands]))).fu
   simp [execOp,ho,hx,convert,dq r9,dq xf,Conv.intToInt]
  ·exact h.elim
 ·rename_i s hk
  rw [hk] at c0
  have c0:dd=.string:=c0
  subst c0
  split at h
  ·rename_i je
   rw [je] at dY
   have dY:ds=.string:=dY
   subst dY
   refine .value (by simp) h fun o ν a w ho ha hH=>⟨_,.str _,?_⟩
   have hx:=(hx ν a (ha x (by simp [Op.operands]))).rr
   simp [execOp,ho,hx,convert,dq r9,dq xf]
  ·exact h.elim
 ·rename_i id row n c hk
  rw [hk] at c0
  have c0:dd=.string:=c0
  subst c0
  split at h
  ·rename_i e je
   rw [je] at dY
   have dY:ds=.slice e:=dY
   subst dY
   obtain ⟨te,he,J⟩:=cI h
   clear h
   obtain ⟨de,xg,j5⟩:=(hT _ _ he).under
   split at J
   ·rename_i za
    rw [za] at j5
    have j5:de=.int .u8:=j5
    subst j5
    have NO:∀ (o:Oper) (ν:Nu) (a:Act) (w:World),o.op=.convert s d x→(∀ x'∈(Op.convert s d x).operands,eW ν tmps a x')→∃ ad c',a.eval x=.slice (some ad) n c'∧(0 < n→∃ l,ν id=some l∧ad=l.at row 0):=by
     intro o ν a w ho ha
     rcases (hx ν a (ha x (by simp [Op.operands]))).s6 with ⟨l,c',hl,hc,hn,hr,b9⟩ | ⟨hn,hc,bb,b9⟩
     ·exact ⟨_,_,b9,fun _=>⟨l,hl,rfl⟩⟩
     ·subst hn
      exact ⟨_,_,b9,fun h=>absurd h (by omega)⟩
    split at J
    ·refine .value (by simp) J fun o ν a w ho ha hH=>⟨_,.str _,?_⟩
     obtain ⟨ad,c',b9,_⟩:=NO o ν a w ho ha
     have:=run_convert_bytes_string (P:=P) w s d e (some ad) 0 c' r9 xg xf
     simp [execOp,ho,b9,this,RH]
    ·rename_i m
     obtain ⟨b,hb,h⟩:=gl J
     clear J
     split at h
     ·rename_i He
      obtain ⟨⟨hle,NP⟩,h⟩:=h
      refine .value (by simp) h fun o ν a w ho ha hH=>⟨_,.str _,?_⟩
      obtain ⟨ad,c',b9,hl⟩:=NO o ν a w ho ha
      obtain ⟨l,dX,rfl⟩:=hl (by omega)
      clear hl
      obtain ⟨l',cl,hB⟩:=hH.aH id b hb
      rw [dX] at cl; cases cl
      have hc:=run_convert_bytes_string (P:=P) w s d e (some (l.at row 0)) (m+1) c' r9 xg xf
      let ns:List Int:=(List.range (m+1)).map fun r=>match b.row (row+r) with | .int _ x::_=>x | _=>0
      have Yy:(loadCells (l.at row 0) (m+1)).run P w=.ok (ns.map (Value.int .u8)).toArray w:=by
       have:=run_loadCells_list (P:=P) w (l.at row 0) (ns.map (Value.int .u8)) (fun j v hj=>by
        have fL:j < m+1:=by
         have:=(List.getElem?_eq_some_iff.1 hj).1
         simpa [ns] using this
        obtain ⟨y,hy⟩:=NP j fL
        obtain ⟨v',h1,J⟩:=hB.cell (row+j) (by omega) 0 (.int .u8 y) (by rw [hy]; rfl)
        have J:=J.fu
        subst J
        have hv:v=.int .u8 y:=by
         simp only [ns,List.map_map,List.getElem?_map,List.getElem?_range fL,Option.map_some,Function.comp,hy] at hj
         exact (Option.some.inj hj).symm
        rw [Loc.jt,hv,← h1]
        simp only [Loc.at,hB.ae,He]
        congr 2
        omega)
       simpa [ns] using this
      have bA:=run_bytesToString (P:=P) w (l.at row 0) (m+1) c' ns Yy
      rw [foldl_push] at bA
      have e:(⟨ByteArray.empty.data++(ns.map fun n=>UInt8.ofNat n.toNat).toArray⟩:ByteArray)=⟨⟨bytesOf b.row row (m+1)⟩⟩:=by
       have e0:ByteArray.empty.data=#[]:=rfl
       rw [e0]
       congr 1
       simp only [Array.empty_append,bytesOf,ns,List.map_map]
       congr 1
       apply List.map_congr_left
       intro r hr
       obtain ⟨y,hy⟩:=NP r (List.mem_range.1 hr)
       simp [hy]
      rw [e] at bA
      simp [execOp,ho,b9,hc,bA]
     ·exact h.elim
   ·exact J.elim
  ·exact h.elim
 ·rename_i hk
  rw [hk] at c0
  have c0:dd=.string:=c0
  subst c0
  split at h
  ·rename_i e je
   rw [je] at dY
   have dY:ds=.slice e:=dY
   subst dY
   obtain ⟨te,he,J⟩:=cI h
   clear h
   obtain ⟨de,xg,j5⟩:=(hT _ _ he).under
   split at J
   ·rename_i za
    rw [za] at j5
    have j5:de=.int .u8:=j5
    subst j5
    refine .value (by simp) J fun o ν a w ho ha hH=>⟨_,.str _,?_⟩
    have hx:=(hx ν a (ha x (by simp [Op.operands]))).o9
    have:=run_convert_bytes_string (P:=P) w s d e none 0 0 r9 xg xf
    simp [execOp,ho,hx,this,Conv.bytesToString]
    rfl
   ·exact J.elim
  ·exact h.elim
 ·rename_i e str hk
  rw [hk] at c0
  have c0:dd=.slice e:=c0
  subst c0
  split at h
  ·rename_i je
   rw [je] at dY
   have dY:ds=.string:=dY
   subst dY
   obtain ⟨te,he,J⟩:=cI h
   clear h
   obtain ⟨de,xg,j5⟩:=(hT _ _ he).under
   split at J
   ·rename_i za
    rw [za] at j5
    have j5:de=.int .u8:=j5
    subst j5
    refine ⟨_,_,J,fun o ν a w r nn ho ha hH hn next Q hN=>?_⟩
    have hx:=(hx ν a (ha x (by simp [Op.operands]))).rr
    have bA:=run_bytes_of_string (P:=P) w s d e str r9 xf xg
    have dS:=grownCap_ge w str.size 0 e
    have hb:Below w.heap.size w (w.drew.alloc (.cells (bytesRow str (grownCap w str.size 0 e)) e ((bytesRow str (grownCap w str.size 0 e)).size,(bytesRow str (grownCap w str.size 0 e)).size+1))):=((Below.refl _ w).drew).alloc (Nat.le_refl _) _
    have aaT:(execOp a.eval o).run P w=.ok (.value (.slice (some ⟨w.heap.size,0,none⟩) str.size (grownCap w str.size 0 e))) (w.drew.alloc (.cells (bytesRow str (grownCap w str.size 0 e)) e ((bytesRow str (grownCap w str.size 0 e)).size,(bytesRow str (grownCap w str.size 0 e)).size+1))):=by
     simp [execOp,ho,hx,bA]
    refine jm (by simp [ho]) aaT next Q
     (hN _ _ (ν.add aE ⟨w.heap.size,0,1,grownCap w str.size 0 e⟩) (mw hn ?_ hb (Nat.le_refl _) ?_))
    ·have dn:(w.drew.alloc (.cells (bytesRow str (grownCap w str.size 0 e)) e ((bytesRow str (grownCap w str.size 0 e)).size,(bytesRow str (grownCap w str.size 0 e)).size+1))).heap[w.heap.size]?=some (.cells (bytesRow str (grownCap w str.size 0 e)) e ((bytesRow str (grownCap w str.size 0 e)).size,(bytesRow str (grownCap w str.size 0 e)).size+1)):=by
      show (w.heap.push _)[w.heap.size]?=_; simp
     refine ⟨rfl,fun r hr=>rfl,fun r hr j v hv=>⟨v,?_,ao.kh ?_⟩,fun _ r hr v hv=>?_,fun r hr v hv=>?_,fun h _=>by simp [ah.own] at h,(fun r h=>nomatch h),?_⟩
     ·have hr:r < str.size:=hr
      have hv:[Value.int .u8 (bU str r)][j]?=some v:=hv
      have hj:j=0:=by
       have:=(List.getElem?_eq_some_iff.1 hv).1
       simpa using this
      subst hj
      simp only [Loc.at,World.cell?,Nat.zero_add]
      rw [dn]
      simp only [Option.isSome_none,Bool.false_eq_true,if_false]
      have ak:r < str.data.size:=hr
      simp [bytesRow,bU] at hv ⊢
      rw [Array.getElem?_append_left (by simpa using ak)]
      have hg:str.data[r]?=some (str.data[r]'ak):=Array.getElem?_eq_getElem ak
      rw [hg] at hv
      rw [Array.getElem?_map,hg,← hv]
      rfl
     ·have hv:[Value.int .u8 (bU str r)][j]?=some v:=hv
      have:=List.mem_of_getElem? hv
      simp at this
      rw [this]; rfl
     ·have hv:v∈[Value.int .u8 (bU str r)]:=hv
      simp at hv; rw [hv]; rfl
     ·have hv:v∈[Value.int .u8 (bU str r)]:=hv
      simp at hv; rw [hv]; rfl
     ·show w.heap.size < (w.drew.alloc _).heap.size
      simp
    ·have:=ao.slice (ν:=ν.add aE ⟨w.heap.size,0,1,grownCap w str.size 0 e⟩) aE 0 str.size aJ (grownCap w str.size 0 e) _ Nu.add_same (.inr rfl) dS (by simp)
     simpa [Loc.at] using this
   ·exact J.elim
  ·exact h.elim
 ·exact h.elim
theorem aaU (hT:∀ t ti,tt t=some ti→ay P t ti) {c:Call} (hc:c.callee=.builtin .cap) {t:TypeId} {x:Operand} (hx:c.args=#[x]) (ht:c.argTypes=#[t]) (h:Ot tmps tt t x k):eG P (.call c) tmps H aE k:=by
 obtain ⟨xv,J,hv⟩:=cK h
 clear h
 obtain ⟨ti,HR,h⟩:=cI J
 clear J
 obtain ⟨d,hu,hd⟩:=(hT _ _ HR).under
 split at h
 ·rename_i e hk
  rw [hk] at hd
  have hd:d=.slice e:=hd
  subst hd
  refine .value (by simp) h fun o ν a w ho ha hH=>⟨_,.int _ _,?_⟩
  have he:=(hv ν a (ha x (by simp [Op.operands,Call.operands,hc,hx]))).o9
  simp [execOp,ho,resolve,hc,hx,ht,invoke,builtin,Builtin.cap_,run_underlying hu,he,goInt]
 ·exact h.elim
theorem wrap_small {m:Nat} (h:m≤140737488355328):IntKind.i64.wrap (m:Int)=(m:Int):=by
 have e:IntKind.i64.wrap (m:Int)=if (true && decide ((m:Int) % (2 ^ 64:Int) ≥ (2 ^ 63:Int)))=true then (m:Int) % (2 ^ 64:Int) - (2 ^ 64:Int) else (m:Int) % (2 ^ 64:Int):=rfl
 rw [e]
 simp only [Bool.true_and,decide_eq_true_eq]
 split <;> omega
theorem Qx {t u ty e:TypeId} {q:IntKind} {i:TypeInfo} {z:Value} (ht:P.underlying t=some (.slice e)) (hu:P.underlying u=some (.int q)) (hi:P.info? e=some i) (hz:i.zero=some z)
  {n:Int} (h0:0 < n) (Pj:n*i.bytes≤140737488355328) (h63:n≤140737488355328) :
  (Builtin.append_ #[t,u] ty #[.slice none 0 0,.int .i64 n]).run P w =
   .ok (.slice (some ⟨w.heap.size,0,none⟩) n.toNat (grownCap w n.toNat 0 e))
    (w.drew.alloc (.cells ((if n.toNat*i.size=0 then #[] else Builtin.zeroCells z.cells n.toNat)++Builtin.zeroCells z.cells (grownCap w n.toNat 0 e - n.toNat)) e)):=by
 obtain ⟨m,rfl⟩:∃ m:Nat,n=m:=⟨n.toNat,by omega⟩
 have hw:IntKind.i64.wrap (m:Int)=(m:Int):=wrap_small (by omega)
 have hn:m≠0:=by omega
 have h1:¬ ((m:Int) < 0):=by omega
 have J:¬ (281474976710656 < (m:Int)*(i.bytes:Int)):=by omega
 have Ou:¬ (9223372036854775807 < (m:Int)):=by omega
 have Ov:¬ (281474976710656 < Builtin.nextslicecap m 0*i.bytes):=by
  rw [nextslicecap_zero (by omega)]
  have Pj:((m*i.bytes:Nat):Int)≤140737488355328:=by rw [Int.natCast_mul]; exact Pj
  omega
 by_cases hs:m*i.size=0
 ·simp [Builtin.append_,run_underlying ht,run_underlying hu,sizeOf,typeInfo,zeroValue,hi,hz,asInt,asIntOf,hw,h1,J,hn,Ou,Ov,Question.forced,newRow,grownCap,Builtin.firstCells,hs]
 ·simp [Builtin.append_,run_underlying ht,run_underlying hu,sizeOf,typeInfo,zeroValue,hi,hz,asInt,asIntOf,hw,h1,J,hn,Ou,Ov,Question.forced,newRow,grownCap,Builtin.firstCells,hs]
theorem Js (z:Array Value) (n j:Nat) (h:j < n*z.size) (hz:0 < z.size):(Builtin.zeroCells z n)[j]?=z[j % z.size]?:=by
 unfold Builtin.zeroCells
 rw [Array.getElem?_map,Array.getElem?_range,if_pos h]
 simp only [Option.map_some]
 have:j % z.size < z.size:=Nat.mod_lt _ hz
 rw [Array.getElem?_eq_getElem this]
 simp [this]
theorem RI (hT:∀ t ti,tt t=some ti→ay P t ti) {c:Call} (hc:c.callee=.builtin .append) {t u:TypeId} {x y:Operand} (hx:c.args=#[x,y]) (zc:c.argTypes=#[t,u]) (h:K3 tt tmps t u x y aE k):eG P (.call c) tmps H aE k:=by
 obtain ⟨xv,J,uF⟩:=cK h
 clear h
 obtain ⟨yv,h,uG⟩:=cK J
 clear J
 obtain ⟨ti,ht,J⟩:=cI h
 clear h
 obtain ⟨d,hu,hd⟩:=(hT _ _ ht).under
 split at J
 ·rename_i e hk
  rw [hk] at hd
  have hd:d=.slice e:=hd
  subst hd
  obtain ⟨te,he,h⟩:=cI J
  clear J
  obtain ⟨tu,htu,J⟩:=cI h
  clear h
  obtain ⟨du,huu,CL⟩:=(hT _ _ htu).under
  have a9:=hT _ _ he
  obtain ⟨i,hi,gi,mX,z,hz,g8⟩:=a9.info
  split at J
  ·rename_i q n hku cS
   rw [hku] at CL
   have CL:du=.int q:=CL
   subst CL
   obtain ⟨⟨b0,b1⟩,h⟩:=J
   refine ⟨_,_,h,fun o ν a w r nn ho ha hH hn next Q hN=>?_⟩
   have p5:=(uF ν a (ha x (by simp [Op.operands,Call.operands,hc,hx]))).o9
   have zd:=(uG ν a (ha y (by simp [Op.operands,Call.operands,hc,hx]))).fu
   have kU:=a9.bit.2
   have ze:n≤n*te.bytes:=by
    have:n*1≤n*(te.bytes:Int):=Int.mul_le_mul_of_nonneg_left (by omega) (by omega)
    omega
   have bA:=Qx (P:=P) (w:=w) (ty:=o.type) hu huu hi hz b0 (by rw [mX]; exact b1) (by omega)
   have dS:=grownCap_ge w n.toNat 0 e
   have nI:∀ C:Array Value,Below w.heap.size w (w.drew.alloc (.cells C e)):=fun C=>((Below.refl _ w).drew).alloc (Nat.le_refl _) _
   have hpz:0 < te.size:=a9.bit.1
   have jd:z.cells.size=te.size:=by rw [g8]; simpa using a9.len
   have hm:¬ (n.toNat*i.size=0):=by
    rw [gi]
    intro h0
    rcases Nat.mul_eq_zero.1 h0 with h | h <;> omega
   rw [if_neg hm] at bA
   generalize hC:Builtin.zeroCells z.cells n.toNat++Builtin.zeroCells z.cells (grownCap w n.toNat 0 e - n.toNat)=C at bA
   refine jm (w':=w.drew.alloc (.cells C e)) (v':=.slice (some ⟨w.heap.size,0,none⟩) n.toNat (grownCap w n.toNat 0 e)) (by simp [ho]) (by simp [execOp,ho,resolve,hc,hx,zc,invoke,builtin,p5,zd,bA]) next Q
    (hN _ _ (ν.add aE ⟨w.heap.size,0,te.size,grownCap w n.toNat 0 e⟩) (mw hn ?_ (nI _) (Nat.le_refl _) ?_))
   ·have CM:C.size=grownCap w n.toNat 0 e*te.size:=by
     rw [← hC,Array.size_append]
     simp only [Builtin.zeroCells,Array.size_map,Array.size_range,jd]
     rw [← Nat.add_mul]
     congr 1
     omega
    have dn:(w.drew.alloc (.cells C e)).heap[w.heap.size]?=some (.cells C e (0,0)):=by show (w.heap.push _)[w.heap.size]?=_; simp
    refine ⟨rfl,fun r hr=>a9.len,fun r hr j v hv=>⟨v,?_,ao.kh (dt cS v (List.mem_of_getElem? hv))⟩,fun _ r hr v hv=>dt cS v hv,fun r hr v hv=>a9.one v hv,fun _ _=>⟨_,_,dn,?_,?_⟩,(fun r h=>nomatch h),?_⟩
    ·have hr:r < n.toNat:=hr
     have hv:te.zero[j]?=some v:=hv
     have hj:j < te.size:=by rw [← a9.len]; exact (List.getElem?_eq_some_iff.1 hv).1
     simp only [Loc.at,World.cell?,Nat.zero_add]
     rw [dn]
     have ak:r*te.size+j < n.toNat*te.size:=by
      have:(r+1)*te.size≤n.toNat*te.size:=Nat.mul_le_mul_right _ (by omega)
      rw [Nat.add_mul] at this; omega
     simp only [Option.isSome_none,Bool.false_eq_true,if_false]
     rw [← hC,Array.getElem?_append_left (by simp only [Builtin.zeroCells,Array.size_map,Array.size_range,jd]; exact ak),Js _ _ _ (by rw [jd]; exact ak) (by omega),jd,Fx _ _ _ hj,g8]
     simpa using hv
    ·rw [CM]; simp
    ·simp only [ah.n]; omega
    ·show w.heap.size < (w.drew.alloc _).heap.size
     simp
   ·have:=ao.slice (ν:=ν.add aE ⟨w.heap.size,0,te.size,grownCap w n.toNat 0 e⟩) aE 0 n.toNat aJ (grownCap w n.toNat 0 e) _ Nu.add_same (.inr rfl) dS (by simp)
    simpa [Loc.at] using this
  ·exact J.elim
 ·exact J.elim
end
end Go.Ae
/- Calls by contract: the blocks of the arguments renumbered. -/
namespace Go.Ae
open Go Go.RowKit
section
variable {P:Program} {tt:TT} {Φ:yq} {w:World} {ν:Nu} {aE:Nat} {k:QK} {tmps:List Value} {H:ax}
def Nu.comp (ν:Nu) (τ:List Nat):Nu:=fun j=>(τ[j]?).bind ν
theorem Ee {τ:List Nat} {m:Nat} {x:Value} {xs l:List Value} (h:lU τ m (x::xs)=some l):∃ y ys,l=y::ys∧cL τ m x=some y∧lU τ m xs=some ys:=by
 unfold lU at h
 rw [List.foldr_cons] at h
 split at h
 ·rename_i y ys h1 J
  exact ⟨y,ys,(Option.some.inj h).symm,h1,J⟩
 ·cases h
theorem EZ {τ:List Nat} {m:Nat} {l:List Value} (h:lU τ m []=some l):l=[]:=by
 simp [lU] at h; exact h
theorem s7 {τ:List Nat} {m:Nat} (h:∀ v v2 r,cL τ m v=some v2→ao ν v2 r→ao (ν.comp τ) v r):∀ {xs l rs:List Value},lU τ m xs=some l→bc ν l rs→bc (ν.comp τ) xs rs
 | [],l,rs,h1,J=>by rw [EZ h1] at J; rw [J.iC]; exact .nil _
 | x::xs,l,rs,h1,J=>by
  obtain ⟨y,ys,rfl,e1,e2⟩:=Ee h1
  obtain ⟨r,bX,rfl,k1,k2⟩:=J.iQ
  exact .cons (h _ _ _ e1 k1) (s7 h e2 k2)
theorem xP {τ:List Nat} {m:Nat} (h:∀ v v2 r,cL τ m v=some v2→ao (ν.comp τ) v r→ao ν v2 r):∀ {xs l rs:List Value},lU τ m xs=some l→bc (ν.comp τ) xs rs→bc ν l rs
 | [],l,rs,h1,J=>by rw [EZ h1]; rw [J.iC]; exact .nil _
 | x::xs,l,rs,h1,J=>by
  obtain ⟨y,ys,rfl,e1,e2⟩:=Ee h1
  obtain ⟨r,bX,rfl,k1,k2⟩:=J.iQ
  exact .cons (h _ _ _ e1 k1) (xP h e2 k2)
theorem vL {τ:List Nat}:∀ (m:Nat) (v v2 r:Value),cL τ m v=some v2→ao ν v2 r→ao (ν.comp τ) v r:=by
 intro m
 induction m with
 | zero=>intro v v2 r h; simp [cL] at h
 | succ m ih =>
  intro v v2 r h hr
  unfold cL at h
  split at h
  ·cases h; rw [hr.ki rfl]; exact .bool _
  ·cases h; rw [hr.ki rfl]; exact .int _ _
  ·cases h; rw [hr.ki rfl]; exact .str _
  ·cases h; cases hr; exact .lS
  ·split at h
   ·rename_i uD e
    cases h
    obtain ⟨l,h1,rfl⟩:=hr.og
    exact .ptr _ _ _ l (by simp [Nu.comp,e,h1])
   ·cases h
  ·cases h; cases hr; exact .iY
  ·split at h
   ·rename_i uD e
    cases h
    rcases hr.s6 with ⟨l,c',h1,J,h3,h4,rfl⟩ | ⟨rfl,J,b,rfl⟩
    ·exact .slice _ _ _ _ _ l (by simp [Nu.comp,e,h1]) J h3 h4
    ·exact .void _ _ _ _ J
   ·cases h
  ·cases h; cases hr; exact .lT
  ·split at h
   ·rename_i l l' e
    cases h
    obtain ⟨ys,rfl,hy⟩:=hr.tE
    have:=s7 ih e hy
    exact .agg _ _ this.1 this.2
   ·cases h
  ·split at h
   ·rename_i l l' e
    cases h
    obtain ⟨ys,rfl,hy⟩:=hr.nj
    have:=s7 ih e hy
    exact .tuple _ _ this.1 this.2
   ·cases h
  ·split at h
   ·rename_i l1 l2 l1' l2' e1 e2
    cases h
    obtain ⟨ys,c5,rfl,hy,zd⟩:=hr.rh
    have t1:=s7 ih e1 hy
    have t2:=s7 ih e2 zd
    exact .func _ _ _ _ _ t1.1 t1.2 t2.1 t2.2
   ·cases h
  ·cases h
theorem E2 {τ:List Nat}:∀ (m:Nat) (v v2 r:Value),cL τ m v=some v2→ao (ν.comp τ) v r→ao ν v2 r:=by
 intro m
 induction m with
 | zero=>intro v v2 r h; simp [cL] at h
 | succ m ih =>
  intro v v2 r h hr
  unfold cL at h
  split at h
  ·cases h; rw [hr.ki rfl]; exact .bool _
  ·cases h; rw [hr.ki rfl]; exact .int _ _
  ·cases h; rw [hr.ki rfl]; exact .str _
  ·cases h; cases hr; exact .lS
  ·split at h
   ·rename_i uD e
    cases h
    obtain ⟨l,h1,rfl⟩:=hr.og
    simp [Nu.comp,e] at h1
    exact .ptr _ _ _ l h1
   ·cases h
  ·cases h; cases hr; exact .iY
  ·split at h
   ·rename_i uD e
    cases h
    rcases hr.s6 with ⟨l,c',h1,J,h3,h4,rfl⟩ | ⟨rfl,J,b,rfl⟩
    ·simp [Nu.comp,e] at h1
     exact .slice _ _ _ _ _ l h1 J h3 h4
    ·exact .void _ _ _ _ J
   ·cases h
  ·cases h; cases hr; exact .lT
  ·split at h
   ·rename_i l l' e
    cases h
    obtain ⟨ys,rfl,hy⟩:=hr.tE
    have:=xP ih e hy
    exact .agg _ _ this.1 this.2
   ·cases h
  ·split at h
   ·rename_i l l' e
    cases h
    obtain ⟨ys,rfl,hy⟩:=hr.nj
    have:=xP ih e hy
    exact .tuple _ _ this.1 this.2
   ·cases h
  ·split at h
   ·rename_i l1 l2 l1' l2' e1 e2
    cases h
    obtain ⟨ys,c5,rfl,hy,zd⟩:=hr.rh
    have t1:=xP ih e1 hy
    have t2:=xP ih e2 zd
    exact .func _ _ _ _ _ t1.1 t1.2 t2.1 t2.2
   ·cases h
  ·cases h
/-- A block that serves a contract. -/
structure Bz (b c:ah):Prop extends aO b c where
 rc:b.rc=none
theorem DR {k:Prop}:∀ {σ:List Nat} {bs:List ah},yt H σ bs k→σ.length=bs.length∧(∀ (j s:Nat) (b:ah),σ[j]?=some s→bs[j]?=some b→∃ c,H[s]?=some (some c)∧Bz b c)∧k
 | [],[],h=>⟨rfl,fun j s b h=>by simp at h,h⟩
 | s::σ,b::bs,h=>by
  have gJ:b.rc=none∧gu H s fun c=>aO b c∧yt H σ bs k:=by
   cases b with
   | aL o e r=>exact ⟨rfl,h⟩
   | flat o n e g=>exact ⟨rfl,h⟩
   | bZ r=>exact h.elim
  obtain ⟨gJ,h⟩:=gJ
  obtain ⟨c,h1,J,h3⟩:=gl h
  obtain ⟨e1,e2,e3⟩:=DR h3
  refine ⟨by simp [e1],fun j s' b' hs hb=>?_,e3⟩
  cases j with
  | zero=>simp at hs hb; subst hs; subst hb; exact ⟨c,h1,J,gJ⟩
  | succ j=>exact e2 j s' b' (by simpa using hs) (by simpa using hb)
 | [],_::_,h=>h.elim
 | _::_,[],h=>h.elim
/-- A block of plain cells stands under any numbering. -/
theorem bN.E3 {ν aj:Nu} {l:Loc} {b:ah} {w:World} (h:bN ν l b w) (hs:∀ r,r < b.n→∀ v∈b.row r,cC v=true):bN aj l b w :=
 ⟨h.ae,h.len,fun r hr j v hv=>by
  obtain ⟨v',h1,J⟩:=h.cell r hr j v hv
  have zf:=hs r hr v (List.mem_of_getElem? hv)
  rw [J.ki zf] at h1
  exact ⟨v,h1,ao.kh zf⟩,h.plain,h.one,h.own,h.lr,h.live⟩
theorem bN.le {ν aj:Nu} {l:Loc} {b c:ah} {w:World} (h:bN ν l c w) (hle:Bz b c):bN aj l b w:=by
 refine ⟨h.ae.trans hle.ae,fun r hr=>?_,fun r hr j v hv=>?_,fun _ r hr v hv=>hle.flat r hr v hv,fun r hr v hv=>?_,fun ho _=>?_,(fun r h=>by rw [hle.rc] at h; cases h),h.live⟩
 ·rw [hle.row r hr,h.len r (Nat.lt_of_lt_of_le hr hle.n),hle.ae]
 ·rw [hle.row r hr] at hv
  obtain ⟨v',h1,J⟩:=h.cell r (Nat.lt_of_lt_of_le hr hle.n) j v hv
  have zf:=hle.flat r hr v (by rw [hle.row r hr]; exact List.mem_of_getElem? hv)
  rw [J.ki zf] at h1
  exact ⟨v,h1,ao.kh zf⟩
 ·rw [hle.row r hr] at hv
  exact h.one r (Nat.lt_of_lt_of_le hr hle.n) v hv
 ·obtain ⟨h1,J⟩:=hle.own ho
  obtain ⟨cur,t,q1,q2,q3⟩:=h.own (ah.cQ h1).1 (ah.cQ h1).2
  exact ⟨cur,t,q1,q2,by omega⟩
theorem MC {σ:List Nat}:(ν.comp σ).le (ν.comp (σ++[aE])):=by
 intro j l h
 unfold Nu.comp at h ⊢
 cases e:σ[j]? with
 | none=>rw [e] at h; cases h
 | some s =>
  rw [List.getElem?_append_left (List.getElem?_eq_some_iff.1 e).1,e]
  rwa [e] at h
theorem JV {k:Prop} {τ:List Nat}:∀ {σ:List Nat} {bs:List ah},Bu H τ σ bs k→σ.length=bs.length∧(∀ (j s:Nat) (b:ah),σ[j]?=some s→bs[j]?=some b→∃ c,H[s]?=some (some c)∧Cn τ b c∧b.rc=none)∧k
 | [],[],h=>⟨rfl,fun j s b h=>by simp at h,h⟩
 | s::σ,b::bs,h=>by
  have gJ:b.rc=none∧gu H s fun c=>Cn τ b c∧Bu H τ σ bs k:=by
   cases b with
   | aL o e r=>exact ⟨rfl,h⟩
   | flat o n e g=>exact ⟨rfl,h⟩
   | bZ r=>exact h.elim
  obtain ⟨gJ,h⟩:=gJ
  obtain ⟨c,h1,J,h3⟩:=gl h
  obtain ⟨e1,e2,e3⟩:=JV h3
  refine ⟨by simp [e1],fun j s' b' hs hb=>?_,e3⟩
  cases j with
  | zero=>simp at hs hb; subst hs; subst hb; exact ⟨c,h1,J,gJ⟩
  | succ j=>exact e2 j s' b' (by simpa using hs) (by simpa using hb)
 | [],_::_,h=>h.elim
 | _::_,[],h=>h.elim
theorem LO {τ:List Nat} {m:Nat}:∀ {xs l:List Value},lU τ m xs=some l→xs.length=l.length∧∀ (j:Nat) v,xs[j]?=some v→∃ v2,l[j]?=some v2∧cL τ m v=some v2
 | [],l,h=>by rw [EZ h]; exact ⟨rfl,fun j v h=>by simp at h⟩
 | x::xs,l,h=>by
  obtain ⟨y,ys,rfl,h1,J⟩:=Ee h
  obtain ⟨h3,h4⟩:=LO J
  refine ⟨by simp [h3],fun j v hj=>?_⟩
  cases j with
  | zero=>simp at hj; subst hj; exact ⟨y,rfl,h1⟩
  | succ j=>exact h4 j v (by simpa using hj)
theorem Ui {τ:List Nat} {m:Nat} {v v2:Value} (h:cL τ m v=some v2) (J:v2.oneCell'=true):v.oneCell'=true:=by
 cases m with
 | zero=>simp [cL] at h
 | succ m =>
  unfold cL at h
  split at h <;> first | rfl | (cases h; exact J) | (split at h <;> cases h <;> exact J) | (cases h)
theorem bN.ler {ν:Nu} {σ:List Nat} {l:Loc} {b c:ah} {w:World} (h:bN ν l c w) (hle:Cn σ b c) (HU:b.rc=none):bN (ν.comp σ) l b w:=by
 rcases hle with hle | ⟨o,e,r,r',rfl,rfl,hr⟩
 ·exact h.le ⟨hle,HU⟩
 ·obtain ⟨h1,J⟩:=LO hr
  have one:∀ q,q < 1→q=0:=fun q hq=>by omega
  refine ⟨h.ae,fun q hq=>?_,fun q hq j v hv=>?_,(fun h=>nomatch h),fun q hq v hv=>?_,(fun h=>nomatch h),(fun r h=>nomatch h),h.live⟩
  ·obtain rfl:=one q hq
   exact h1.trans (h.len 0 hq)
  ·obtain rfl:=one q hq
   obtain ⟨v2,h3,h4⟩:=J j v hv
   obtain ⟨v',h5,h6⟩:=h.cell 0 hq j v2 h3
   exact ⟨v',h5,vL 3 _ _ _ h4 h6⟩
  ·obtain rfl:=one q hq
   obtain ⟨j,hj⟩:=List.getElem?_of_mem (show v∈r from hv)
   obtain ⟨v2,h3,h4⟩:=J j v hj
   exact Ui h4 (h.one 0 hq v2 (List.mem_of_getElem? h3))
/-- A call by contract. -/
theorem Yz {c:Call} {f:Operand} (hc:c.callee=.value f) (HV:∀ g S,Φ g=some S→Ck P g S)
  (h:bQ tmps f fun fv=>match fv with
   | .func (.func g) x y=>pr tmps c.args.toList fun vs=>pP x.toList vs fun l=>pP l y.toList fun args=>Gz Φ g args H aE k
   | _=>False):eG P (.call c) tmps H aE k:=by
 obtain ⟨fv,J,hf⟩:=cK h
 clear h
 split at J
 ·rename_i g x y
  obtain ⟨vs,h,fe⟩:=Aw J
  clear J
  have J:=vB (vB h)
  clear h
  have Nm:∀ (o:Oper) (ν:Nu) (a:Act),(∀ z∈(Op.call c).operands,eW ν tmps a z)→∃ ys c5,a.eval f=.func (.func g) ⟨ys⟩ ⟨c5⟩∧bc ν (x.toList++vs++y.toList) ((ys++c.args.toList.map a.eval)++c5):=by
   intro o ν a ha
   have fe:=fe ν a (fun z hz=>ha z (by simp [Op.operands,Call.operands,hc]; exact .inr (by simpa using hz)))
   obtain ⟨ys,c5,jE,h1,J⟩:=(hf ν a (ha f (by simp [Op.operands,Call.operands,hc]))).rh
   exact ⟨ys,c5,jE,(h1.append fe).append J⟩
  have NQ:∀ (o:Oper) (a:Act) (w:World) (ys c5:List Value),(∀ args w,(callFunc g args).run P w=.ok (.enter g args) w)→o.op=.call c→a.eval f=.func (.func g) ⟨ys⟩ ⟨c5⟩ →
    (execOp a.eval o).run P w=.ok (.enter g ⟨(ys++c.args.toList.map a.eval)++c5⟩) w:=by
   intro o a w ys c5 nJ ho jE
   simp only [execOp,ho,resolve,hc,jE,Deferred.ofValue,Sem.run_bind,Sem.run_pure,Result.andThen_ok,invoke,nJ]
   congr 2
   apply Array.ext'
   simp
  have core:∀ (S:bk) (i:S.ι) (σ:List Nat) (v:Value),c4 P g S→lU σ 3 (S.args i)=some (x.toList++vs++y.toList)→S.pre i→σ.length=(S.ai i).length →
    (∀ (ν:Nu) (w:World),bR ν H w→∀ id b,(S.ai i)[id]?=some b→∃ l,(ν.comp σ) id=some l∧bN (ν.comp σ) l b w)→cL (σ++[aE]) 3 (S.val i)=some v→k v (S.new i)→eG P (.call c) tmps H aE k:=by
   intro S i σ v hs nC hp hlen Hf hv h
   refine ⟨_,_,h,fun o ν a w r n ho ha hH hn next Q hN=>⟨fun _ _=>trivial,?_⟩⟩
   obtain ⟨ys,c5,jE,nr⟩:=Nm o ν a ha
   have YA:=s7 (vL (ν:=ν) 3) nC nr
   rw [Oper.semAt_eq _ _ _ (by simp [ho]),NQ o a w ys c5 hs.enters ho jE]
   refine ⟨fun h=>by simp [WF,Fence.wide] at h,?_⟩
   have lh:bR (ν.comp σ) ((S.ai i).map some) w:=by
    have ky:∀ (id:Nat) (b:ah),((S.ai i).map some)[id]?=some (some b)→(S.ai i)[id]?=some b:=by
     intro id b bm
     rw [List.getElem?_map] at bm
     cases e:(S.ai i)[id]? with
     | none=>rw [e] at bm; cases bm
     | some b'=>rw [e] at bm; simp at bm; rw [bm]
    refine ⟨fun id b bm=>Hf ν w hH id b (ky id b bm),fun p q bp bq lp lq HW _ _ ho=>?_⟩
    have:=hs.ro i bp (List.mem_of_getElem? (ky p bp HW))
    rw [this] at ho; cases ho
   have fM:∀ id,(S.ai i).length≤id→(ν.comp σ) id=none:=by
    intro id bm
    simp [Nu.comp,List.getElem?_eq_none (show σ.length≤id by omega)]
   have yu:=hs.calls i hp (ν.comp σ) _ w (n - 1) YA lh fM
   have x8:CallsIn (WF r) (n - 1) P g ⟨(ys++c.args.toList.map a.eval)++c5⟩ w fun e w'=>∃ v' aj,e=.returned v'∧mH (ν.comp σ) aj (S.ai i).length w w' (S.val i) v' (S.new i):=yu
   refine x8.mono ?_
   rintro e w' ⟨v',fN,rfl,hq⟩
   cases dn:S.new i with
   | none =>
    have e1:=hq.y7 dn
    refine hN _ _ ν ⟨ν.le_refl,fun _ _=>rfl,?_,hq.below,fun _=>rfl,(fun b hb=>by rw [dn] at hb; cases hb)⟩
    refine E2 3 _ _ _ hv (hq.val.mono ?_)
    rw [e1]; exact MC
   | some b =>
    obtain ⟨l,h1,J,h3⟩:=hq.gI b dn
    have hle:fN.le ((ν.add aE l).comp (σ++[aE])):=by
     intro j lj hj
     by_cases e:j=(S.ai i).length
     ·subst e
      rw [h1] at hj; cases hj
      simp [Nu.comp,← hlen,Nu.add_same]
     ·rw [hq.only j e] at hj
      have:=MC (aE:=aE) j lj hj
      unfold Nu.comp at this ⊢
      cases e2:(σ++[aE])[j]? with
      | none=>rw [e2] at this; cases this
      | some s =>
       rw [e2] at this
       exact Nu.jN hn s lj this
    have sf:=hs.fl i b dn
    refine hN _ _ (ν.add aE l) ⟨Nu.jN hn,fun id bm=>Nu.iD bm,E2 3 _ _ _ hv (hq.val.mono hle),hq.below,(fun h=>by rw [dn] at h; cases h),(fun b' bE=>?_)⟩
    rw [dn] at bE; cases bE
    exact ⟨l,Nu.add_same,J.E3 (J.plain sf),h3⟩
  unfold Gz at J
  split at J
  ·rename_i S hS
   obtain ⟨i,hi,hp,h⟩:=J
   have h:=vm h
   have hs:aZ P g S:=HV g _ hS
   refine ⟨_,none,h,fun o ν a w r n ho ha hH hn next Q hN=>⟨fun _ _=>trivial,?_⟩⟩
   obtain ⟨ys,c5,jE,nr⟩:=Nm o ν a ha
   rw [← hi] at nr
   rw [Oper.semAt_eq _ _ _ (by simp [ho]),NQ o a w ys c5 hs.enters ho jE]
   refine ⟨fun h=>by simp [WF,Fence.wide] at h,?_⟩
   have yu:=hs.calls i hp ν _ w (n - 1) nr
   have x8:CallsIn (WF r) (n - 1) P g ⟨(ys++c.args.toList.map a.eval)++c5⟩ w fun e w'=>∃ v',e=.returned v'∧ao ν (S.val i) v'∧Below w.heap.size w w':=yu
   refine x8.mono ?_
   rintro e w' ⟨v',rfl,hv,hb⟩
   exact hN _ _ ν ⟨ν.le_refl,fun _ _=>rfl,hv,hb,fun _=>rfl,(fun b hb=>by cases hb)⟩
  ·rename_i S hS
   obtain ⟨i,σ,nC,hp,h⟩:=J
   obtain ⟨hlen,nI,v,hv,h⟩:=DR h
   refine core S i σ v (HV g _ hS) nC hp hlen (fun ν w hH id b bm=>?_) hv (vm h)
   have ak:id < σ.length:=by rw [hlen]; exact (List.getElem?_eq_some_iff.1 bm).1
   obtain ⟨cb,h1,J⟩:=nI id _ b (List.getElem?_eq_getElem ak) bm
   obtain ⟨l,h3,h4⟩:=hH.aH _ _ h1
   exact ⟨l,by simp [Nu.comp,List.getElem?_eq_getElem ak,h3],h4.le J⟩
  ·rename_i S hS
   obtain ⟨i,σ,nC,hp,h⟩:=J
   obtain ⟨hlen,nI,v,hv,h⟩:=JV h
   refine core S i σ v (HV g _ hS) nC hp hlen (fun ν w hH id b bm=>?_) hv (vm h)
   have ak:id < σ.length:=by rw [hlen]; exact (List.getElem?_eq_some_iff.1 bm).1
   obtain ⟨cb,h1,J,h5⟩:=nI id _ b (List.getElem?_eq_getElem ak) bm
   obtain ⟨l,h3,h4⟩:=hH.aH _ _ h1
   exact ⟨l,by simp [Nu.comp,List.getElem?_eq_getElem ak,h3],h4.ler J h5⟩
  ·exact J.elim
 ·exact J.elim
/-- Beside the frame: what was there and is not one's own has not turned. -/
structure Kept (O:Nat→Prop) (w w':World):Prop where
 os:w'.os=w.os
 tape:w'.tape=w.tape
 output:w'.output=w.output
 size:w.heap.size≤w'.heap.size
 aH:∀ b,b < w.heap.size→¬ O b→w'.heap[b]?=w.heap[b]?
theorem Kept.refl {O:Nat→Prop} (w:World):Kept O w w:=⟨rfl,rfl,rfl,Nat.le_refl _,fun _ _ _=>rfl⟩
theorem Kept.below {O:Nat→Prop} {W w w':World} (h:Kept O W w) (hb:Below w.heap.size w w'):Kept O W w' :=
 ⟨hb.os.trans h.os,hb.tape.trans h.tape,hb.output.trans h.output,Nat.le_trans h.size hb.size,fun b h1 J=>(hb.block b (Nat.lt_of_lt_of_le h1 h.size)).trans (h.aH b h1 J)⟩
theorem Kept.then {O O':Nat→Prop} {W w w':World} (h:Kept O W w) (h':Kept O' w w') (hO:∀ b,O' b→O b∨W.heap.size≤b):Kept O W w' :=
 ⟨h'.os.trans h.os,h'.tape.trans h.tape,h'.output.trans h.output,Nat.le_trans h.size h'.size,fun b h1 J =>
  (h'.aH b (Nat.lt_of_lt_of_le h1 h.size) (fun h3=>(hO b h3).elim J (fun h4=>by omega))).trans (h.aH b h1 J)⟩
structure fK (P:Program) (f:FuncId) (F:FT):Prop where
 enters:∀ args w,(callFunc f args).run P w=.ok (.enter f args) w
 calls:∀ (args:List Value) (H:ax) (K:Value→ax→Prop),F args H K→∀ (ν:Nu) (as:List Value) (w:World) (n:Nat) (O:Nat→Prop),bc ν args as→bR ν H w→(∀ id,H.length≤id→ν id=none) →
  (∀ id b l,H[id]?=some (some b)→b.own=true→ν id=some l→O l.aH) →
  CallsIn Fence.wide n P f ⟨as⟩ w fun e w'=>∃ v v' aj H',e=.returned v'∧K v H'∧ao aj v v'∧ν.le aj∧bR aj H' w'∧(∀ id,H'.length≤id→aj id=none)∧Kept O w w' ∧
   ∀ id b l,H'[id]?=some (some b)→b.own=true→aj id=some l→O l.aH∨w.heap.size≤l.aH
structure EnvOk (P:Program) (E:Env):Prop where
 ty:∀ t ti,E.tt t=some ti→ay P t ti
 eq:∀ t∈E.eqs,∀ ti,E.tt t=some ti→wW P t ti.zero
 fn:∀ g S,E.Φ g=some S→Ck P g S
 ft:∀ g F,E.Ψ g=some F→fK P g F:=by intro g F h; cases h
/-- Behind a call of a function that works upon the abstract heap. -/
def F8 (K:Value→ax→Prop) (ν:Nu) (O:Nat→Prop) (w:World) (e:Ending) (w':World):Prop :=
 ∃ v v' aj H',e=.returned v'∧K v H'∧ao aj v v'∧ν.le aj∧bR aj H' w'∧(∀ id,H'.length≤id→aj id=none)∧Kept O w w' ∧
   ∀ id b l,H'[id]?=some (some b)→b.own=true→aj id=some l→O l.aH∨w.heap.size≤l.aH
/-- A round of a range over a function. -/
def Pk (P:Program) (l:Nat) (G:FT) (bh:Nu):Prop :=
 ∀ (args:List Value) (H:ax) (K:Value→ax→Prop),G args H K→∀ (ν:Nu) (as:List Value) (w:World) (n:Nat) (O:Nat→Prop),bh.le ν→bc ν args as→bR ν H w→(∀ id,H.length≤id→ν id=none) →
  (∀ id b l,H[id]?=some (some b)→b.own=true→ν id=some l→O l.aH)→YieldAt Fence.wide n P l ⟨as⟩ w (F8 K ν O w)
/-- An iterator under a yield value. -/
structure yN (P:Program) (f:FuncId) (I:Nat→FT→Nu→FT):Prop where
 enters:∀ args w,(callFunc f args).run P w=.ok (.enter f args) w
 calls:∀ l G bh,Pk P l G bh→∀ (args:List Value) (H:ax) (K:Value→ax→Prop),I l G bh args H K→∀ (ν:Nu) (as:List Value) (w:World) (n:Nat) (O:Nat→Prop),bh.le ν→bc ν args as→bR ν H w→(∀ id,H.length≤id→ν id=none) →
  (∀ id b l,H[id]?=some (some b)→b.own=true→ν id=some l→O l.aH)→CallsIn Fence.wide n P f ⟨as⟩ w (F8 K ν O w)
def gB (P:Program) (E:Env):Prop:=∀ f I,E.It f=some I→yN P f I
theorem gB.none {P:Program} {E:Env} (h:E.It=fun _=>none):gB P E:=fun f I hI=>by rw [h] at hI; cases hI
/-- An environment with its iterators and its yield values. -/
structure jy (P:Program) (E:Env):Prop extends EnvOk P E where
 HX:gB P E
 ys:∀ l G r,E.ys=(l,G)::r→Pk P l G E.nu
theorem EnvOk.x {P:Program} {E:Env} (h:EnvOk P E) (hI:gB P E) (hy:E.ys=[]):jy P E:=⟨h,hI,fun l G r e=>by rw [hy] at e; cases e⟩
/-- A table of contracts, and what is to be shown of them. -/
def pG {α:Type _}:List (Nat × α)→Nat→Option α
 | [],_=>none
 | c::l,g=>match Nat.beq c.1 g with
  | true=>some c.2
  | false=>pG l g
def uj {α:Type _} (Q:Nat→α→Prop):List (Nat × α)→Prop
 | []=>True
 | c::l=>Q c.1 c.2∧uj Q l
theorem vM {α:Type _} {Q:Nat→α→Prop}:∀ {l:List (Nat × α)} {g:Nat} {S:α},uj Q l→pG l g=some S→Q g S
 | c::l,g,S,hq,h=>by
  unfold pG at h
  split at h
  ·rename_i e; cases h; rw [← Nat.eq_of_beq_eq_true e]; exact hq.1
  ·exact vM hq.2 h
/-- All of them. -/
theorem AE {E:Env} (hE:EnvOk P E) {op:Op} (h:kD E op tmps H aE k):eG P op tmps H aE k:=by
 cases op
 case move=>exact Yv h
 case assign=>exact Ud h
 case pick=>exact Yw h
 case alloc=>exact VJ hE.ty h
 case box=>exact aaM hE.ty h
 case build=>exact VO hE.ty h
 case load=>exact Yx hE.ty h
 case fieldAddr=>exact Rd hE.ty h
 case field=>exact VK hE.ty h
 case indexAddr=>exact Re hE.ty h
 case index=>exact VN hE.ty h
 case extract=>exact S0 h
 case makeFunc=>exact RE h
 case unOp=>exact acq h
 case binOp=>exact aaO hE.ty hE.eq h
 case convert=>exact S8 hE.ty h
 case buildSlice=>exact QP hE.ty h
 case makeSlice=>exact Rg hE.ty h
 case slice=>exact VM hE.ty h
 case call c =>
  unfold kD at h
  dsimp only at h
  split at h
  ·rename_i f hc
   exact Yz hc hE.fn h
  ·rename_i hc
   split at h
   ·rename_i x t hx ht
    exact aaP hE.ty hc (Array.ext' hx) (Array.ext' ht) h
   ·exact h.elim
  ·rename_i hc
   split at h
   ·rename_i x y hx
    exact aaQ hc (Array.ext' hx) h
   ·exact h.elim
  ·rename_i hc
   split at h
   ·rename_i x t hx ht
    exact aaU hE.ty hc (Array.ext' hx) (Array.ext' ht) h
   ·exact h.elim
  ·rename_i hc
   split at h
   ·rename_i x y t u hx ht
    exact RI hE.ty hc (Array.ext' hx) (Array.ext' ht) h
   ·exact h.elim
  ·rename_i hc
   split at h
   ·rename_i x y hx
    exact aaR hc (Array.ext' hx) h
   ·exact h.elim
  ·exact h.elim
 all_goals exact h.elim
end
end Go.Ae
/- Stores; what stands between the abstract state and the machine's. -/
namespace Go.Ae
open Go Go.RowKit
abbrev SK:=List Value→ax→Prop
/-- A store of cells into a row. -/
def Fy:List (List Value)→Nat→Nat→List Value→(List (List Value)→Prop)→Prop
 | [],_,_,_,_=>False
 | r::rs,0,c,vs,k=>uh r c vs fun r'=>k (r'::rs)
 | r::rs,n+1,c,vs,k=>Fy rs n c vs fun bX=>k (r::bX)
theorem Jz:∀ {rs:List (List Value)} {n c:Nat} {vs:List Value} {k:List (List Value)→Prop},Fy rs n c vs k →
  ∃ r r',rs[n]?=some r∧(r'.length=r.length∧c+vs.length≤r.length∧(∀ (j:Nat) v,vs[j]?=some v→r'[c+j]?=some v)∧∀ (j:Nat),(j < c∨c+vs.length≤j)→r'[j]?=r[j]?)∧k (rs.set n r')
 | [],_,_,_,_,h=>h.elim
 | r::rs,0,c,vs,k,h=>by
  obtain ⟨l',h0,h1⟩:=xM h
  exact ⟨r,l',rfl,h1,by simpa using h0⟩
 | r::rs,n+1,c,vs,k,h=>by
  obtain ⟨q,q',h1,J,h3⟩:=Jz (rs:=rs) h
  exact ⟨q,q',by simpa using h1,J,by simpa using h3⟩
def jo:List Value→Bool
 | []=>true
 | v::l=>cC v && jo l
theorem xz:∀ {l:List Value},jo l=true→∀ v∈l,cC v=true
 | [],_,v,hv=>by simp at hv
 | v::l,h,u,hu=>by
  simp only [jo,Bool.and_eq_true] at h
  rcases List.mem_cons.1 hu with e | e
  ·rw [e]; exact h.1
  ·exact xz h.2 u e
def LP (b:ah) (row bW:Nat) (cs:List Value) (k:ah→Prop):Prop :=
 match b with
 | .aL true ae rows=>Fy rows row bW cs fun iF=>k (.aL true ae iF)
 | .flat true n ae get=>row < n∧match jo cs with
  | true=>uh (get row) bW cs fun r'=>k (.flat true n ae fun j=>if j=row then r' else get j)
  | false=>False
 | _=>False
def BA (E:Env) (tmps:List Value) (H:ax) (t:TypeId) (x y:Operand) (k:SK):Prop :=
 bQ tmps x fun av=>match av with
  | .pointer (some ⟨id,row,sp⟩)=>bQ tmps y fun v=>wi v fun cs=>cE E.tt t fun ti=>match o8 cs ti.size with
   | true=>gu H id fun b=>LP b row (sp.getD 0) cs fun b'=>iZ H id (some b') fun H'=>k tmps H'
   | false=>False
  | _=>False
def db (tmps:List Value) (d:Option Tmp) (v:Value) (k:List Value→Prop):Prop :=
 match d with
 | none=>k tmps
 | some d=>wU tmps d v k
def uk (H:ax) (nb:Option ah) (k:ax→Prop):Prop :=
 match nb with
 | none=>k H
 | some b=>oq H (some b) k
/-- The frame of a function: the world in which it was entered, the blocks that it may write, the numbering that it found. -/
structure Fr where
 W:World
 O:Nat→Prop
 ν:Nu
 n0:Nat
 fresh:∀ id,n0≤id→ν id=none
/-- A frame that suits an environment. -/
structure kE (F:Fr) (E:Env):Prop where
 n0:F.n0≤E.base
 nu:E.nu.le F.ν
/-- The deferred calls of an activation: marks of ranges over functions, whose blocks hold no calls. -/
def Marks (n:Nat) (ds:List Deferred) (w:World):Prop :=
 ds.Nodup∧∀ d∈ds,∃ D,d={ target:=.collected D,args:=#[] }∧n≤D∧w.heap[D]?=some (.deferred (some []))
theorem Marks.nil (n:Nat) (w:World):Marks n [] w:=⟨.nil,fun d hd=>by cases hd⟩
theorem AF {n:Nat} {ds:List Deferred} {w w':World} (h:Marks n ds w) (hk:∀ D:Nat,w.heap[D]?=some (Obj.deferred (some []))→w'.heap[D]?=some (Obj.deferred (some []))):Marks n ds w' :=
 ⟨h.1,fun d hd=>let ⟨D,h1,J,h3⟩:=h.2 d hd; ⟨D,h1,J,hk D h3⟩⟩
theorem Marks.below {n:Nat} {ds:List Deferred} {w w':World} (h:Marks n ds w) (hb:Below w.heap.size w w'):Marks n ds w' :=
 AF h fun D hD=>(hb.block D (Array.getElem?_eq_some_iff.1 hD).1).trans hD
/-- One block of cells has turned. -/
theorem Marks.gh {n:Nat} {ds:List Deferred} {w w':World} (h:Marks n ds w) {b:Nat} {cur:Array Value} {t:TypeId} {z:Nat × Nat} (hb:w.heap[b]?=some (Obj.cells cur t z)) (hk:∀ q:Nat,q≠b→w'.heap[q]?=w.heap[q]?):Marks n ds w' :=
 AF h fun D hD=>(hk D (fun e=>by rw [e,hb] at hD; cases hD)).trans hD
/-- What stands between the abstract state and the machine's. -/
structure bt (F:Fr) (ν:Nu) (tmps:List Value) (H:ax) (a:Act) (w:World):Prop where
 tm:bc ν tmps a.tmps.toList
 df:Marks F.W.heap.size a.defers w
 hp:bR ν H w
 fr:∀ id,H.length≤id→ν id=none
 kp:Kept F.O F.W w
 own:∀ id b l,H[id]?=some (some b)→b.own=true→ν id=some l→F.O l.aH∨F.W.heap.size≤l.aH
 mono:F.ν.le ν
section
variable {P:Program} {E:Env} {r:Option Nat} {n:Nat} {F:Fr}
theorem bt.lQ {ν:Nu} {tmps:List Value} {H:ax} {a:Act} {w:World} (h:bt F ν tmps H a w) (x:Operand):eW ν tmps a x:=by
 intro t ht v hv
 obtain ⟨v',h1,J⟩:=h.tm.get hv
 exact ⟨v',by simpa using h1,J⟩
theorem qZ (a:Act) (d:Tmp) (v:Value):(a.put (some d) v).tmps.toList=a.tmps.toList.set d v:=by simp [Act.put]
/-- A slot is written. -/
theorem bt.dst {ν:Nu} {tmps:List Value} {H:ax} {a:Act} {w:World} (h:bt F ν tmps H a w) {d:Option Tmp} {v v':Value} (hv:ao ν v v') {k:List Value→Prop} (hk:db tmps d v k) :
  ∃ t',k t'∧bt F ν t' H (a.put d v') w:=by
 cases d with
 | none=>exact ⟨tmps,hk,h⟩
 | some d =>
  obtain ⟨h1,J⟩:=n7 hk
  exact ⟨_,J,⟨by rw [qZ]; exact h.tm.set hv d,h.df,h.hp,h.fr,h.kp,h.own,h.mono⟩⟩
/-- Behind an operation that wrote nothing. -/
theorem bt.quiet {ν aj:Nu} {tmps:List Value} {H:ax} {a:Act} {w w':World} (h:bt F ν tmps H a w) {v v':Value} {nb:Option ah} (hq:mH ν aj H.length w w' v v' nb)
  {k:ax→Prop} (hk:uk H nb k):∃ H',k H'∧bt F aj tmps H' a w':=by
 have hb:=hq.below
 cases nb with
 | none =>
  have:=hq.y7 rfl
  subst this
  exact ⟨H,hk,⟨h.tm,h.df.below hb,h.hp.below hb,h.fr,h.kp.below hb,h.own,h.mono⟩⟩
 | some b =>
  obtain ⟨l,hl,hB,hle⟩:=hq.gI b rfl
  refine ⟨_,xG hk,⟨h.tm.mono hq.le,h.df.below hb,?_,fun id bm=>?_,h.kp.below hb,fun id c lc hc ho dy=>?_,Nu.le_trans h.mono hq.le⟩⟩
  ·have kv:aj=ν.add H.length l:=by
    funext id
    by_cases e:id=H.length
    ·subst e; rw [hl,Nu.add_same]
    ·rw [hq.only id e,Nu.iD e]
   subst kv
   refine h.hp.push hb (h.fr _ (Nat.le_refl _)) _ (fun j c hj=>?_) hle hB
   rw [List.getElem?_append] at hj
   split at hj
   ·rename_i ak; exact .inr ⟨by omega,hj⟩
   ·rename_i dS
    have:j - H.length=0:=by
     have:=(List.getElem?_eq_some_iff.1 hj).1
     simp at this; omega
    rw [this] at hj
    simp at hj
    exact .inl ⟨by omega,hj.symm⟩
  ·rw [List.length_append,List.length_singleton] at bm
   rw [hq.only id (by omega)]
   exact h.fr id (by omega)
  ·rw [List.getElem?_append] at hc
   split at hc
   ·rename_i ak
    have aI:id≠H.length:=by omega
    rw [hq.only id aI] at dy
    exact h.own id c lc hc ho dy
   ·rename_i dS
    have:id - H.length=0:=by
     have:=(List.getElem?_eq_some_iff.1 hc).1
     simp at this; omega
    have:id=H.length:=by omega
    subst this
    rw [hl] at dy; cases dy
    exact .inr (Nat.le_trans h.kp.size hle)
/-- How a store turns a block. -/
structure xh (b b':ah) (row bW:Nat) (cs:List Value):Prop where
 own:b.nz=true
 Ow:b'.nz=true
 n:b'.n=b.n
 ae:b'.ae=b.ae
 flat:b'.js=b.js
 lt:row < b.n
 len:(b'.row row).length=(b.row row).length
 fit:bW+cs.length≤(b.row row).length
 HY:∀ j v,cs[j]?=some v→(b'.row row)[bW+j]?=some v
 out:∀ j,(j < bW∨bW+cs.length≤j)→(b'.row row)[j]?=(b.row row)[j]?
 CN:∀ q,q≠row→b'.row q=b.row q
 pl:b.js=true→∀ v∈cs,cC v=true
theorem QF {b:ah} {row bW:Nat} {cs:List Value} {k:ah→Prop} (h:LP b row bW cs k):∃ b',xh b b' row bW cs∧k b':=by
 cases b with
 | aL o ae rows =>
  cases o with
  | false=>exact h.elim
  | true =>
   obtain ⟨q,l',h1,⟨k1,k2,k3,k4⟩,h3⟩:=Jz h
   have ak:row < rows.length:=(List.getElem?_eq_some_iff.1 h1).1
   have e1:(ah.aL true ae (rows.set row l')).row row=l':=by simp [ah.row,List.getD,ak]
   have e2:(ah.aL true ae rows).row row=q:=by simp [ah.row,List.getD,h1]
   refine ⟨.aL true ae (rows.set row l'),⟨rfl,rfl,by simp [ah.n],rfl,rfl,ak,by rw [e1,e2]; exact k1,by rw [e2]; exact k2,by rw [e1]; exact k3,by rw [e1,e2]; exact k4,fun p hp=>?_,fun h=>by simp [ah.js] at h⟩,h3⟩
   simp [ah.row,List.getD,List.getElem?_set,Ne.symm hp]
 | flat o n ae get =>
  cases o with
  | false=>exact h.elim
  | true =>
   obtain ⟨ak,h⟩:=h
   split at h
   ·rename_i hs
    obtain ⟨l',h0,k1,k2,k3,k4⟩:=xM h
    have e1:(ah.flat true n ae fun j=>if j=row then l' else get j).row row=l':=by simp [ah.row]
    exact ⟨.flat true n ae fun j=>if j=row then l' else get j,⟨rfl,rfl,rfl,rfl,rfl,ak,by rw [e1]; exact k1,k2,by rw [e1]; exact k3,by rw [e1]; exact k4,fun p hp=>by simp [ah.row,hp],fun _=>xz hs⟩,h0⟩
   ·exact h.elim
 | bZ r=>exact h.elim
theorem xh.o {b b':ah} {row bW:Nat} {cs:List Value} (h:xh b b' row bW cs):b.own=true:=(ah.cQ h.own).1
theorem xh.o' {b b':ah} {row bW:Nat} {cs:List Value} (h:xh b b' row bW cs):b'.own=true:=(ah.cQ h.Ow).1
theorem n3 (b:Nat):∀ (vs:List Value) (o:Nat) (w:World),(w.setCells b o vs).heap.size=w.heap.size
 | [],_,_=>rfl
 | v::r,o,w=>by rw [World.setCells,n3 b r]; simp [World.setCell]
theorem qO (b:Nat):∀ (vs:List Value) (o:Nat) (w:World) (k:Nat),k≠b→(w.setCells b o vs).heap[k]?=w.heap[k]?
 | [],_,_,_,_=>rfl
 | v::r,o,w,k,hk=>by rw [World.setCells,qO b r _ _ k hk]; exact Below.heap_setCell _ _ _ _ hk
theorem z9 (b:Nat):∀ (vs:List Value) (o:Nat) (w:World) (cur:Array Value) (t:TypeId),w.heap[b]?=some (.cells cur t (0,0)) →
  ∃ oA,(w.setCells b o vs).heap[b]?=some (.cells oA t (0,0))∧oA.size=cur.size
 | [],_,w,cur,t,h=>⟨cur,h,rfl⟩
 | v::r,o,w,cur,t,h=>by
  rw [World.setCells]
  have h1:(w.setCell ⟨b,o,none⟩ v).heap[b]?=some (.cells (cur.setIfInBounds o v) t (0,0)):=by
   simp [World.setCell,Array.getElem?_modify,h]
  obtain ⟨oA,J,h3⟩:=z9 b r (o+1) _ _ t h1
  exact ⟨oA,J,by rw [h3]; simp⟩
theorem vn (b:Nat):∀ (vs:List Value) (o:Nat) (w:World),(w.setCells b o vs).os=w.os∧(w.setCells b o vs).tape=w.tape∧(w.setCells b o vs).output=w.output
 | [],_,_=>⟨rfl,rfl,rfl⟩
 | v::r,o,w=>by rw [World.setCells]; exact vn b r _ _
/-- Cells of one's own, written over. -/
theorem bR.store {ν:Nu} {H:ax} {w:World} (h:bR ν H w) {id:Nat} {b b':ah} {l:Loc} (hb:H[id]?=some (some b)) (hl:ν id=some l) {row bW:Nat} {cs dW:List Value}
  (hu:xh b b' row bW cs) (hr:bc ν cs dW) (h1:∀ v∈cs,v.oneCell'=true) :
  bR ν (H.set id (some b')) (w.setCells l.aH (l.base+row*l.ae+bW) dW):=by
 obtain ⟨l',cl,hB⟩:=h.aH id b hb
 rw [hl] at cl; cases cl
 have bm:id < H.length:=(List.getElem?_eq_some_iff.1 hb).1
 have ky:∀ j c,(H.set id (some b'))[j]?=some (some c)→(j=id∧c=b')∨(j≠id∧H[j]?=some (some c)):=by
  intro j c hj
  by_cases e:j=id
  ·subst e; rw [List.getElem?_set_self bm] at hj; cases hj; exact .inl ⟨rfl,rfl⟩
  ·rw [List.getElem?_set_ne (Ne.symm e)] at hj; exact .inr ⟨e,hj⟩
 have He:=hB.ae
 have hlen:=hB.len row hu.lt
 obtain ⟨cur,t,jz,fx,NR⟩:=hB.own hu.o (ah.cQ hu.own).2
 have eH:dW.length=cs.length:=hr.1.symm
 -- the cells of other places
 have wX:∀ r j,r < b.n→j < b.ae→(r≠row∨j < bW∨bW+cs.length≤j)→(w.setCells l.aH (l.base+row*l.ae+bW) dW).cell? (l.at r j)=w.cell? (l.at r j):=by
  intro r j jb hj aI
  refine World.cell?_setCells_out l.aH _ _ _ _ (fun _ _=>?_)
  have wY:=hu.fit
  rw [hlen] at wY
  simp only [Loc.at,He,eH]
  rcases Nat.lt_trichotomy r row with h | h | h
  ·left
   have:(r+1)*b.ae≤row*b.ae:=Nat.mul_le_mul_right _ h
   rw [Nat.add_mul] at this
   omega
  ·subst h
   rcases aI with aI | aI | aI
   ·exact absurd rfl aI
   ·left; omega
   ·right; omega
  ·right
   have:(row+1)*b.ae≤r*b.ae:=Nat.mul_le_mul_right _ h
   rw [Nat.add_mul] at this
   omega
 have oL:∀ j v,dW[j]?=some v→(w.setCells l.aH (l.base+row*l.ae+bW) dW).cell? (l.at row (bW+j))=some v:=by
  intro j v hv
  have hj:j < dW.length:=(List.getElem?_eq_some_iff.1 hv).1
  have wY:=hu.fit
  have:=World.cell?_setCells_in l.aH dW (l.base+row*l.ae+bW) w (fun m hm=>by
   have HT:bW+m < (b.row row).length:=by omega
   obtain ⟨u,uH,_⟩:=hB.cell row hu.lt (bW+m) _ (List.getElem?_eq_getElem HT)
   simp only [Loc.at] at uH
   rw [show l.base+row*l.ae+bW+m=l.base+row*l.ae+(bW+m) by omega,uH]; rfl) j hj
  simp only [Loc.at]
  rw [show l.base+row*l.ae+(bW+j)=l.base+row*l.ae+bW+j by omega,this]
  rw [← hv]
  simp
 refine ⟨fun j c hj=>?_,fun i j bi bj li lj hi hj aI ho e1 e2=>?_⟩
 ·rcases ky j c hj with ⟨rfl,rfl⟩ | ⟨aI,fL⟩
  ·refine ⟨l,hl,⟨by rw [hu.ae]; exact hB.ae,fun q hq=>?_,fun q hq j v hv=>?_,fun hf q hq v hv=>?_,fun q hq v hv=>?_,fun _ _=>?_,(fun r h=>by rw [(ah.cQ hu.Ow).2] at h; cases h),?_⟩⟩
   ·rw [hu.n] at hq
    by_cases e:q=row
    ·subst e; rw [hu.len,hu.ae]; exact hlen
    ·rw [hu.CN q e,hu.ae]; exact hB.len q hq
   ·rw [hu.n] at hq
    by_cases e:q=row
    ·subst e
     by_cases hj:bW≤j∧j < bW+cs.length
     ·have CO:j - bW < cs.length:=by omega
      have:=hu.HY (j - bW) _ (List.getElem?_eq_getElem CO)
      rw [show bW+(j - bW)=j by omega,hv] at this
      cases this
      obtain ⟨v',J,h3⟩:=hr.get (List.getElem?_eq_getElem CO)
      have:=oL (j - bW) v' J
      rw [show bW+(j - bW)=j by omega] at this
      exact ⟨v',this,h3⟩
     ·have uI:=hu.out j (by omega)
      rw [uI] at hv
      obtain ⟨v',J,h3⟩:=hB.cell q hq j v hv
      have fL:j < b.ae:=by rw [← hlen]; exact (List.getElem?_eq_some_iff.1 hv).1
      exact ⟨v',by rw [wX q j hq fL (.inr (by omega))]; exact J,h3⟩
    ·rw [hu.CN q e] at hv
     obtain ⟨v',J,h3⟩:=hB.cell q hq j v hv
     have fL:j < b.ae:=by rw [← hB.len q hq]; exact (List.getElem?_eq_some_iff.1 hv).1
     exact ⟨v',by rw [wX q j hq fL (.inl e)]; exact J,h3⟩
   ·rw [hu.n] at hq; rw [hu.flat] at hf
    by_cases e:q=row
    ·subst e
     obtain ⟨j,hj,rfl⟩:=List.getElem_of_mem hv
     by_cases CO:bW≤j∧j < bW+cs.length
     ·have:=hu.HY (j - bW) _ (List.getElem?_eq_getElem (by omega:j - bW < cs.length))
      rw [show bW+(j - bW)=j by omega,List.getElem?_eq_getElem hj] at this
      injection this with this
      rw [this]
      exact hu.pl hf _ (List.getElem_mem _)
     ·have:=hu.out j (by omega)
      rw [List.getElem?_eq_getElem hj] at this
      exact hB.plain hf q hq _ (List.mem_of_getElem? this.symm)
    ·rw [hu.CN q e] at hv; exact hB.plain hf q hq v hv
   ·rw [hu.n] at hq
    by_cases e:q=row
    ·subst e
     obtain ⟨j,hj,rfl⟩:=List.getElem_of_mem hv
     by_cases CO:bW≤j∧j < bW+cs.length
     ·have:=hu.HY (j - bW) _ (List.getElem?_eq_getElem (by omega:j - bW < cs.length))
      rw [show bW+(j - bW)=j by omega,List.getElem?_eq_getElem hj] at this
      injection this with this
      rw [this]
      exact h1 _ (List.getElem_mem _)
     ·have:=hu.out j (by omega)
      rw [List.getElem?_eq_getElem hj] at this
      exact hB.one q hq _ (List.mem_of_getElem? this.symm)
    ·rw [hu.CN q e] at hv; exact hB.one q hq v hv
   ·obtain ⟨oA,J,h3⟩:=z9 l.aH dW (l.base+row*l.ae+bW) w cur t jz
    exact ⟨oA,t,J,by rw [h3]; exact fx,by rw [hu.n]; exact NR⟩
   ·rw [n3]; exact hB.live
  ·obtain ⟨lj,cU,p9⟩:=h.aH j c fL
   have Hg:=h.sep id j b c l lj hb fL (Ne.symm aI) hu.o hl cU
   exact ⟨lj,cU,p9.same (qO _ _ _ _ _ (Ne.symm Hg)) (by rw [n3]; exact Nat.le_refl _)⟩
 ·rcases ky i bi hi with ⟨rfl,rfl⟩ | ⟨hni,aM⟩ <;> rcases ky j bj hj with ⟨rfl,rfl⟩ | ⟨hnj,fL⟩
  ·exact absurd rfl aI
  ·exact h.sep _ j b bj li lj hb fL aI hu.o e1 e2
  ·exact h.sep i _ bi b li lj aM hb aI ho e1 e2
  ·exact h.sep i j bi bj li lj aM fL aI ho e1 e2
/-- A store: what the machine does, from the operands alone. -/
theorem Ki (hE:EnvOk P E) {o:Oper} {t:TypeId} {x y:Operand} (ho:o.op=.store t x y) {ν:Nu} {tmps ts:List Value} {H:ax} {a b:Act} {w:World} (hi:bt F ν ts H b w) {k:SK}
  (hx:eW ν tmps a x) (hy:eW ν tmps a y) (h:BA E tmps H t x y k):∃ w' H',(execOp a.eval o).run P w=.ok .skip w'∧bt F ν ts H' b w'∧k tmps H':=by
 obtain ⟨av,J,hv⟩:=kg h hx
 clear h
 split at J
 ·rename_i id row sp
  obtain ⟨v,h,hvv⟩:=kg J hy
  clear J
  have J:=Ai h
  clear h
  obtain ⟨ti,ht,h⟩:=cI J
  clear J
  split at h
  ·rename_i a9
   obtain ⟨hlen,pQ⟩:=xy a9
   obtain ⟨bl,hb,J⟩:=gl h
   clear h
   obtain ⟨b',hu,h⟩:=QF J
   clear J
   obtain ⟨ak,J⟩:=lJ h
   clear h
   obtain ⟨l,hl,he⟩:=hv.og
   obtain ⟨l',cl,hB⟩:=hi.hp.aH id bl hb
   rw [hl] at cl; cases cl
   have hc:=hvv.cells
   obtain ⟨cur,tt',jz,fx,NR⟩:=hB.own hu.o (ah.cQ hu.own).2
   obtain ⟨i,im,gi,_⟩:=(hE.ty _ _ ht).info
   have aaV:∀ u∈(a.eval y).cells.toList,u.oneCell'=true:=by
    intro u sh
    obtain ⟨j,hj,rfl⟩:=List.getElem_of_mem sh
    have fL:j < v.cells.toList.length:=by rw [hc.1]; exact hj
    have:=hc.2 j _ _ (List.getElem?_eq_getElem fL) (List.getElem?_eq_getElem hj)
    rw [this.Ba]; exact pQ _ (List.getElem_mem _)
   have an:(storeCells (l.at row (sp.getD 0)) (a.eval y).cells.toList).run P w=.ok () (w.setCells l.aH (l.base+row*l.ae+sp.getD 0) (a.eval y).cells.toList):=by
    have:=run_storeCells_cells (P:=P) l.aH (l.base+row*l.ae+sp.getD 0) (a.eval y).cells.toList 0 w (fun j hj=>by
     have wY:=hu.fit
     rw [hc.1] at wY
     obtain ⟨u,uH,_⟩:=hB.cell row hu.lt (sp.getD 0+j) _ (List.getElem?_eq_getElem (by omega))
     simp only [Loc.at] at uH
     rw [show l.base+row*l.ae+sp.getD 0+0+j=l.base+row*l.ae+(sp.getD 0+j) by omega,uH]; rfl) (fun j hj=>by
     simp [World.frozen?,jz]) aaV
    simpa [Loc.at] using this
   have aT:(a.eval y).cells.size=i.size:=by rw [gi,← hlen,hc.1]; simp
   have bA:(execOp a.eval o).run P w=.ok .skip (w.setCells l.aH (l.base+row*l.ae+sp.getD 0) (a.eval y).cells.toList):=by
    simp [execOp,ho,Instr.storeAt,he,Instr.sureAddr,storeVar,fR im,aT,an]
   have aM:bt F ν ts (H.set id (some b')) b (w.setCells l.aH (l.base+row*l.ae+sp.getD 0) (a.eval y).cells.toList):=by
    obtain ⟨o1,o2,o3⟩:=vn l.aH (a.eval y).cells.toList (l.base+row*l.ae+sp.getD 0) w
    refine ⟨hi.tm,hi.df.gh jz (fun q hq=>qO _ _ _ _ _ hq),hi.hp.store hb hl hu hc pQ,fun j hj=>hi.fr j (by simpa using hj),⟨o1.trans hi.kp.os,o2.trans hi.kp.tape,o3.trans hi.kp.output,by rw [n3]; exact hi.kp.size,fun q h1 J=>?_⟩,fun j c lc hj nK dy=>?_,hi.mono⟩
    ·rw [qO]
     ·exact hi.kp.aH q h1 J
     ·intro e
      subst e
      rcases hi.own id bl l hb hu.o hl with h | h
      ·exact J h
      ·omega
    ·by_cases e:j=id
     ·subst e
      rw [hl] at dy; cases dy
      exact hi.own j bl l hb hu.o hl
     ·rw [List.getElem?_set_ne (Ne.symm e)] at hj
      exact hi.own j c lc hj nK dy
   exact ⟨_,_,bA,aM,J⟩
  ·exact h.elim
 ·exact J.elim
/-- A store. -/
theorem Ri (hE:EnvOk P E) {o:Oper} {t:TypeId} {x y:Operand} (ho:o.op=.store t x y) {ν:Nu} {tmps:List Value} {H:ax} {a:Act} {w:World} (hi:bt F ν tmps H a w) {k:SK}
  (h:BA E tmps H t x y fun t' H'=>db t' o.dst undef fun uJ=>k uJ H') {next:Act→World→Prop} {Q:Exit→Act→World→Prop}
  (hk:∀ ν t' H' a' w',bt F ν t' H' a' w'→k t' H'→next a' w'):o.wpIn (WF r) n P a w next Q:=by
 obtain ⟨w',H',bA,aM,J⟩:=Ki hE ho hi (hi.lQ x) (hi.lQ y) h
 obtain ⟨t',HZ,acu⟩:=aM.dst (.undef ν) J
 refine ⟨fun _ _=>trivial,?_⟩
 rw [Oper.semAt_eq _ _ _ (by simp [ho]),bA]
 exact hk _ _ _ _ _ acu HZ
end
end Go.Ae
/- A block laid anew: what speaks of its old place is dead. -/
namespace Go.Ae
open Go Go.RowKit
/-- Whether a value speaks of a block. -/
def ot (id:Nat):Nat→Value→Bool
 | 0,_=>true
 | k+1,v=>match v with
  | .bool _ | .int _ _ | .string _ | .pointer none | .slice none _ _ | .nilFunc | .chan none=>false
  | .pointer (some ⟨j,_,_⟩)=>Nat.beq j id
  | .slice (some ⟨j,_,_⟩) _ _=>Nat.beq j id
  | .func _ ⟨l⟩ ⟨m⟩=>l.foldr (fun v acc=>ot id k v || acc) false || m.foldr (fun v acc=>ot id k v || acc) false
  | .agg ⟨l⟩=>l.foldr (fun v acc=>ot id k v || acc) false
  | .tuple ⟨l⟩=>l.foldr (fun v acc=>ot id k v || acc) false
  | _=>true
def rE (id k:Nat) (l:List Value):Bool:=l.foldr (fun v acc=>ot id k v || acc) false
theorem vr {id k:Nat}:∀ {l:List Value},rE id k l=false→∀ v∈l,ot id k v=false
 | [],_,v,hv=>by simp at hv
 | x::l,h,v,hv=>by
  simp only [rE,List.foldr_cons,Bool.or_eq_false_iff] at h
  rcases List.mem_cons.1 hv with e | e
  ·rw [e]; exact h.1
  ·exact vr (l:=l) h.2 v e
def Nu.off (ν aj:Nu) (id:Nat):Prop:=∀ j,j≠id→aj j=ν j
theorem bc.map {ν aj:Nu} {xs ys:List Value} (h:bc ν xs ys) (hm:∀ v∈xs,∀ r,ao ν v r→ao aj v r):bc aj xs ys :=
 ⟨h.1,fun i x y hx hy=>hm x (List.mem_of_getElem? hx) y (h.2 i x y hx hy)⟩
theorem DF {id:Nat} {ν aj:Nu} (gD:ν.off aj id):∀ (k:Nat) (v r:Value),ot id k v=false→ao ν v r→ao aj v r:=by
 intro k
 induction k with
 | zero=>intro v r h; simp [ot] at h
 | succ k ih =>
  intro v r h hr
  cases hr with
  | bool b=>exact .bool b
  | int q n=>exact .int q n
  | str s=>exact .str s
  | lS=>exact .lS
  | ptr j row sp l hl=>exact .ptr j row sp l (by rw [gD j (Nat.ne_of_beq_eq_false h)]; exact hl)
  | iY=>exact .iY
  | slice j row n c c' l hl hc hn hr=>exact .slice j row n c c' l (by rw [gD j (Nat.ne_of_beq_eq_false h)]; exact hl) hc hn hr
  | void j row c a hc=>exact .void j row c a hc
  | lg j row m n c' l hl hm hn hr=>exact .lg j row m n c' l (by rw [gD j (Nat.ne_of_beq_eq_false h)]; exact hl) hm hn hr
  | ku j row a=>exact .ku j row a
  | lT=>exact .lT
  | func fn xs ys mW c5 h1 J h3 h4 =>
   have h:(rE id k xs || rE id k mW)=false:=h
   rw [Bool.or_eq_false_iff] at h
   have a1:=bc.map (aj:=aj) ⟨h1,J⟩ (fun v hv r hr=>ih v r (vr h.1 v hv) hr)
   have a2:=bc.map (aj:=aj) ⟨h3,h4⟩ (fun v hv r hr=>ih v r (vr h.2 v hv) hr)
   exact .func fn _ _ _ _ a1.1 a1.2 a2.1 a2.2
  | agg xs ys h1 J =>
   have h:rE id k xs=false:=h
   have a1:=bc.map (aj:=aj) ⟨h1,J⟩ (fun v hv r hr=>ih v r (vr h v hv) hr)
   exact .agg _ _ a1.1 a1.2
  | tuple xs ys h1 J =>
   have h:rE id k xs=false:=h
   have a1:=bc.map (aj:=aj) ⟨h1,J⟩ (fun v hv r hr=>ih v r (vr h v hv) hr)
   exact .tuple _ _ a1.1 a1.2
  | dead=>exact .dead _ (by assumption)
/-- The value without what speaks of the block. -/
def pH (id:Nat):Nat→Value→Option Value
 | 0,_=>none
 | k+1,v=>match ot id 3 v with
  | false=>some v
  | true=>match v.oneCell' with
   | true=>some (.chan none)
   | false=>match v with
    | .agg ⟨l⟩=>match l.foldr (fun v acc=>match pH id k v,acc with | some x,some xs=>some (x::xs) | _,_=>none) (some []) with | some l'=>some (.agg ⟨l'⟩) | none=>none
    | .tuple ⟨l⟩=>match l.foldr (fun v acc=>match pH id k v,acc with | some x,some xs=>some (x::xs) | _,_=>none) (some []) with | some l'=>some (.tuple ⟨l'⟩) | none=>none
    | _=>none
def yw (id k:Nat) (l:List Value):Option (List Value):=l.foldr (fun v acc=>match pH id k v,acc with | some x,some xs=>some (x::xs) | _,_=>none) (some [])
theorem RJ {id m:Nat} {x:Value} {xs l:List Value} (h:yw id m (x::xs)=some l):∃ y ys,l=y::ys∧pH id m x=some y∧yw id m xs=some ys:=by
 unfold yw at h
 rw [List.foldr_cons] at h
 split at h
 ·rename_i y ys h1 J
  exact ⟨y,ys,(Option.some.inj h).symm,h1,J⟩
 ·cases h
theorem Em {id m:Nat} {ν aj:Nu} (h:∀ v v2 r,pH id m v=some v2→ao ν v r→ao aj v2 r):∀ {xs l rs:List Value},yw id m xs=some l→bc ν xs rs→bc aj l rs
 | [],l,rs,h1,J=>by
  have:l=[]:=by simp [yw] at h1; exact h1
  rw [this,J.iC]; exact .nil _
 | x::xs,l,rs,h1,J=>by
  obtain ⟨y,ys,rfl,e1,e2⟩:=RJ h1
  obtain ⟨r,bX,rfl,k1,k2⟩:=J.iQ
  exact .cons (h _ _ _ e1 k1) (Em h e2 k2)
theorem S9 {id:Nat} {ν aj:Nu} (gD:ν.off aj id):∀ (m:Nat) (v v2 r:Value),pH id m v=some v2→ao ν v r→ao aj v2 r:=by
 intro m
 induction m with
 | zero=>intro v v2 r h; simp [pH] at h
 | succ m ih =>
  intro v v2 r h hr
  unfold pH at h
  split at h
  ·rename_i hm
   cases h
   exact DF gD 3 v r hm hr
  ·split at h
   ·rename_i h1
    cases h
    exact .dead _ (by rw [hr.Ba]; exact h1)
   ·split at h
    ·split at h
     ·rename_i l l' e
      cases h
      obtain ⟨ys,rfl,hy⟩:=hr.tE
      have:=Em (ih) e hy
      exact .agg _ _ this.1 this.2
     ·cases h
    ·split at h
     ·rename_i l l' e
      cases h
      obtain ⟨ys,rfl,hy⟩:=hr.nj
      have:=Em (ih) e hy
      exact .tuple _ _ this.1 this.2
     ·cases h
    ·cases h
def yO {α:Type} (o:Option α) (k:α→Prop):Prop:=match o with | some a=>k a | none=>False
theorem Eo {α:Type} {o:Option α} {k:α→Prop} (h:yO o k):∃ a,o=some a∧k a:=by
 unfold yO at h; split at h
 ·exact ⟨_,rfl,h⟩
 ·exact h.elim
theorem DG {P:Value→Value→Prop}:∀ {ys:List Value},(∀ y∈ys,∃ x,P x y)→∃ xs:List Value,xs.length=ys.length∧∀ (i:Nat) x y,xs[i]?=some x→ys[i]?=some y→P x y
 | [],_=>⟨[],rfl,fun i x y hx=>by simp at hx⟩
 | y::ys,h=>by
  obtain ⟨x,hx⟩:=h y (by simp)
  obtain ⟨xs,h1,J⟩:=DG (ys:=ys) (fun z hz=>h z (by simp [hz]))
  refine ⟨x::xs,by simp [h1],fun i a b ha hb=>?_⟩
  cases i with
  | zero=>simp at ha hb; subst ha; subst hb; exact hx
  | succ i=>exact J i a b (by simpa using ha) (by simpa using hb)
/-- What stands for a value under any numbering. -/
theorem ao.any {ν:Nu} {v r:Value} (h:ao ν v r):∃ x,∀ aj,ao aj x r:=by
 induction h with
 | agg xs ys h1 _ ih =>
  obtain ⟨zs,e1,e2⟩:=DG (P:=fun x y=>∀ aj,ao aj x y) (ys:=ys) (fun y hy=>by
   obtain ⟨i,hi,rfl⟩:=List.getElem_of_mem hy
   exact ih i _ _ (List.getElem?_eq_getElem (h1 ▸ hi)) (List.getElem?_eq_getElem hi))
  exact ⟨.agg ⟨zs⟩,fun aj=>.agg _ _ e1 (fun i x y hx hy=>e2 i x y hx hy aj)⟩
 | tuple xs ys h1 _ ih =>
  obtain ⟨zs,e1,e2⟩:=DG (P:=fun x y=>∀ aj,ao aj x y) (ys:=ys) (fun y hy=>by
   obtain ⟨i,hi,rfl⟩:=List.getElem_of_mem hy
   exact ih i _ _ (List.getElem?_eq_getElem (h1 ▸ hi)) (List.getElem?_eq_getElem hi))
  exact ⟨.tuple ⟨zs⟩,fun aj=>.tuple _ _ e1 (fun i x y hx hy=>e2 i x y hx hy aj)⟩
 | dead w hw=>exact ⟨.chan none,fun aj=>.dead w hw⟩
 | _=>exact ⟨.chan none,fun aj=>.dead _ rfl⟩
def H0 (i:Nat):List Nat→Bool
 | []=>false
 | a::l=>match Nat.beq a i with
  | true=>true
  | false=>H0 i l
/-- The slots: those that are kept, without what speaks of the block; the others hold what 'a' says. -/
def tQ (a:Nat→Value) (id:Nat) (aa:List Nat):Nat→List Value→(List Value→Prop)→Prop
 | _,[],k=>k []
 | i,v::l,k=>match H0 i aa with
  | true=>yO (pH id 3 v) fun v'=>tQ a id aa (i+1) l fun l'=>k (v'::l')
  | false=>tQ a id aa (i+1) l fun l'=>k (a i::l')
theorem MD {ν:Nu} {t r:List Value} (h:bc ν t r):∃ a:Nat→Value,∀ (j:Nat) (y:Value),r[j]?=some y→∀ aj,ao aj (a j) y:=by
 have hx:∀ j:Nat,∃ x:Value,∀ y:Value,r[j]?=some y→∀ aj,ao aj x y:=by
  intro j
  cases hj:r[j]? with
  | none=>exact ⟨undef,fun y hy=>by simp at hy⟩
  | some y =>
   have ak:j < t.length:=by
    rw [h.1]
    exact (List.getElem?_eq_some_iff.1 hj).1
   obtain ⟨x,hx⟩:=(h.2 j t[j] y (List.getElem?_eq_getElem ak) hj).any
   exact ⟨x,fun y' hy=>by cases hy; exact hx⟩
 exact ⟨fun j=>Classical.choose (hx j),fun j y hy=>Classical.choose_spec (hx j) y hy⟩
theorem LQ {a:Nat→Value} {i:Nat} {y:Value} {ys:List Value} (h:∀ (j:Nat) (z:Value),(y::ys)[j]?=some z→∀ aj:Nu,ao aj (a (i+j)) z) :
  (∀ aj:Nu,ao aj (a i) y)∧∀ (j:Nat) (z:Value),ys[j]?=some z→∀ aj:Nu,ao aj (a (i+1+j)) z:=by
 refine ⟨fun aj=>h 0 y rfl aj,fun j z hz aj=>?_⟩
 have:=h (j+1) z (by simpa using hz) aj
 rw [show i+1+j=i+(j+1) by omega]
 exact this
theorem DS {a:Nat→Value} {id:Nat} {aa:List Nat}:∀ {t:List Value} {i:Nat} {k:List Value→Prop},tQ a id aa i t k→∀ (ν:Nu) r,bc ν t r→(∀ (j:Nat) (y:Value),r[j]?=some y→∀ aj:Nu,ao aj (a (i+j)) y)→∃ t',k t'∧∀ aj,ν.off aj id→bc aj t' r
 | [],i,k,h,ν,r,hr,ha=>⟨[],h,fun aj _=>by rw [hr.iC]; exact .nil _⟩
 | v::l,i,k,h,ν,r,hr,ha=>by
  obtain ⟨y,ys,rfl,h1,J⟩:=hr.iQ
  obtain ⟨hx,ha⟩:=LQ ha
  unfold tQ at h
  split at h
  ·obtain ⟨v',e,h⟩:=Eo h
   obtain ⟨l',h3,h4⟩:=DS h ν ys J ha
   exact ⟨_,h3,fun aj ho=>.cons (S9 ho 3 _ _ _ e h1) (h4 aj ho)⟩
  ·obtain ⟨l',h3,h4⟩:=DS h ν ys J ha
   exact ⟨_,h3,fun aj ho=>.cons (hx _) (h4 aj ho)⟩
/-- A cell of a row. -/
def tR (id:Nat) (v:Value):Value:=match ot id 3 v with | false=>v | true=>.chan none
def AT (id:Nat):List (List Value)→(List (List Value)→Prop)→Prop
 | [],k=>k []
 | r::l,k=>AT id l fun l'=>k (r.map (tR id)::l')
theorem Jt {id:Nat}:∀ {l:List (List Value)} {k:List (List Value)→Prop},AT id l k→k (l.map fun r=>r.map (tR id))
 | [],k,h=>h
 | r::l,k,h=>by have:=Jt (l:=l) h; simpa using this
def yx (id:Nat):List (List Value)→Bool
 | []=>false
 | r::l=>rE id 3 r || yx id l
theorem Kj {id:Nat}:∀ {l:List (List Value)},yx id l=false→∀ r∈l,rE id 3 r=false
 | [],_,v,hv=>by simp at hv
 | x::l,h,v,hv=>by
  simp only [yx,Bool.or_eq_false_iff] at h
  rcases List.mem_cons.1 hv with e | e
  ·rw [e]; exact h.1
  ·exact Kj (l:=l) h.2 v e
def yy (id:Nat) (b:ah) (k:ah→Prop):Prop :=
 match b with
 | .flat o n e g=>k (.flat o n e g)
 | .aL o e rows=>match yx id rows with
  | false=>k (.aL o e rows)
  | true=>AT id rows fun iF=>k (.aL o e iF)
 | .bZ r=>k (.bZ r)
theorem Kk {id:Nat} {b:ah} {k:ah→Prop} (h:yy id b k):∃ b',k b'∧b'.own=b.own∧∀ (ν aj:Nu) (l:Loc) (w:World),ν.off aj id→bN ν l b w→bN aj l b' w:=by
 cases b with
 | flat o n e g =>
  exact ⟨_,h,rfl,fun ν aj l w ho hB=>⟨hB.ae,hB.len,fun r hr j v hv=>by
   obtain ⟨v',h1,J⟩:=hB.cell r hr j v hv
   have:=hB.plain rfl r hr v (List.mem_of_getElem? hv)
   rw [J.ki this] at h1
   exact ⟨v,h1,ao.kh this⟩,hB.plain,hB.one,hB.own,hB.lr,hB.live⟩⟩
 | bZ r =>
  exact ⟨_,h,rfl,fun ν aj l w ho hB=>⟨hB.ae,fun r hr=>absurd hr (Nat.not_lt_zero r),fun r hr=>absurd hr (Nat.not_lt_zero r),(fun h=>nomatch h),fun r hr=>absurd hr (Nat.not_lt_zero r),fun _ h=>(nomatch h),hB.lr,hB.live⟩⟩
 | aL o e rows =>
  have h:(match yx id rows with
   | false=>k (.aL o e rows)
   | true=>AT id rows fun iF=>k (.aL o e iF)):=h
  split at h
  ·rename_i hm
   exact ⟨_,h,rfl,fun ν aj l w ho hB=>⟨hB.ae,hB.len,fun r hr j v hv=>by
    obtain ⟨v',h1,J⟩:=hB.cell r hr j v hv
    refine ⟨v',h1,DF ho 3 v v' ?_ J⟩
    have jb:r < rows.length:=hr
    simp only [ah.row,List.getD,List.getElem?_eq_getElem jb,Option.getD_some] at hv
    exact vr (Kj hm _ (List.getElem_mem _)) v (List.mem_of_getElem? hv),hB.plain,hB.one,hB.own,hB.lr,hB.live⟩⟩
  ·rename_i hm
   have h:=Jt h
   have aX:∀ r,(ah.aL o e (rows.map fun r=>r.map (tR id))).row r=((ah.aL o e rows).row r).map (tR id):=by
    intro r
    simp only [ah.row,List.getD,List.getElem?_map]
    cases rows[r]? <;> rfl
   have h1c:∀ v,v.oneCell'=true→(tR id v).oneCell'=true:=by
    intro v hv
    unfold tR
    split
    ·exact hv
    ·rfl
   refine ⟨_,h,rfl,fun ν aj l w ho hB=>⟨hB.ae,fun r hr=>?_,fun r hr j v hv=>?_,fun h=>by simp [ah.js] at h,fun r hr v hv=>?_,fun h _=>?_,(fun r h=>nomatch h),hB.live⟩⟩
   ·have hr:r < (ah.aL o e rows).n:=by simpa [ah.n] using hr
    rw [aX,List.length_map]; exact hB.len r hr
   ·have hr:r < (ah.aL o e rows).n:=by simpa [ah.n] using hr
    rw [aX,List.getElem?_map] at hv
    cases hx:((ah.aL o e rows).row r)[j]? with
    | none=>rw [hx] at hv; cases hv
    | some x =>
     rw [hx] at hv
     cases hv
     obtain ⟨v',h1,J⟩:=hB.cell r hr j x hx
     refine ⟨v',h1,?_⟩
     unfold tR
     split
     ·rename_i xi; exact DF ho 3 x v' xi J
     ·exact .dead _ (by rw [J.Ba]; exact hB.one r hr x (List.mem_of_getElem? hx))
   ·have hr:r < (ah.aL o e rows).n:=by simpa [ah.n] using hr
    rw [aX] at hv
    obtain ⟨x,hx,rfl⟩:=List.mem_map.1 hv
    exact h1c x (hB.one r hr x hx)
   ·obtain ⟨cur,t,q1,q2,q3⟩:=hB.own h rfl
    exact ⟨cur,t,q1,q2,by simpa [ah.n] using q3⟩
/-- The heap. -/
def wF (id:Nat):ax→(ax→Prop)→Prop
 | [],k=>k []
 | none::H,k=>wF id H fun H'=>k (none::H')
 | some b::H,k=>yy id b fun b'=>wF id H fun H'=>k (some b'::H')
theorem DT {id:Nat}:∀ {H:ax} {k:ax→Prop},wF id H k→∃ H',k H'∧H'.length=H.length∧∀ (j:Nat) (b':ah),H'[j]?=some (some b')→∃ b,H[j]?=some (some b)∧b'.own=b.own ∧
  ∀ (ν aj:Nu) (l:Loc) (w:World),ν.off aj id→bN ν l b w→bN aj l b' w
 | [],k,h=>⟨[],h,rfl,fun j b' hj=>by simp at hj⟩
 | none::H,k,h=>by
  obtain ⟨H',h1,J,h3⟩:=DT (H:=H) h
  refine ⟨_,h1,by simp [J],fun j b' hj=>?_⟩
  cases j with
  | zero=>simp at hj
  | succ j=>exact h3 j b' (by simpa using hj)
 | some b::H,k,h=>by
  obtain ⟨b1,h,hb⟩:=Kk h
  obtain ⟨H',h1,J,h3⟩:=DT (H:=H) h
  refine ⟨_,h1,by simp [J],fun j b' hj=>?_⟩
  cases j with
  | zero=>simp at hj; subst hj; exact ⟨b,rfl,hb⟩
  | succ j=>exact h3 j b' (by simpa using hj)
end Go.Ae
/- 'append' upon the abstract heap; functions that work upon the heap. -/
namespace Go.Ae
open Go Go.RowKit
/-- Rows g, m of them, and the real cells. -/
structure CR (ν:Nu) (ae:Nat) (g:Nat→List Value) (m:Nat) (L:List Value):Prop where
 len:L.length=m*ae
 row:∀ r,r < m→(g r).length=ae
 cell:∀ r,r < m→∀ (j:Nat) v,(g r)[j]?=some v→∃ v',L[r*ae+j]?=some v'∧ao ν v v'
 one:∀ u∈L,u.oneCell'=true
 rR:∀ r,r < m→∀ v∈g r,v.oneCell'=true
def ij (g:Nat→List Value) (n:Nat) (h:Nat→List Value):Nat→List Value:=fun j=>bif Nat.blt j n then g j else h (j - n)
theorem iN {g h:Nat→List Value} {n j:Nat} (hj:j < n):ij g n h j=g j:=by
 have:Nat.blt j n=true:=by rw [Nat.blt_eq]; exact hj
 simp [ij,this]
theorem fV {g h:Nat→List Value} {n j:Nat} (hj:n≤j):ij g n h j=h (j - n):=by
 have:Nat.blt j n=false:=by
  cases h:Nat.blt j n with
  | false=>rfl
  | true=>rw [Nat.blt_eq] at h; omega
 simp [ij,this]
theorem CR.append {ν:Nu} {ae n m:Nat} {g h:Nat→List Value} {L M:List Value} (a:CR ν ae g n L) (b:CR ν ae h m M):CR ν ae (ij g n h) (n+m) (L++M):=by
 refine ⟨by rw [List.length_append,a.len,b.len,Nat.add_mul],fun r hr=>?_,fun r hr j v hv=>?_,fun u hu=>?_,fun r hr v hv=>?_⟩
 ·by_cases h:r < n
  ·rw [iN h]; exact a.row r h
  ·rw [fV (by omega)]; exact b.row _ (by omega)
 ·by_cases h:r < n
  ·rw [iN h] at hv
   obtain ⟨v',h1,J⟩:=a.cell r h j v hv
   exact ⟨v',by rw [List.getElem?_append_left (List.getElem?_eq_some_iff.1 h1).1]; exact h1,J⟩
  ·rw [fV (by omega)] at hv
   obtain ⟨v',h1,J⟩:=b.cell (r - n) (by omega) j v hv
   refine ⟨v',?_,J⟩
   have e:r*ae+j=L.length+((r - n)*ae+j):=by
    rw [a.len]
    have:r*ae=n*ae+(r - n)*ae:=by rw [← Nat.add_mul]; congr 1; omega
    omega
   rw [e,List.getElem?_append_right (by omega),Nat.add_sub_cancel_left]; exact h1
 ·rcases List.mem_append.1 hu with h | h
  ·exact a.one u h
  ·exact b.one u h
 ·by_cases h:r < n
  ·rw [iN h] at hv; exact a.rR r h v hv
  ·rw [fV (by omega)] at hv; exact b.rR _ (by omega) v hv
theorem CR.nil (ν:Nu) (ae:Nat) (g:Nat→List Value):CR ν ae g 0 [] :=
 ⟨by simp,fun r hr=>absurd hr (by omega),fun r hr=>absurd hr (by omega),fun u hu=>by simp at hu,fun r hr=>absurd hr (by omega)⟩
theorem CR.mono {ν aj:Nu} {ae m:Nat} {g:Nat→List Value} {L:List Value} (h:CR ν ae g m L) (hle:ν.le aj):CR aj ae g m L :=
 ⟨h.len,h.row,fun r hr j v hv=>let ⟨v',h1,J⟩:=h.cell r hr j v hv; ⟨v',h1,J.mono hle⟩,h.one,h.rR⟩
theorem CR.congr {ν:Nu} {ae m:Nat} {g g':Nat→List Value} {L:List Value} (h:CR ν ae g m L) (hg:∀ r,r < m→g' r=g r):CR ν ae g' m L :=
 ⟨h.len,fun r hr=>by rw [hg r hr]; exact h.row r hr,fun r hr j v hv=>h.cell r hr j v (by rw [← hg r hr]; exact hv),h.one,fun r hr v hv=>h.rR r hr v (by rw [← hg r hr]; exact hv)⟩
/-- A stretch of a block, read. -/
theorem CR.F9 {ν:Nu} {l:Loc} {b:ah} {w:World} (hB:bN ν l b w) {row m:Nat} (hm:row+m≤b.n):∃ L,CR ν b.ae (fun j=>b.row (row+j)) m L∧∀ (j:Nat) u,L[j]?=some u→w.cell? ((l.at row 0).add j)=some u:=by
 have key:∀ q,q < m*b.ae→∃ r j v v',r < m∧j < b.ae∧q=r*b.ae+j∧(b.row (row+r))[j]?=some v∧w.cell? ((l.at row 0).add q)=some v'∧ao ν v v'∧v'.oneCell'=true:=by
  intro q hq
  have he:0 < b.ae:=by
   rcases Nat.eq_zero_or_pos b.ae with h | h
   ·rw [h] at hq; omega
   ·exact h
  have hr:q / b.ae < m:=(Nat.div_lt_iff_lt_mul he).2 hq
  have hj:q % b.ae < b.ae:=Nat.mod_lt _ he
  have hlen:=hB.len (row+q / b.ae) (by omega)
  have hv:(b.row (row+q / b.ae))[q % b.ae]?=some _:=List.getElem?_eq_getElem (by omega)
  obtain ⟨v',h1,J⟩:=hB.cell (row+q / b.ae) (by omega) _ _ hv
  refine ⟨q / b.ae,q % b.ae,_,v',hr,hj,by rw [Nat.mul_comm,Nat.div_add_mod],hv,?_,J,by rw [J.Ba]; exact hB.one _ (by omega) _ (List.getElem_mem _)⟩
  rw [Loc.jt,← h1]
  unfold Loc.at
  congr 2
  rw [hB.ae,Nat.add_mul]
  have:=Nat.div_add_mod q b.ae
  rw [Nat.mul_comm] at this
  omega
 let L:=(List.range (m*b.ae)).map fun q=>(w.cell? ((l.at row 0).add q)).getD undef
 have ky:∀ q,q < m*b.ae→L[q]?=some ((w.cell? ((l.at row 0).add q)).getD undef):=by
  intro q hq
  simp only [L,List.getElem?_map,List.getElem?_range hq,Option.map_some]
 have hL:L.length=m*b.ae:=by simp [L]
 refine ⟨L,⟨hL,fun r hr=>hB.len _ (by omega),fun r hr j v hv=>?_,fun u hu=>?_,fun r hr v hv=>hB.one _ (by omega) v hv⟩,fun j u hu=>?_⟩
 ·have hj:j < b.ae:=by rw [← hB.len (row+r) (by omega)]; exact (List.getElem?_eq_some_iff.1 hv).1
  have hq:r*b.ae+j < m*b.ae:=by
   have:(r+1)*b.ae≤m*b.ae:=Nat.mul_le_mul_right _ hr
   rw [Nat.add_mul] at this; omega
  obtain ⟨v',h1,J⟩:=hB.cell (row+r) (by omega) j v hv
  refine ⟨v',?_,J⟩
  have e:(l.at row 0).add (r*b.ae+j)=l.at (row+r) j:=by
   rw [Loc.jt]; unfold Loc.at; congr 1; rw [hB.ae,Nat.add_mul]; omega
  rw [ky _ hq,e,h1]; rfl
 ·obtain ⟨q,hq,rfl⟩:=List.getElem_of_mem hu
  rw [hL] at hq
  obtain ⟨r,j,v,v',_,_,_,_,h1,_,J⟩:=key q hq
  have:=ky q hq
  rw [h1] at this
  have e:=List.getElem?_eq_getElem (l:=L) (i:=q) (by omega)
  rw [this] at e
  rw [← Option.some.inj e]; exact J
 ·have hj:j < m*b.ae:=by rw [← hL]; exact (List.getElem?_eq_some_iff.1 hu).1
  obtain ⟨r,q,v,v',_,_,_,_,h1,_,J⟩:=key j hj
  rw [ky j hj,h1] at hu
  rw [h1,← hu]; rfl
/-- A block over cells that hold its rows. -/
theorem VP {ν:Nu} {ae N cap aH:Nat} {g:Nat→List Value} {L:List Value} {b':ah} (hC:CR ν ae g N L) (aX:∀ r,r < N→b'.row r=g r) (hn:b'.n=N) (he:b'.ae=ae)
  (hf:b'.js=true→∀ r,r < N→∀ v∈g r,cC v=true) {w':World} {C:Array Value} {t:TypeId} (hw:w'.heap[aH]?=some (.cells C t (0,0))) (hCL:∀ q,q < L.length→C[q]?=L[q]?)
  (fx:N≤cap) (aT:cap*ae≤C.size) (HU:b'.rc=none):bN ν ⟨aH,0,ae,cap⟩ b' w':=by
 have GD:aH < w'.heap.size:=(Array.getElem?_eq_some_iff.1 hw).1
 refine ⟨he.symm,fun r hr=>?_,fun r hr j v hv=>?_,fun h r hr v hv=>?_,fun r hr v hv=>?_,fun _ _=>⟨C,t,hw,by simpa using aT,by rw [hn]; exact fx⟩,(fun r h=>by rw [HU] at h; cases h),GD⟩
 ·rw [hn] at hr; rw [aX r hr,he]; exact hC.row r hr
 ·rw [hn] at hr; rw [aX r hr] at hv
  obtain ⟨v',h1,J⟩:=hC.cell r hr j v hv
  refine ⟨v',?_,J⟩
  simp only [Loc.at,World.cell?,Nat.zero_add]
  rw [hw]
  simp only [Option.isSome_none,Bool.false_eq_true,if_false]
  rw [hCL _ (List.getElem?_eq_some_iff.1 h1).1]; exact h1
 ·rw [hn] at hr; rw [aX r hr] at hv; exact hf h r hr v hv
 ·rw [hn] at hr; rw [aX r hr] at hv; exact hC.rR r hr v hv
/-- One block turned, the others as they were. -/
theorem bR.gh {ν aj:Nu} {H H':ax} {w w':World} (h:bR ν H w) {id:Nat} (gD:ν.off aj id)
  (ho:∀ (j:Nat) (b':ah),H'[j]?=some (some b')→j≠id→∃ b,H[j]?=some (some b)∧b'.own=b.own∧∀ l,ν j=some l→bN ν l b w→bN aj l b' w')
  (bm:∀ b',H'[id]?=some (some b')→∃ l,aj id=some l∧bN aj l b' w'∧∀ j lj bj,j≠id→H[j]?=some (some bj)→ν j=some lj→lj.aH≠l.aH):bR aj H' w':=by
 refine ⟨fun j b' hj=>?_,fun i j bi bj li lj hi hj aI xj h1 J=>?_⟩
 ·by_cases e:j=id
  ·subst e; obtain ⟨l,h1,J,_⟩:=bm b' hj; exact ⟨l,h1,J⟩
  ·obtain ⟨b,h1,_,J⟩:=ho j b' hj e
   obtain ⟨l,h3,h4⟩:=h.aH j b h1
   exact ⟨l,by rw [gD j e]; exact h3,J l h3 h4⟩
 ·by_cases ei:i=id
  ·subst ei
   obtain ⟨l,e1,_,e2⟩:=bm bi hi
   rw [h1] at e1; cases e1
   obtain ⟨b,e3,_,_⟩:=ho j bj hj (Ne.symm aI)
   rw [gD j (Ne.symm aI)] at J
   exact Ne.symm (e2 j lj b (Ne.symm aI) e3 J)
  ·obtain ⟨b,e3,e4,_⟩:=ho i bi hi ei
   rw [gD i ei] at h1
   by_cases ej:j=id
   ·subst ej
    obtain ⟨l,e1,_,e2⟩:=bm bj hj
    rw [J] at e1; cases e1
    exact e2 i li b ei e3 h1
   ·obtain ⟨c,e5,_,_⟩:=ho j bj hj ej
    rw [gD j ej] at J
    exact h.sep i j b c li lj e3 e5 aI (by rw [← e4]; exact xj) h1 J
section
variable {P:Program} {w:World}
theorem qR {t ty e:TypeId} {i:TypeInfo} (ht:P.underlying t=some (.slice e)) (hi:P.info? e=some i) {A oy:Option Addr} {n c m cy:Nat} {L:List Value} (hl:L.length=m*i.size)
  (hL:∀ a,oy=some a→∀ (j:Nat) u,L[j]?=some u→w.cell? (a.add j)=some u) (hn:oy=none→m=0) (cJ:n+m≤c) {w2:World}
  (an:∀ a,A=some a→(storeCells (a.add (n*i.size)) L).run P w=.ok () w2) (mI:A=none→w2=w) :
  (Builtin.append_ #[t,t] ty #[.slice A n c,.slice oy m cy]).run P w=.ok (.slice A (n+m) c) w2:=by
 have hf:(Builtin.firstCells i.size m (.slice oy m cy)).run P w=.ok L.toArray w:=by
  cases oy with
  | none =>
   have:=hn rfl
   subst this
   have:L=[]:=List.eq_nil_of_length_eq_zero (by simpa using hl)
   rw [this]
   exact run_firstCells_none (P:=P) (w:=w) i.size 0 0 cy
  | some a=>exact run_firstCells_some (P:=P) w i.size m a m cy L hl (hL a rfl)
 cases A with
 | none =>
  have:=mI rfl
  subst this
  simp [Builtin.append_,run_underlying ht,sizeOf,typeInfo,hi,Builtin.lenOf,cJ,hf]
 | some a =>
  have:=an a rfl
  simp [Builtin.append_,run_underlying ht,sizeOf,typeInfo,hi,Builtin.lenOf,cJ,hf,this]
/-- What a growing slice lays. -/
def s8 (C:Array Value) (z:Value) (k:Nat) (e:TypeId):Obj:=.cells (C++Builtin.zeroCells z.cells k) e
theorem Ac {t ty e:TypeId} {i:TypeInfo} {z:Value} (ht:P.underlying t=some (.slice e)) (hi:P.info? e=some i) (hz:i.zero=some z) {A oy:Option Addr} {n c m cy:Nat} {O L:List Value}
  (gK:O.length=n*i.size) (hO:∀ a,A=some a→∀ (j:Nat) u,O[j]?=some u→w.cell? (a.add j)=some u) (hA:A=none→n=0∧c=0)
  (hl:L.length=m*i.size) (hL:∀ a,oy=some a→∀ (j:Nat) u,L[j]?=some u→w.cell? (a.add j)=some u) (hn:oy=none→m=0) (CP:n≤c) (cJ:c < n+m) (hB:(n+m)*i.bytes≤140737488355328) (hN:n+m≤140737488355328) :
  (Builtin.append_ #[t,t] ty #[.slice A n c,.slice oy m cy]).run P w=.ok (.slice (some ⟨w.heap.size,0,none⟩) (n+m) (grownCap w (n+m) c e)) (w.drew.alloc (s8 (O++L).toArray z (grownCap w (n+m) c e - (n+m)) e)):=by
 cases oy with
 | none=>have:=hn rfl; omega
 | some a =>
  cases A with
  | none =>
   obtain ⟨rfl,rfl⟩:=hA rfl
   have hO0:O=[]:=List.eq_nil_of_length_eq_zero (by simpa using gK)
   subst hO0
   have:=run_append_nil (P:=P) (w:=w) t ty e i z ht hi hz a m cy L hl (hL a rfl) (by omega) (by omega) (by simp only [Nat.zero_add] at hB; omega)
   simp only [Nat.zero_add,List.nil_append]
   exact this
  | some b =>
   have:=run_append_grow (P:=P) (w:=w) t ty e i z ht hi hz b n c O gK (hO b rfl) a m cy L hl (hL a rfl) cJ (by omega) (growslice_fits cJ hB)
   rw [this]
   simp [s8]
end
/-! ### What is appended -/
inductive Src where
 | fl (m:Nat) (g:Nat→List Value)
 | ex (L:List (List Value))
def Src.m:Src→Nat
 | .fl m _=>m
 | .ex L=>L.length
def Src.get:Src→Nat→List Value
 | .fl _ g=>g
 | .ex L=>fun j=>L.getD j []
def Src.jW:Src→Bool
 | .fl _ _=>true
 | .ex _=>false
def rF:List (List Value)→Nat→Nat→(List (List Value)→Prop)→Prop
 | _,0,0,k=>k []
 | [],0,_+1,_=>False
 | v::l,0,n+1,k=>rF l 0 n fun vs=>k (v::vs)
 | [],_+1,_,_=>False
 | _::l,o+1,n,k=>rF l o n k
theorem xI:∀ {l:List (List Value)} {o n:Nat} {k:List (List Value)→Prop},rF l o n k→∃ vs,k vs∧(vs.length=n∧o+n≤l.length)∧∀ (j:Nat) v,vs[j]?=some v→l[o+j]?=some v
 | l,0,0,k,h=>⟨[],by cases l <;> exact h,⟨rfl,by simp⟩,fun j v hv=>by simp at hv⟩
 | [],0,_+1,_,h=>h.elim
 | v::l,0,n+1,k,h=>by
  obtain ⟨vs,h1,⟨J,h4⟩,h3⟩:=xI (l:=l) h
  refine ⟨v::vs,h1,⟨by simp [J],by simp at h4 ⊢; omega⟩,fun j u hu=>?_⟩
  cases j with
  | zero=>simpa using hu
  | succ j=>have:=h3 j u (by simpa using hu); simpa using this
 | [],o+1,n,k,h=>by cases n <;> exact h.elim
 | x::l,o+1,n,k,h=>by
  have h':rF l o n k:=by cases n <;> exact h
  obtain ⟨vs,h1,⟨J,h4⟩,h3⟩:=xI (l:=l) h'
  exact ⟨vs,h1,⟨J,by simp; omega⟩,fun j v hv=>by have:=h3 j v hv; rwa [show o+1+j=(o+j)+1 by omega,List.getElem?_cons_succ]⟩
def BS:List (List Value)→Bool
 | []=>true
 | r::l=>lV r && BS l
theorem Kl:∀ {l:List (List Value)},BS l=true→∀ r∈l,∀ v∈r,cC v=true
 | [],_,r,hr=>by simp at hr
 | q::l,h,r,hr=>by
  simp only [BS,Bool.and_eq_true] at h
  rcases List.mem_cons.1 hr with e | e
  ·rw [e]; exact dt h.1
  ·exact Kl h.2 r e
def rS:List (List Value)→List (List Value)→(List (List Value)→Prop)→Prop
 | [],l,k=>k l
 | x::xs,l,k=>rS xs l fun r=>k (x::r)
theorem xN:∀ {xs l:List (List Value)} {k:List (List Value)→Prop},rS xs l k→k (xs++l)
 | [],_,_,h=>h
 | _::xs,l,k,h=>xN (xs:=xs) h
def wG (g:Nat→List Value):Nat→Nat→(List (List Value)→Prop)→Prop
 | _,0,k=>k []
 | i,m+1,k=>wG g (i+1) m fun l=>k (g i::l)
theorem DU {g:Nat→List Value}:∀ {m i:Nat} {k:List (List Value)→Prop},wG g i m k→∃ l,k l∧l.length=m∧∀ j,j < m→l.getD j []=g (i+j)
 | 0,i,k,h=>⟨[],h,rfl,fun j hj=>absurd hj (by omega)⟩
 | m+1,i,k,h=>by
  obtain ⟨l,h1,J,h3⟩:=DU (m:=m) h
  refine ⟨_,h1,by simp [J],fun j hj=>?_⟩
  cases j with
  | zero=>simp [List.getD]
  | succ j =>
   have:=h3 j (by omega)
   simp only [List.getD,List.getElem?_cons_succ] at this ⊢
   rw [this]; congr 1; omega
def yP (H:ax) (ae:Nat) (yv:Value) (k:Src→Prop):Prop :=
 match yv with
 | .slice none 0 0=>k (.fl 0 fun _=>[])
 | .slice (some ⟨id,row,_⟩) m _=>gu H id fun b=>match Nat.beq b.ae ae with
  | true=>match b with
   | .flat _ n _ get=>row+m≤n∧k (.fl m fun j=>get (eM row j))
   | .aL _ _ rows=>rF rows row m fun L=>match BS L with
    | true=>k (.fl m fun j=>L.getD j [])
    | false=>k (.ex L)
   | .bZ _=>False
  | false=>False
 | _=>False
theorem Ep {H:ax} {ae:Nat} {yv:Value} {k:Src→Prop} (h:yP H ae yv k):∃ s,k s∧(s.jW=true→∀ r,r < s.m→∀ (ν:Nu) w,bR ν H w→∀ v∈s.get r,cC v=true) ∧
  ∀ (ν:Nu) (w:World) (r:Value),bR ν H w→ao ν yv r→∃ oy cy L,r=.slice oy s.m cy∧(oy=none→s.m=0)∧CR ν ae s.get s.m L∧∀ a,oy=some a→∀ (j:Nat) u,L[j]?=some u→w.cell? (a.add j)=some u:=by
 unfold yP at h
 split at h
 ·refine ⟨_,h,fun _ r hr=>absurd hr (by simp [Src.m]),fun ν w r hH hr=>?_⟩
  have:=hr.o9
  subst this
  exact ⟨none,0,[],rfl,fun _=>rfl,CR.nil _ _ _,fun a ha=>by cases ha⟩
 ·rename_i id row sp m c
  obtain ⟨b,hb,h⟩:=gl h
  split at h
  ·rename_i he
   have he:b.ae=ae:=Nat.eq_of_beq_eq_true he
   -- a source whose rows are the block's
   have gen:∀ (s:Src),s.m=m→row+m≤b.n→(∀ j,j < m→s.get j=b.row (row+j))→∀ (ν:Nu) (w:World) (r:Value),bR ν H w→ao ν (.slice (some ⟨id,row,sp⟩) m c) r →
     ∃ oy cy L,r=.slice oy s.m cy∧(oy=none→s.m=0)∧CR ν ae s.get s.m L∧∀ a,oy=some a→∀ (j:Nat) u,L[j]?=some u→w.cell? (a.add j)=some u:=by
    intro s hm hle aX ν w r hH hr
    obtain ⟨l,hl,hB⟩:=hH.aH id b hb
    rcases hr.Bv with ⟨l',c',cl,_,_,rfl⟩ | ⟨j6,bb,rfl⟩
    ·rw [hl] at cl; cases cl
     obtain ⟨L,h1,J⟩:=CR.F9 hB hle
     rw [he] at h1
     refine ⟨_,c',L,by rw [hm],(fun h=>by cases h),?_,(fun a ha=>by cases ha; exact J)⟩
     rw [hm]
     exact h1.congr aX
    ·refine ⟨some bb,0,[],by rw [hm,j6],(fun h=>by cases h),?_,fun a ha j u hu=>by simp at hu⟩
     rw [hm,j6]
     exact CR.nil _ _ _
   cases b with
   | flat o n e get =>
    obtain ⟨hle,h⟩:=h
    have aX:∀ j,j < m→(Src.fl m fun j=>get (eM row j)).get j=(ah.flat o n e get).row (row+j):=fun j _=>by simp [Src.get,ah.row,ar]
    refine ⟨_,h,fun _ r hr ν w hH v hv=>?_,gen _ rfl hle aX⟩
    obtain ⟨l,hl,hB⟩:=hH.aH id _ hb
    have hr:r < m:=hr
    rw [aX r hr] at hv
    exact hB.plain rfl (row+r) (by simp only [ah.n]; omega) v hv
   | aL o e rows =>
    obtain ⟨L,h,⟨hlen,hle⟩,ky⟩:=xI h
    have aX:∀ j,j < m→L.getD j []=(ah.aL o e rows).row (row+j):=fun j hj=>by
     have ak:j < L.length:=by omega
     have:=ky j _ (List.getElem?_eq_getElem ak)
     simp [ah.row,List.getD,this,List.getElem?_eq_getElem ak]
    split at h
    ·rename_i hs
     refine ⟨_,h,fun _ r hr ν w hH v hv=>?_,gen _ rfl hle aX⟩
     have hr:r < m:=hr
     have ak:r < L.length:=by omega
     have hv:v∈L.getD r []:=hv
     simp only [List.getD,List.getElem?_eq_getElem ak,Option.getD_some] at hv
     exact Kl hs _ (List.getElem_mem _) v hv
    ·exact ⟨_,h,fun h=>by simp [Src.jW] at h,gen _ hlen hle aX⟩
   | bZ r=>exact h.elim
  ·exact h.elim
 ·exact h.elim
end Go.Ae
