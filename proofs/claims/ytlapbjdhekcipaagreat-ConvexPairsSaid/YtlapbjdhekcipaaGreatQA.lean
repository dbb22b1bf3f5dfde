import Derived.OrdersIn
import Derived.CallsIn
import Derived.ControlIn
import Derived.Below
import Derived.Laws.IdiomCopy
import Derived.Laws.AppendOwn
import Derived.Laws.NewBlocks
import Derived.Laws.BytesString
import Derived.Laws.MakeOwn
import Derived.Laws.IdiomStrings
import Derived.RangeFuncSeq
set_option linter.unusedVariables false
set_option linter.unusedSimpArgs false
/- The frame of an abstract evaluator over the model's code: values with abstract blocks, how they stand for real ones, and the abstract evaluation of operands and slots. Plain definitions and lemmas; no program in sight. -/
namespace Go.Ae
open Go Go.RowKit
/-- Where an abstract block lies: real block, first cell, cells of a row, rows that there is room for. -/
structure Loc where
 aH:Nat
 base:Nat
 ah:Nat
 cap:Nat
def Loc.at (l:Loc) (row cg:Nat):Addr:=⟨l.aH,l.base+row*l.ah+cg,none⟩
abbrev Nu:=Nat→Option Loc
def Nu.le (ν aj:Nu):Prop:=∀ id l,ν id=some l→aj id=some l
theorem Nu.le_refl (ν:Nu):ν.le ν:=fun _ _ h=>h
theorem Nu.le_trans {a b c:Nu} (h:a.le b) (k:b.le c):a.le c:=fun id l e=>k id l (h id l e)
def Nu.add (ν:Nu) (id:Nat) (l:Loc):Nu:=fun j=>if j=id then some l else ν j
theorem Nu.j6 {ν:Nu} {id:Nat} {l:Loc} (h:ν id=none):ν.le (ν.add id l):=by
 intro j k hj
 by_cases e:j=id
 ·subst e; rw [h] at hj; cases hj
 ·simp [Nu.add,e,hj]
theorem Nu.add_same {ν:Nu} {id:Nat} {l:Loc}:ν.add id l id=some l:=by simp [Nu.add]
theorem Nu.iQ {ν:Nu} {id j:Nat} {l:Loc} (h:j≠id):ν.add id l j=ν j:=by simp [Nu.add,h]
/-- A value without addresses, of one cell. -/
def cO:Value→Bool
 | .bool _ | .int _ _ | .string _=>true
 | _=>false
/-- The capacity of which nothing is known. -/
def aN:Nat:=9223372036854775808
/-- The abstract value (left) stands for the real one. An abstract address: block, row, column in 'spot'. -/
inductive an (ν:Nu):Value→Value→Prop
 | bool (b:Bool):an ν (.bool b) (.bool b)
 | int (k:IntKind) (n:Int):an ν (.int k n) (.int k n)
 | str (s:ByteArray):an ν (.string s) (.string s)
 | mg:an ν (.pointer none) (.pointer none)
 | ptr (id row:Nat) (sp:Option Nat) (l:Loc) (h:ν id=some l):an ν (.pointer (some ⟨id,row,sp⟩)) (.pointer (some (l.at row (sp.getD 0))))
 | iF:an ν (.slice none 0 0) (.slice none 0 0)
 | slice (id row n c c':Nat) (l:Loc) (h:ν id=some l) (hc:c'=c∨c=aN) (hn:n≤c') (hr:row+c'≤l.cap) :
   an ν (.slice (some ⟨id,row,none⟩) n c) (.slice (some (l.at row 0)) n c')
 | void (id row c:Nat) (a:Addr) (hc:0=c∨c=aN):an ν (.slice (some ⟨id,row,none⟩) 0 c) (.slice (some a) 0 0)
 | lK (id row m n c':Nat) (l:Loc) (h:ν id=some l) (hm:m≤c') (hn:n≤c') (hr:row+c'≤l.cap) :
   an ν (.slice (some ⟨id,row,some m⟩) n aN) (.slice (some (l.at row 0)) n c')
 | kG (id row:Nat) (a:Addr):an ν (.slice (some ⟨id,row,some 0⟩) 0 aN) (.slice (some a) 0 0)
 | mh:an ν .nilFunc .nilFunc
 | func (fn:Fn) (xs ys mY dn:List Value) (h1:xs.length=ys.length) (J:∀ (i:Nat) (x y:Value),xs[i]?=some x→ys[i]?=some y→an ν x y)
   (h3:mY.length=dn.length) (h4:∀ (i:Nat) (x y:Value),mY[i]?=some x→dn[i]?=some y→an ν x y) :
   an ν (.func fn ⟨xs⟩ ⟨mY⟩) (.func fn ⟨ys⟩ ⟨dn⟩)
 | agg (xs ys:List Value) (h1:xs.length=ys.length) (J:∀ (i:Nat) (x y:Value),xs[i]?=some x→ys[i]?=some y→an ν x y):an ν (.agg ⟨xs⟩) (.agg ⟨ys⟩)
 | tuple (xs ys:List Value) (h1:xs.length=ys.length) (J:∀ (i:Nat) (x y:Value),xs[i]?=some x→ys[i]?=some y→an ν x y):an ν (.tuple ⟨xs⟩) (.tuple ⟨ys⟩)
 | dead (w:Value) (h:w.oneCell'=true):an ν (.chan none) w
/-- Element by element. -/
def bh (ν:Nu) (xs ys:List Value):Prop:=xs.length=ys.length∧∀ (i:Nat) (x y:Value),xs[i]?=some x→ys[i]?=some y→an ν x y
theorem an.mono {ν aj:Nu} (hle:ν.le aj) {v w:Value} (h:an ν v w):an aj v w:=by
 induction h with
 | bool b=>exact .bool b
 | int k n=>exact .int k n
 | str s=>exact .str s
 | mg=>exact .mg
 | ptr id row sp l h=>exact .ptr id row sp l (hle _ _ h)
 | iF=>exact .iF
 | slice id row n c c' l h hc hn hr=>exact .slice id row n c c' l (hle _ _ h) hc hn hr
 | void id row c a hc=>exact .void id row c a hc
 | lK id row m n c' l h hm hn hr=>exact .lK id row m n c' l (hle _ _ h) hm hn hr
 | kG id row a=>exact .kG id row a
 | mh=>exact .mh
 | func fn xs ys mY dn h1 _ h3 _ i2 i4=>exact .func fn xs ys mY dn h1 i2 h3 i4
 | agg xs ys h1 _ i2=>exact .agg xs ys h1 i2
 | tuple xs ys h1 _ i2=>exact .tuple xs ys h1 i2
 | dead w h=>exact .dead w h
theorem bh.mono {ν aj:Nu} (hle:ν.le aj) {xs ys:List Value} (h:bh ν xs ys):bh aj xs ys :=
 ⟨h.1,fun i x y hx hy=>(h.2 i x y hx hy).mono hle⟩
theorem bh.nil (ν:Nu):bh ν [] []:=⟨rfl,fun i x y hx _=>by simp at hx⟩
theorem bh.cons {ν:Nu} {x y:Value} {xs ys:List Value} (h:an ν x y) (hs:bh ν xs ys):bh ν (x::xs) (y::ys):=by
 refine ⟨by simp [hs.1],fun i a b ha hb=>?_⟩
 cases i with
 | zero=>simp at ha hb; subst ha; subst hb; exact h
 | succ i=>exact hs.2 i a b (by simpa using ha) (by simpa using hb)
theorem bh.head {ν:Nu} {x y:Value} {xs ys:List Value} (h:bh ν (x::xs) (y::ys)):an ν x y:=h.2 0 x y rfl rfl
theorem bh.tail {ν:Nu} {x y:Value} {xs ys:List Value} (h:bh ν (x::xs) (y::ys)):bh ν xs ys :=
 ⟨by have:=h.1; simpa using this,fun i a b ha hb=>h.2 (i+1) a b (by simpa using ha) (by simpa using hb)⟩
theorem bh.jg {ν:Nu} {x:Value} {xs zs:List Value} (h:bh ν (x::xs) zs):∃ y ys,zs=y::ys∧an ν x y∧bh ν xs ys:=by
 cases zs with
 | nil=>simp [bh] at h
 | cons y ys=>exact ⟨y,ys,rfl,h.head,h.tail⟩
theorem bh.iP {ν:Nu} {zs:List Value} (h:bh ν [] zs):zs=[]:=by
 cases zs with
 | nil=>rfl
 | cons y ys=>simp [bh] at h
theorem bh.append {ν:Nu} {a b c d:List Value} (h:bh ν a b) (k:bh ν c d):bh ν (a++c) (b++d):=by
 induction a generalizing b with
 | nil=>rw [bh.iP h]; exact k
 | cons x xs ih=>obtain ⟨y,ys,rfl,h1,J⟩:=h.jg; exact .cons h1 (ih J)
theorem bh.get {ν:Nu} {xs ys:List Value} (h:bh ν xs ys) {i:Nat} {x:Value} (hx:xs[i]?=some x):∃ y,ys[i]?=some y∧an ν x y:=by
 have hi:i < xs.length:=(List.getElem?_eq_some_iff.1 hx).1
 refine ⟨ys[i]'(h.1 ▸ hi),List.getElem?_eq_getElem _,h.2 i _ _ hx (List.getElem?_eq_getElem _)⟩
theorem bh.set {ν:Nu} {xs ys:List Value} (h:bh ν xs ys) {v w:Value} (hv:an ν v w) (i:Nat):bh ν (xs.set i v) (ys.set i w):=by
 refine ⟨by simp [h.1],fun j x y hx hy=>?_⟩
 rw [List.getElem?_set] at hx hy
 by_cases e:i=j
 ·subst e
  rw [if_pos rfl] at hx hy
  split at hx
  ·split at hy
   ·cases hx; cases hy; exact hv
   ·cases hy
  ·cases hx
 ·rw [if_neg e] at hx hy
  exact h.2 j x y hx hy
theorem an.j4 {ν:Nu} {v w:Value} (h:cO v=true) (hr:an ν v w):w=v:=by
 cases hr <;> simp_all [cO]
theorem an.j3 {ν:Nu} {v:Value} (h:cO v=true):an ν v v:=by
 cases v <;> simp [cO] at h <;> constructor
theorem an.tB {ν:Nu} {xs:List Value} {r:Value} (h:an ν (.agg ⟨xs⟩) r):∃ ys,r=.agg ⟨ys⟩∧bh ν xs ys:=by
 cases h with | agg _ ys h1 J=>exact ⟨ys,rfl,h1,J⟩
theorem an.np {ν:Nu} {xs:List Value} {r:Value} (h:an ν (.tuple ⟨xs⟩) r):∃ ys,r=.tuple ⟨ys⟩∧bh ν xs ys:=by
 cases h with | tuple _ ys h1 J=>exact ⟨ys,rfl,h1,J⟩
theorem an.undef (ν:Nu):an ν undef undef:=.tuple [] [] rfl (fun i x y hx _=>by simp at hx)
/-- A cell: no aggregate, no tuple. -/
theorem an.A7 {ν:Nu} {v w:Value} (h:an ν v w):w.oneCell'=v.oneCell':=by cases h <;> first | rfl | assumption
theorem an.cells {ν:Nu} {v w:Value} (h:an ν v w):bh ν v.cells.toList w.cells.toList:=by
 cases h with
 | agg xs ys h1 J=>exact ⟨h1,J⟩
 | bool b=>exact .cons (.bool b) (.nil ν)
 | int k n=>exact .cons (.int k n) (.nil ν)
 | str s=>exact .cons (.str s) (.nil ν)
 | mg=>exact .cons .mg (.nil ν)
 | ptr id row sp l h=>exact .cons (.ptr id row sp l h) (.nil ν)
 | iF=>exact .cons .iF (.nil ν)
 | slice id row n c c' l h hc hn hr=>exact .cons (.slice id row n c c' l h hc hn hr) (.nil ν)
 | void id row c a hc=>exact .cons (.void id row c a hc) (.nil ν)
 | lK id row m n c' l h hm hn hr=>exact .cons (.lK id row m n c' l h hm hn hr) (.nil ν)
 | kG id row a=>exact .cons (.kG id row a) (.nil ν)
 | mh=>exact .cons .mh (.nil ν)
 | func fn xs ys mY dn h1 J h3 h4=>exact .cons (.func fn xs ys mY dn h1 J h3 h4) (.nil ν)
 | tuple xs ys h1 J=>exact .cons (.tuple xs ys h1 J) (.nil ν)
 | dead w h=>
  have e:w.cells=#[w]:=by cases w <;> first | rfl | simp [Value.oneCell'] at h
  rw [e]; exact .cons (.dead w h) (.nil ν)
/-- An abstract block: rows of cells. 'expl': the rows are written out (they may hold addresses); 'flat': a function that gives them, plain cells alone. 'own': may be written. -/
inductive ai where
 | aQ (own:Bool) (ah:Nat) (rows:List (List Value))
 | flat (own:Bool) (n ah:Nat) (get:Nat→List Value)
 | cm (r:Loop)
def ai.own:ai→Bool
 | .aQ o _ _ | .flat o _ _ _=>o
 | .cm _=>true
def ai.ah:ai→Nat
 | .aQ _ e _ | .flat _ _ e _=>e
 | .cm _=>0
def ai.n:ai→Nat
 | .aQ _ _ rows=>rows.length
 | .flat _ n _ _=>n
 | .cm _=>0
def ai.row:ai→Nat→List Value
 | .aQ _ _ rows=>fun r=>rows.getD r []
 | .flat _ _ _ get=>get
 | .cm _=>fun _=>[]
def ai.iR:ai→Bool
 | .aQ ..=>false
 | .flat ..=>true
 | .cm _=>false
/-- Own, and made of cells. -/
def ai.nE:ai→Bool
 | .aQ o _ _ | .flat o _ _ _=>o
 | .cm _=>false
/-- The record of a range over a function. -/
def ai.rc:ai→Option Loop
 | .cm r=>some r
 | _=>none
abbrev ax:=List (Option ai)
theorem ai.c5 {b:ai} (h:b.nE=true):b.own=true∧b.rc=none:=by
 cases b with
 | aQ o e r=>exact ⟨h,rfl⟩
 | flat o n e g=>exact ⟨h,rfl⟩
 | cm r=>cases h
structure bQ (ν:Nu) (l:Loc) (b:ai) (w:World):Prop where
 ah:l.ah=b.ah
 len:∀ r,r < b.n→(b.row r).length=b.ah
 cell:∀ r,r < b.n→∀ j v,(b.row r)[j]?=some v→∃ v',w.cell? (l.at r j)=some v'∧an ν v v'
 plain:b.iR=true→∀ r,r < b.n→∀ v∈b.row r,cO v=true
 one:∀ r,r < b.n→∀ v∈b.row r,v.oneCell'=true
 own:b.own=true→b.rc=none→∃ cur t,w.heap[l.aH]?=some (.cells cur t (0,0))∧l.base+l.cap*l.ah≤cur.size∧b.n≤l.cap
 lr:∀ r,b.rc=some r→w.heap[l.aH]?=some (.loop r)
 live:l.aH < w.heap.size
structure bT (ν:Nu) (H:ax) (w:World):Prop where
 aH:∀ id b,H[id]?=some (some b)→∃ l,ν id=some l∧bQ ν l b w
 sep:∀ i j bi bj li lj,H[i]?=some (some bi)→H[j]?=some (some bj)→i≠j→bi.own=true→ν i=some li→ν j=some lj→li.aH≠lj.aH
/-- The world has grown, what was there has not turned. -/
theorem Rg {w w':World} (h:Below w.heap.size w w') {a:Addr} {v:Value} (hc:w.cell? a=some v):w'.cell? a=some v :=
 (World.cell?_of_block (h.block _ (World.block_lt_of_cell? w a hc))).trans hc
theorem bQ.below {ν:Nu} {l:Loc} {b:ai} {w w':World} (h:bQ ν l b w) (hb:Below w.heap.size w w'):bQ ν l b w' :=
 ⟨h.ah,h.len,fun r hr j v hv=>let ⟨v',hc,iI⟩:=h.cell r hr j v hv; ⟨v',Rg hb hc,iI⟩,h.plain,h.one,
   fun ho hc=>let ⟨cur,t,h1,J⟩:=h.own ho hc; ⟨cur,t,by rw [hb.block _ h.live]; exact h1,J⟩,fun r hr=>(hb.block _ h.live).trans (h.lr r hr),Nat.lt_of_lt_of_le h.live hb.size⟩
/-- The block itself has not turned. -/
theorem bQ.same {ν:Nu} {l:Loc} {b:ai} {w w':World} (h:bQ ν l b w) (he:w'.heap[l.aH]?=w.heap[l.aH]?) (hs:w.heap.size≤w'.heap.size):bQ ν l b w' :=
 ⟨h.ah,h.len,fun r hr j v hv=>let ⟨v',hc,iI⟩:=h.cell r hr j v hv; ⟨v',by rw [World.cell?_of_block (a:=l.at r j) he]; exact hc,iI⟩,h.plain,h.one,
   fun ho hc=>let ⟨cur,t,h1,J⟩:=h.own ho hc; ⟨cur,t,by rw [he]; exact h1,J⟩,fun r hr=>he.trans (h.lr r hr),Nat.lt_of_lt_of_le h.live hs⟩
theorem bQ.mono {ν aj:Nu} (hle:ν.le aj) {l:Loc} {b:ai} {w:World} (h:bQ ν l b w):bQ aj l b w :=
 ⟨h.ah,h.len,fun r hr j v hv=>let ⟨v',hc,iI⟩:=h.cell r hr j v hv; ⟨v',hc,iI.mono hle⟩,h.plain,h.one,h.own,h.lr,h.live⟩
theorem bT.below {ν:Nu} {H:ax} {w w':World} (h:bT ν H w) (hb:Below w.heap.size w w'):bT ν H w' :=
 ⟨fun id b hi=>let ⟨l,h1,J⟩:=h.aH id b hi; ⟨l,h1,J.below hb⟩,h.sep⟩
theorem bT.mono {ν aj:Nu} (hle:ν.le aj) {H:ax} {w:World} (h:bT ν H w):bT aj H w :=
 ⟨fun id b hi=>let ⟨l,h1,J⟩:=h.aH id b hi; ⟨l,hle _ _ h1,J.mono hle⟩,
   fun i j bi bj li lj hi hj aK ho h1 J=>by
  obtain ⟨l1,e1,_⟩:=h.aH i bi hi
  obtain ⟨l2,e2,_⟩:=h.aH j bj hj
  have:=hle _ _ e1; rw [h1] at this; cases this
  have:=hle _ _ e2; rw [J] at this; cases this
  exact h.sep i j bi bj _ _ hi hj aK ho e1 e2⟩
/-- Fewer blocks. -/
def ax.le (H G:ax):Prop:=∀ (id:Nat) (b:ai),H[id]?=some (some b)→G[id]?=some (some b)
theorem bT.rD {ν:Nu} {H G:ax} {w:World} (h:bT ν G w) (hle:ax.le H G):bT ν H w :=
 ⟨fun id b hi=>h.aH id b (hle id b hi),fun i j bi bj li lj hi hj=>h.sep i j bi bj li lj (hle i bi hi) (hle j bj hj)⟩
/-- A new block beside the others. -/
theorem bT.push {ν:Nu} {H:ax} {w w':World} (h:bT ν H w) (hb:Below w.heap.size w w') {id:Nat} (hn:ν id=none) {l:Loc} {b:ai} (G:ax)
  (hG:∀ j c,G[j]?=some (some c)→(j=id∧c=b)∨(j≠id∧H[j]?=some (some c))) (hl:w.heap.size≤l.aH)
  (hB:bQ (ν.add id l) l b w'):bT (ν.add id l) G w':=by
 have hle:ν.le (ν.add id l):=Nu.j6 hn
 have h':=(h.mono hle).below hb
 refine ⟨fun j c hj=>?_,fun i j bi bj li lj hi hj aK ho h1 J=>?_⟩
 ·rcases hG j c hj with ⟨rfl,rfl⟩ | ⟨_,gn⟩
  ·exact ⟨l,Nu.add_same,hB⟩
  ·exact h'.aH j c gn
 ·rcases hG i bi hi with ⟨rfl,rfl⟩ | ⟨_,aP⟩ <;> rcases hG j bj hj with ⟨rfl,rfl⟩ | ⟨_,gn⟩
  ·exact absurd rfl aK
  ·obtain ⟨l2,e2,dJ⟩:=h.aH j bj gn
   have:=hle _ _ e2; rw [J] at this; cases this
   rw [Nu.add_same] at h1; cases h1
   have:=dJ.live
   omega
  ·obtain ⟨l2,e2,dJ⟩:=h.aH i bi aP
   have:=hle _ _ e2; rw [h1] at this; cases this
   rw [Nu.add_same] at J; cases J
   have:=dJ.live
   omega
  ·exact h'.sep i j bi bj li lj aP gn aK ho h1 J
/-! ### Slots -/
def pQ:List Value→Nat→(Value→Prop)→Prop
 | [],_,_=>False
 | v::_,0,k=>k v
 | _::l,n+1,k=>pQ l n k
def wQ:List Value→Nat→Value→(List Value→Prop)→Prop
 | [],_,_,_=>False
 | _::l,0,v,k=>k (v::l)
 | x::l,n+1,v,k=>wQ l n v fun l'=>k (x::l')
theorem od:∀ {l:List Value} {n:Nat} {k:Value→Prop},pQ l n k→∃ v,l[n]?=some v∧k v
 | [],_,_,h=>h.elim
 | v::_,0,_,h=>⟨v,rfl,h⟩
 | _::l,n+1,k,h=>by obtain ⟨v,h1,J⟩:=od (l:=l) h; exact ⟨v,by simpa using h1,J⟩
theorem oe:∀ {l:List Value} {n:Nat} {v:Value} {k:List Value→Prop},wQ l n v k→n < l.length∧k (l.set n v)
 | [],_,_,_,h=>h.elim
 | _::l,0,v,k,h=>⟨by simp,h⟩
 | x::l,n+1,v,k,h=>by
  obtain ⟨h1,J⟩:=oe (l:=l) h
  exact ⟨by simpa using h1,by simpa using J⟩
/-- A constant that stands for itself. -/
def FX (v:Value) (k:Value→Prop):Prop :=
 match v with
 | .bool b=>k (.bool b)
 | .int q n=>k (.int q n)
 | .string s=>k (.string s)
 | .pointer none=>k (.pointer none)
 | .slice none 0 0=>k (.slice none 0 0)
 | .nilFunc=>k .nilFunc
 | _=>False
theorem JL {v:Value} {k:Value→Prop} (h:FX v k):k v∧∀ ν,an ν v v:=by
 unfold FX at h
 split at h
 ·exact ⟨h,fun ν=>.bool _⟩
 ·exact ⟨h,fun ν=>.int _ _⟩
 ·exact ⟨h,fun ν=>.str _⟩
 ·exact ⟨h,fun ν=>.mg⟩
 ·exact ⟨h,fun ν=>.iF⟩
 ·exact ⟨h,fun ν=>.mh⟩
 ·exact h.elim
def bZ (tmps:List Value) (x:Operand) (k:Value→Prop):Prop :=
 match x with
 | .tmp t=>pQ tmps t k
 | .const v=>FX v k
 | .func f=>k (.func (.func f) #[] #[])
 | .global _=>False
/-- The slots that an operand reads stand for the real ones. -/
def fk (ν:Nu) (tmps:List Value) (a:Act) (x:Operand):Prop :=
 ∀ t,x=.tmp t→∀ v,tmps[t]?=some v→∃ v',a.tmps[t]?=some v'∧an ν v v'
theorem kz {tmps:List Value} {x:Operand} {k:Value→Prop} (h:bZ tmps x k) {ν:Nu} {a:Act} (ha:fk ν tmps a x) :
  ∃ v,k v∧an ν v (a.eval x):=by
 cases x with
 | tmp t =>
  obtain ⟨v,h1,J⟩:=od h
  obtain ⟨v',h3,h4⟩:=ha t rfl v h1
  exact ⟨v,J,by simpa [Act.eval,h3] using h4⟩
 | const v=>obtain ⟨h1,J⟩:=JL h; exact ⟨v,h1,J ν⟩
 | func f=>exact ⟨_,h,.func _ [] [] [] [] rfl (fun i x y hx _=>by simp at hx) rfl (fun i x y hx _=>by simp at hx)⟩
 | global g=>exact h.elim
theorem cX {tmps:List Value} {x:Operand} {k:Value→Prop} (h:bZ tmps x k) :
  ∃ v,k v∧∀ (ν:Nu) (a:Act),fk ν tmps a x→an ν v (a.eval x):=by
 cases x with
 | tmp t =>
  obtain ⟨v,h1,J⟩:=od h
  refine ⟨v,J,fun ν a ha=>?_⟩
  obtain ⟨v',h3,h4⟩:=ha t rfl v h1
  simpa [Act.eval,h3] using h4
 | const v=>obtain ⟨h1,J⟩:=JL h; exact ⟨v,h1,fun ν a _=>J ν⟩
 | func f=>exact ⟨_,h,fun ν a _=>.func _ [] [] [] [] rfl (fun i x y hx _=>by simp at hx) rfl (fun i x y hx _=>by simp at hx)⟩
 | global g=>exact h.elim
def pA (tmps:List Value):List Operand→(List Value→Prop)→Prop
 | [],k=>k []
 | x::xs,k=>bZ tmps x fun v=>pA tmps xs fun vs=>k (v::vs)
theorem Dt {tmps:List Value} {ν:Nu} {a:Act}:∀ {xs:List Operand} {k:List Value→Prop},pA tmps xs k→(∀ x∈xs,fk ν tmps a x) →
  ∃ vs,k vs∧bh ν vs (xs.map a.eval)
 | [],k,h,_=>⟨[],h,.nil ν⟩
 | x::xs,k,h,ha=>by
  obtain ⟨v,h1,J⟩:=kz h (ha x (by simp))
  obtain ⟨vs,h3,h4⟩:=Dt h1 (fun y hy=>ha y (by simp [hy]))
  exact ⟨v::vs,h3,.cons J h4⟩
theorem Av {tmps:List Value}:∀ {xs:List Operand} {k:List Value→Prop},pA tmps xs k →
  ∃ vs,k vs∧∀ (ν:Nu) (a:Act),(∀ x∈xs,fk ν tmps a x)→bh ν vs (xs.map a.eval)
 | [],k,h=>⟨[],h,fun ν a _=>.nil ν⟩
 | x::xs,k,h=>by
  obtain ⟨v,h1,J⟩:=cX h
  obtain ⟨vs,h3,h4⟩:=Av h1
  exact ⟨v::vs,h3,fun ν a ha=>.cons (J ν a (ha x (by simp))) (h4 ν a (fun y hy=>ha y (by simp [hy])))⟩
/-! ### Pieces of a list -/
def tL:List Value→Nat→Nat→(List Value→Prop)→Prop
 | _,0,0,k=>k []
 | [],0,_+1,_=>False
 | v::l,0,n+1,k=>tL l 0 n fun vs=>k (v::vs)
 | [],_+1,_,_=>False
 | _::l,o+1,n,k=>tL l o n k
theorem xC:∀ {l:List Value} {o n:Nat} {k:List Value→Prop},tL l o n k→∃ vs,k vs∧vs.length=n∧∀ j v,vs[j]?=some v→l[o+j]?=some v
 | l,0,0,k,h=>⟨[],by cases l <;> exact h,rfl,fun j v hv=>by simp at hv⟩
 | [],0,_+1,_,h=>h.elim
 | v::l,0,n+1,k,h=>by
  obtain ⟨vs,h1,J,h3⟩:=xC (l:=l) h
  refine ⟨v::vs,h1,by simp [J],fun j u hu=>?_⟩
  cases j with
  | zero=>simpa using hu
  | succ j=>have:=h3 j u (by simpa using hu); simpa using this
 | [],o+1,n,k,h=>by cases n <;> exact h.elim
 | x::l,o+1,n,k,h=>by
  have h':tL l o n k:=by cases n <;> exact h
  obtain ⟨vs,h1,J,h3⟩:=xC (l:=l) h'
  exact ⟨vs,h1,J,fun j v hv=>by have:=h3 j v hv; rwa [show o+1+j=(o+j)+1 by omega,List.getElem?_cons_succ]⟩
/-- Cells written over, from place o on. -/
def ue:List Value→Nat→List Value→(List Value→Prop)→Prop
 | l,0,[],k=>k l
 | [],0,_::_,_=>False
 | _::l,0,v::vs,k=>ue l 0 vs fun l'=>k (v::l')
 | [],_+1,_,_=>False
 | x::l,o+1,vs,k=>ue l o vs fun l'=>k (x::l')
theorem xJ:∀ {l:List Value} {o:Nat} {vs:List Value} {k:List Value→Prop},ue l o vs k →
  ∃ l',k l'∧l'.length=l.length∧o+vs.length≤l.length∧(∀ j v,vs[j]?=some v→l'[o+j]?=some v)∧∀ j,(j < o∨o+vs.length≤j)→l'[j]?=l[j]?
 | l,0,[],k,h=>⟨l,by cases l <;> exact h,rfl,by simp,fun j v hv=>by simp at hv,fun _ _=>rfl⟩
 | [],0,_::_,_,h=>h.elim
 | x::l,0,v::vs,k,h=>by
  obtain ⟨l',h1,J,h3,h4,h5⟩:=xJ (l:=l) h
  refine ⟨v::l',h1,by simp [J],by simp at h3 ⊢; omega,fun j u hu=>?_,fun j hj=>?_⟩
  ·cases j with
   | zero=>simpa using hu
   | succ j=>have:=h4 j u (by simpa using hu); simpa using this
  ·cases j with
   | zero=>simp at hj
   | succ j=>have:=h5 j (by simp at hj ⊢; omega); simpa using this
 | [],o+1,vs,k,h=>by cases vs <;> exact h.elim
 | x::l,o+1,vs,k,h=>by
  have h':ue l o vs fun l'=>k (x::l'):=by cases vs <;> exact h
  obtain ⟨l',h1,J,h3,h4,h5⟩:=xJ (l:=l) h'
  refine ⟨x::l',h1,by simp [J],by simp; omega,fun j u hu=>?_,fun j hj=>?_⟩
  ·have:=h4 j u hu; rwa [show o+1+j=(o+j)+1 by omega,List.getElem?_cons_succ]
  ·cases j with
   | zero=>simp
   | succ j=>have:=h5 j (by omega); simpa using this
/-- The abstract heap: a block. -/
def gF:ax→Nat→(ai→Prop)→Prop
 | [],_,_=>False
 | b::_,0,k=>match b with | some b=>k b | none=>False
 | _::H,n+1,k=>gF H n k
theorem gA:∀ {H:ax} {id:Nat} {k:ai→Prop},gF H id k→∃ b,H[id]?=some (some b)∧k b
 | [],_,_,h=>h.elim
 | some b::_,0,_,h=>⟨b,rfl,h⟩
 | none::_,0,_,h=>h.elim
 | _::H,n+1,k,h=>by obtain ⟨b,h1,J⟩:=gA (H:=H) h; exact ⟨b,by simpa using h1,J⟩
/-- .. put in another's place. -/
def jr:ax→Nat→Option ai→(ax→Prop)→Prop
 | [],_,_,_=>False
 | _::H,0,b,k=>k (b::H)
 | c::H,n+1,b,k=>jr H n b fun H'=>k (c::H')
theorem lW:∀ {H:ax} {id:Nat} {b:Option ai} {k:ax→Prop},jr H id b k→id < H.length∧k (H.set id b)
 | [],_,_,_,h=>h.elim
 | _::H,0,_,_,h=>⟨by simp,h⟩
 | c::H,n+1,b,k,h=>by obtain ⟨h1,J⟩:=lW (H:=H) h; exact ⟨by simpa using h1,by simpa using J⟩
/-- .. laid behind the others. -/
def ox:ax→Option ai→(ax→Prop)→Prop
 | [],b,k=>k [b]
 | c::H,b,k=>ox H b fun H'=>k (c::H')
theorem xD:∀ {H:ax} {b:Option ai} {k:ax→Prop},ox H b k→k (H++[b])
 | [],_,_,h=>h
 | _::H,b,k,h=>xD (H:=H) h
/-- How many there are. -/
def js:ax→(Nat→Prop)→Prop
 | [],k=>k 0
 | _::H,k=>js H fun n=>k (n+1)
theorem lX:∀ {H:ax} {k:Nat→Prop},js H k→k H.length
 | [],_,h=>h
 | _::H,k,h=>lX (H:=H) h
/-- A branch. -/
def br (b:Bool) (x y:Prop):Prop:=match b with | true=>x | false=>y
theorem aL {b:Bool} {x y:Prop} (h1:b=true→x) (J:b=false→y):br b x y:=by cases b <;> simp_all [br]
theorem A8 {b:Bool} {x y:Prop} (h:br b x y) (hb:b=true):x:=by subst hb; exact h
theorem AR {b:Bool} {x y:Prop} (h:br b x y) (hb:b=false):y:=by subst hb; exact h
theorem mK {b:Bool} {x y:Prop} (h:b=true) (hx:x):br b x y:=by subst h; exact hx
/-- What is asked, decided at once where it can be. -/
def wR (p:Prop) [Decidable p] (k:Prop):Prop:=br (decide p) k False
theorem AD {p:Prop} [Decidable p] {k:Prop} (h:wR p k):p∧k:=by
 unfold wR br at h
 split at h
 ·rename_i hp; exact ⟨of_decide_eq_true hp,h⟩
 ·exact h.elim
end Go.Ae
/- The types that the abstract evaluation needs to know, and that a table of them is true of a program. -/
namespace Go.Ae
open Go Go.RowKit
inductive TK where
 | int (k:IntKind) | bool | str
 | struct (fs:List (Nat × Nat × Bool))      -- offset,size,is it a struct or an array
 | slice (e:TypeId)
 | array (n:Nat) (e:TypeId)
 | other
structure TI where
 size:Nat
 bytes:Nat
 kind:TK
 zero:List Value
def TI.agg (ti:TI):Bool:=match ti.kind with | .struct _ | .array _ _=>true | _=>false
abbrev TT:=TypeId→Option TI
def tC:TypeDesc→Bool
 | .struct _ | .array _ _=>true
 | _=>false
def x0 (P:Program) (f:Field) (x:Nat × Nat × Bool):Prop :=
 f.offset=x.1∧0 < x.2.1∧(∃ i,P.info? f.type=some i∧i.size=x.2.1)∧∃ d,P.underlying f.type=some d∧tC d=x.2.2
def CB (P:Program) (k:TK) (d:TypeDesc):Prop :=
 match k with
 | .int q=>d=.int q
 | .bool=>d=.bool
 | .str=>d=.string
 | .struct fs=>∃ fields,d=.struct fields∧fields.size=fs.length∧∀ (i:Nat) f x,fields[i]?=some f→fs[i]?=some x→x0 P f x
 | .slice e=>d=.slice e
 | .array n e=>d=.array n e
 | .other=>tC d=false
structure aB (P:Program) (t:TypeId) (ti:TI):Prop where
 info:∃ i,P.info? t=some i∧i.size=ti.size∧i.bytes=ti.bytes∧∃ z,i.zero=some z∧z.cells=⟨ti.zero⟩
 under:∃ d,P.underlying t=some d∧CB P ti.kind d
 self:∀ ν,bh ν ti.zero ti.zero
 len:ti.zero.length=ti.size
 one:∀ v∈ti.zero,v.oneCell'=true
 bit:0 < ti.size∧0 < ti.bytes
theorem aB.ab1 {P:Program} {t:TypeId} {ti:TI} (h:aB P t ti):∃ d,P.underlying t=some d∧tC d=ti.agg:=by
 obtain ⟨d,h1,J⟩:=h.under
 refine ⟨d,h1,?_⟩
 unfold CB at J
 unfold TI.agg
 split at J <;> rename_i hk <;> rw [hk] <;> first | (subst J; rfl) | (obtain ⟨_,rfl,_⟩:=J; rfl) | (simpa using J)
theorem KO {P:Program} {t:TypeId} {d:TypeDesc} (h:P.underlying t=some d) (w:World):(isAgg t).run P w=.ok (tC d) w:=by
 unfold isAgg underlying
 simp [h]
 cases d <;> rfl
theorem gr {P:Program} {t:TypeId} {i:TypeInfo} (h:P.info? t=some i) (w:World):(sizeOf t).run P w=.ok i.size w:=by simp [sizeOf,typeInfo,h]
theorem ve {P:Program} {t:TypeId} {i:TypeInfo} {z:Value} (h:P.info? t=some i) (hz:i.zero=some z) (w:World):(zeroValue t).run P w=.ok z w:=by
 simp [zeroValue,typeInfo,h,hz]
theorem dE {P:Program} {t:TypeId} {d:TypeDesc} (h:P.underlying t=some d) (w:World):(underlying t).run P w=.ok d w:=by simp [underlying,h]
/-- A variable is read: its cells. -/
theorem Jo {P:Program} {t:TypeId} {ti:TI} (h:aB P t ti) {w:World} {a:Addr} {cs:List Value} (hl:cs.length=ti.size)
  (hc:∀ j v,cs[j]?=some v→w.cell? (a.add j)=some v) :
  (loadVar t a).run P w=.ok (if ti.agg then .agg ⟨cs⟩ else cs.getD 0 undef) w:=by
 obtain ⟨d,h1,J⟩:=h.ab1
 obtain ⟨i,hi,hs,_⟩:=h.info
 unfold loadVar
 simp only [Sem.run_bind,KO h1,Result.andThen_ok,Sem.run_ite]
 rw [J]
 split
 ·simp only [Sem.run_bind,gr hi,Result.andThen_ok]
  rw [hs,← hl,run_loadCells_list w a cs hc]
  rfl
 ·have hp:=h.bit.1
  cases cs with
  | nil=>simp at hl; omega
  | cons v r =>
   have:=hc 0 v rfl
   simp only [Addr.add,if_true] at this
   simp [run_load,this]
theorem TR (b o j:Nat):(⟨b,o,none⟩:Addr).add j=⟨b,o+j,none⟩:=by unfold Addr.add; split <;> simp_all
theorem Loc.jH (l:Loc) (row cg j:Nat):(l.at row cg).add j=l.at row (cg+j):=by
 unfold Loc.at; rw [TR]; congr 1; omega
end Go.Ae
/- The abstract evaluation of one operation that writes nothing, and that it stands for the model's own. -/
namespace Go.Ae
open Go Go.RowKit
/-- A function without blocks among its arguments and results: how it may be called, and what it gives. -/
structure bG where
 ι:Type
 args:ι→List Value
 pre:ι→Prop
 val:ι→Value
/-- A function that reads the blocks of its arguments and gives at most one new one: the arguments' blocks have the numbers 0, 1, .., the new one the next. -/
structure aG where
 ι:Type
 args:ι→List Value
 ae:ι→List ai
 pre:ι→Prop
 val:ι→Value
 new:ι→Option ai
inductive tM where
 | p (S:bG)
 | q (S:aG)
 | r (S:aG)
abbrev yr:=FuncId→Option tM
def WF (r:Option Nat):Fence:={ Fence.wide with round:=r }
structure bm (P:Program) (f:FuncId) (S:bG):Prop where
 enters:∀ args w,(callFunc f args).run P w=.ok (.enter f args) w
 calls:∀ (i:S.ι),S.pre i→∀ (ν:Nu) (as:List Value) (w:World) (n:Nat),bh ν (S.args i) as →
  CallsIn Fence.wide n P f ⟨as⟩ w fun e w'=>∃ v',e=.returned v'∧an ν (S.val i) v'∧Below w.heap.size w w'
structure mM (ν aj:Nu) (aI:Nat) (w w':World) (v v':Value) (nb:Option ai):Prop where
 le:ν.le aj
 only:∀ id,id≠aI→aj id=ν id
 val:an aj v v'
 below:Below w.heap.size w w'
 y7:nb=none→aj=ν
 gY:∀ b,nb=some b→∃ l,aj aI=some l∧bQ aj l b w'∧w.heap.size≤l.aH
structure cZ (P:Program) (f:FuncId) (S:aG):Prop where
 enters:∀ args w,(callFunc f args).run P w=.ok (.enter f args) w
 ro:∀ i b,b∈S.ae i→b.own=false
 fl:∀ i b,S.new i=some b→b.iR=true
 calls:∀ (i:S.ι),S.pre i→∀ (ν:Nu) (as:List Value) (w:World) (n:Nat),bh ν (S.args i) as→bT ν ((S.ae i).map some) w→(∀ id,(S.ae i).length≤id→ν id=none) →
  CallsIn Fence.wide n P f ⟨as⟩ w fun e w'=>∃ v' aj,e=.returned v'∧mM ν aj (S.ae i).length w w' (S.val i) v' (S.new i)
def Cc (P:Program) (f:FuncId):tM→Prop
 | .p S=>bm P f S
 | .q S=>cZ P f S
 | .r S=>cZ P f S
abbrev QK:=Value→Option ai→Prop
def pB (v:Value) (k:Value→Prop):Prop :=
 match v with
 | .bool b=>k (.bool b)
 | .int q n=>k (.int q n)
 | .string s=>k (.string s)
 | .agg cs=>k (.agg cs)
 | .tuple cs=>k (.tuple cs)
 | .pointer a=>k (.pointer a)
 | .slice a n c=>k (.slice a n c)
 | .func f a b=>k (.func f a b)
 | .nilFunc=>k .nilFunc
 | _=>False
theorem vf {v:Value} {k:Value→Prop} (h:pB v k):k v:=by
 unfold pB at h; split at h <;> first | exact h | exact h.elim
def pR:List Value→List Value→(List Value→Prop)→Prop
 | [],l,k=>k l
 | x::xs,l,k=>pR xs l fun r=>k (x::r)
theorem vv:∀ {xs l:List Value} {k:List Value→Prop},pR xs l k→k (xs++l)
 | [],_,_,h=>h
 | _::xs,l,k,h=>vv (xs:=xs) h
def o8:List Value→Nat→Bool
 | [],0=>true
 | v::l,n+1=>v.oneCell' && o8 l n
 | _,_=>false
theorem xw:∀ {l:List Value} {n:Nat},o8 l n=true→l.length=n∧∀ v∈l,v.oneCell'=true
 | [],0,_=>⟨rfl,fun v hv=>by simp at hv⟩
 | v::l,n+1,h=>by
  simp only [o8,Bool.and_eq_true] at h
  obtain ⟨h1,J⟩:=xw h.2
  exact ⟨by simp [h1],fun u hu=>by
   rcases List.mem_cons.1 hu with e | e
   ·rw [e]; exact h.1
   ·exact J u e⟩
 | [],_+1,h=>by simp [o8] at h
 | _::_,0,h=>by simp [o8] at h
/-- A value's cells. -/
def wc (v:Value) (k:List Value→Prop):Prop :=
 match v with
 | .agg cs=>k cs.toList
 | .tuple _=>False
 | v=>k [v]
theorem Ai {v:Value} {k:List Value→Prop} (h:wc v k):k v.cells.toList:=by
 unfold wc at h
 split at h
 ·exact h
 ·exact h.elim
 ·rename_i h1 J
  cases v <;> first | exact h | exact absurd rfl (h1 _)
def Gp:List (List Value)→Nat→(List Value→Prop)→Prop
 | [],_,_=>False
 | r::_,0,k=>k r
 | _::rs,n+1,k=>Gp rs n k
theorem J5:∀ {rs:List (List Value)} {n:Nat} {k:List Value→Prop},Gp rs n k→∃ r,rs[n]?=some r∧k r
 | [],_,_,h=>h.elim
 | r::_,0,_,h=>⟨r,rfl,h⟩
 | _::rs,n+1,k,h=>by obtain ⟨r,h1,J⟩:=J5 (rs:=rs) h; exact ⟨r,by simpa using h1,J⟩
def G0 (b:ai) (row:Nat) (k:List Value→Prop):Prop :=
 match b with
 | .aQ _ _ rows=>Gp rows row k
 | .flat _ n _ get=>row < n∧k (get row)
 | .cm _=>False
theorem KP {b:ai} {row:Nat} {k:List Value→Prop} (h:G0 b row k):row < b.n∧k (b.row row):=by
 cases b with
 | aQ o e rows =>
  obtain ⟨r,h1,J⟩:=J5 h
  exact ⟨(List.getElem?_eq_some_iff.1 h1).1,by simpa [ai.row,List.getD,h1] using J⟩
 | flat o n e get=>exact h
 | cm r=>exact h.elim
def x7:List (Nat × Nat × Bool)→Nat→(Nat→Nat→Bool→Prop)→Prop
 | [],_,_=>False
 | (a,b,c)::_,0,k=>k a b c
 | _::l,n+1,k=>x7 l n k
theorem Aj:∀ {l:List (Nat × Nat × Bool)} {n:Nat} {k:Nat→Nat→Bool→Prop},x7 l n k→∃ x,l[n]?=some x∧k x.1 x.2.1 x.2.2
 | [],_,_,h=>h.elim
 | x::_,0,_,h=>⟨x,rfl,h⟩
 | _::l,n+1,k,h=>by obtain ⟨r,h1,J⟩:=Aj (l:=l) h; exact ⟨r,by simpa using h1,J⟩
def fe (a b:Nat):Nat:=match a with | 0=>b | a+1=>(a+1)+b
theorem aq (a b:Nat):fe a b=a+b:=by cases a <;> simp [fe]
def cR (tt:TT) (t:TypeId) (k:TI→Prop):Prop:=match tt t with | some ti=>k ti | none=>False
theorem cT {tt:TT} {t:TypeId} {k:TI→Prop} (h:cR tt t k):∃ ti,tt t=some ti∧k ti:=by
 unfold cR at h; split at h
 ·exact ⟨_,by assumption,h⟩
 ·exact h.elim
def valOf (agg:Bool) (cs:List Value):Value:=match agg,cs with | true,cs=>.agg ⟨cs⟩ | false,v::_=>v | false,[]=>undef
/-- .. handed on, written out. -/
def Cd (agg:Bool) (cs:List Value) (k:Value→Prop):Prop :=
 match agg,cs with
 | true,cs=>k (.agg ⟨cs⟩)
 | false,v::_=>pB v k
 | false,[]=>k undef
def HI (sp:Option Nat) (k:Nat→Prop):Prop:=match sp with | none=>k 0 | some c=>k c
theorem Lz {sp:Option Nat} {k:Nat→Prop} (h:HI sp k):k (sp.getD 0):=by cases sp <;> exact h
def cf (s:ByteArray) (i:Nat):Nat:=(s.data.toList.getD i 0).toNat
def BJ (tmps:List Value) (x:Operand) (k:QK):Prop:=bZ tmps x fun v=>k v none
def NB (tmps:List Value) (c a b:Operand) (k:QK):Prop :=
 bZ tmps c fun cv=>match cv with
  | .bool t=>bZ tmps a fun av=>bZ tmps b fun bv =>
   match av,bv with
   | .bool x,.bool y=>k (.bool (bif t then x else y)) none
   | av,bv=>br t (k av none) (k bv none)
  | _=>False
/-- Plain cells taken off the front of a list. -/
def mL:List Value→List Value→Option (List Value)
 | [],l=>some l
 | .int q n::z,.int q' n'::l=>match decide (q=q') && decide (n=n') with | true=>mL z l | false=>none
 | .bool b::z,.bool b'::l=>match b == b' with | true=>mL z l | false=>none
 | .string s::z,.string s'::l=>match Nat.beq s.size 0 && Nat.beq s'.size 0 with | true=>mL z l | false=>none
 | _,_=>none
/-- A list that is n times the same plain cells. -/
def yt (z:List Value):Nat→List Value→Bool
 | 0,[]=>true
 | 0,_::_=>false
 | n+1,l=>match mL z l with | some l'=>yt z n l' | none=>false
def M4 (tt:TT) (t:TypeId) (aI:Nat) (k:QK):Prop :=
 cR tt t fun ti=>match ti.kind with
  | .array n e=>cR tt e fun te=>match Nat.beq te.size 1 && yt te.zero n ti.zero with
   | true=>k (.pointer (some ⟨aI,0,none⟩)) (some (.flat true n te.size fun _=>te.zero))
   | false=>k (.pointer (some ⟨aI,0,none⟩)) (some (.aQ true ti.size [ti.zero]))
  | _=>k (.pointer (some ⟨aI,0,none⟩)) (some (.aQ true ti.size [ti.zero]))
def N7 (tt:TT) (tmps:List Value) (t:TypeId) (x:Operand) (aI:Nat) (k:QK):Prop :=
 cR tt t fun ti=>bZ tmps x fun v=>wc v fun cs=>match o8 cs ti.size with
  | true=>k (.pointer (some ⟨aI,0,none⟩)) (some (.aQ true ti.size [cs]))
  | false=>False
def Gq (tt:TT) (tmps:List Value) (H:ax) (t:TypeId) (a:Operand) (k:QK):Prop :=
 bZ tmps a fun av=>match av with
  | .pointer (some ⟨id,row,sp⟩)=>cR tt t fun ti=>gF H id fun b=>G0 b row fun cs=>HI sp fun c=>tL cs c ti.size fun vs=>Cd ti.agg vs fun v=>k v none
  | _=>False
def J6 (tt:TT) (tmps:List Value) (t:TypeId) (x:Operand) (f:Nat) (k:QK):Prop :=
 bZ tmps x fun av=>match av with
  | .pointer (some ⟨id,row,sp⟩)=>cR tt t fun ti=>match ti.kind with
   | .struct fs=>x7 fs f fun off _ _=>HI sp fun c=>k (.pointer (some ⟨id,row,some (c+off)⟩)) none
   | _=>False
  | _=>False
def M5 (tt:TT) (tmps:List Value) (t:TypeId) (x:Operand) (f:Nat) (k:QK):Prop :=
 bZ tmps x fun av=>match av with
  | .agg cs=>cR tt t fun ti=>match ti.kind with
   | .struct fs=>x7 fs f fun off sz ag=>tL cs.toList off sz fun vs=>Cd ag vs fun v=>k v none
   | _=>False
  | _=>False
def DG (tt:TT) (tmps:List Value) (H:ax) (t:TypeId) (x ix:Operand) (k:QK):Prop :=
 bZ tmps x fun xv=>bZ tmps ix fun iv=>match iv with
  | .int _ i=>cR tt t fun ti=>match ti.kind with
   | .slice e=>match xv with
    | .slice (some ⟨id,row,none⟩) n _=>cR tt e fun te=>gF H id fun b =>
     (0≤i∧i < (n:Int))∧match Nat.beq b.ah te.size with
      | true=>k (.pointer (some ⟨id,fe row i.toNat,none⟩)) none
      | false=>False
    | _=>False
   | .array n e=>match xv with
    | .pointer (some ⟨id,row,none⟩)=>cR tt e fun te=>gF H id fun b=>(0≤i∧i < (n:Int))∧match Nat.beq b.ah te.size with
     | true=>k (.pointer (some ⟨id,fe row i.toNat,none⟩)) none
     | false=>k (.pointer (some ⟨id,row,some (0+i.toNat*te.size)⟩)) none
    | .pointer (some ⟨id,row,some c⟩)=>cR tt e fun te=>(0≤i∧i < (n:Int))∧k (.pointer (some ⟨id,row,some (c+i.toNat*te.size)⟩)) none
    | _=>False
   | _=>False
  | _=>False
def M6 (tt:TT) (tmps:List Value) (t:TypeId) (x ix:Operand) (k:QK):Prop :=
 bZ tmps x fun xv=>bZ tmps ix fun iv=>match iv with
  | .int _ i=>cR tt t fun ti=>match ti.kind with
   | .str=>match xv with
    | .string s=>(0≤i∧i < (s.size:Int))∧k (.int .u8 (cf s i.toNat)) none
    | _=>False
   | _=>False
  | _=>False
def EG (tmps:List Value) (x:Operand) (ix:Nat) (k:QK):Prop :=
 bZ tmps x fun xv=>match xv with
  | .tuple vs=>pQ vs.toList ix fun v=>k v none
  | _=>False
def KQ (tmps:List Value) (fn:Fn) (first cap:List Operand) (k:QK):Prop :=
 pA tmps first fun a=>pA tmps cap fun b=>k (.func fn ⟨a⟩ ⟨b⟩) none
def OW (tmps:List Value) (op:UnOp) (x:Operand) (k:QK):Prop :=
 bZ tmps x fun xv=>match op,xv with
  | .neg,.int q n=>k (.int q (q.wrap (0 - n))) none
  | .not,.bool b=>k (.bool !b) none
  | .xor,.int q n=>match Op.intBits .xor q (if q.signed then -1 else q.max) n with
   | .pure v=>pB v fun v=>match cO v with | true=>k v none | false=>False
   | _=>False
  | _,_=>False
def eT:List Value→List Value→Bool
 | [],[]=>true
 | .bool a::l,.bool b::m=>(a == b) && eT l m
 | .int _ a::l,.int _ b::m=>(a == b) && eT l m
 | .string a::l,.string b::m=>(a.toList == b.toList) && eT l m
 | _,_=>false
def fc:List Value→List Value→Bool
 | [],[]=>true
 | .bool _::l,.bool _::m=>fc l m
 | .int q _::l,.int q' _::m=>decide (q=q') && fc l m
 | .string _::l,.string _::m=>fc l m
 | _,_=>false
/-- A struct type's '==' is that of its cells, where these have the kinds of the type's own zero value. -/
def wS (P:Program) (t:TypeId) (zero:List Value):Prop :=
 ∀ xs ys w,fc xs zero=true→fc ys zero=true→(Op.equal t (.agg ⟨xs⟩) (.agg ⟨ys⟩)).run P w=.ok (eT xs ys) w∧∀ x y op,(eqGuard op t x y (.agg ⟨xs⟩) (.agg ⟨ys⟩)).run P w=.ok () w
def NC (op:BinOp) (q:IntKind) (a b:Int) (k:QK):Prop :=
 match op with
 | .and | .or | .xor | .andNot=>match Op.intBits op q a b with
  | .pure v=>pB v fun v=>match cO v with | true=>k v none | false=>False
  | _=>False
 | _=>False
def A9 (op:BinOp) (q q':IntKind) (a b:Int) (k:QK):Prop :=
 match op with
 | .shl=>wR (0≤b) <| k (.int q (q.wrap (a*2 ^ (min b.toNat q.bits)))) none
 | .shr=>wR (0≤b) <| k (.int q (a.fdiv (2 ^ (min b.toNat q.bits)))) none
 | op=>match decide (q=q') with
  | true=>match op with
   | .add=>k (.int q (q.wrap (a+b))) none
   | .sub=>k (.int q (q.wrap (a - b))) none
   | .mul=>k (.int q (q.wrap (a*b))) none
   | .quo=>wR (b≠0) <| k (.int q (q.wrap (a.tdiv b))) none
   | .rem=>wR (b≠0) <| k (.int q (a.tmod b)) none
   | .eql=>k (.bool (a == b)) none
   | .neq=>k (.bool (a != b)) none
   | .lss=>k (.bool (decide (a < b))) none
   | .leq=>k (.bool (decide (a≤b))) none
   | .gtr=>k (.bool (decide (a > b))) none
   | .geq=>k (.bool (decide (a ≥ b))) none
   | op=>NC op q a b k
  | false=>False
def Mo (op:BinOp) (a b:ByteArray) (k:QK):Prop :=
 match op with
 | .add=>(a.size+b.size < 9223372036854775808)∧k (.string (a++b)) none
 | .eql=>k (.bool (a.toList == b.toList)) none
 | .neq=>k (.bool !(a.toList == b.toList)) none
 | .lss=>k (.bool (Op.bytesLess a.toList b.toList)) none
 | .gtr=>k (.bool !(Op.bytesLess a.toList b.toList || a.toList == b.toList)) none
 | _=>False
def EH (tk:TK) (op:BinOp) (a b:Bool) (k:QK):Prop :=
 match tk,op with
 | .bool,.eql=>k (.bool (a == b)) none
 | .bool,.neq=>k (.bool !(a == b)) none
 | _,_=>False
/-- '==' of structs of plain cells: which types it may be used at is told by a list that the caller bears a proof for. -/
def Fl (eqs:List TypeId) (t:TypeId) (zero:List Value) (op:BinOp) (a b:List Value) (k:QK):Prop :=
 match eqs.contains t && fc a zero && fc b zero,op with
 | true,.eql=>k (.bool (eT a b)) none
 | true,.neq=>k (.bool !(eT a b)) none
 | _,_=>False
/-- A slice beside nil. -/
def Fm (tk:TK) (op:BinOp) (a:Option Addr) (k:QK):Prop :=
 match tk,op,a with
 | .slice _,.eql,none=>k (.bool true) none
 | .slice _,.eql,some _=>k (.bool false) none
 | .slice _,.neq,none=>k (.bool false) none
 | .slice _,.neq,some _=>k (.bool true) none
 | _,_,_=>False
def Ce (tt:TT) (eqs:List TypeId) (tmps:List Value) (op:BinOp) (t:TypeId) (x y:Operand) (k:QK):Prop :=
 bZ tmps x fun xv=>bZ tmps y fun yv=>match xv,yv with
  | .int q a,.int q' b=>A9 op q q' a b k
  | .string a,.string b=>Mo op a b k
  | .bool a,.bool b=>cR tt t fun ti=>EH ti.kind op a b k
  | .agg a,.agg b=>cR tt t fun ti=>Fl eqs t ti.zero op a.toList b.toList k
  | .slice a _ _,.slice none 0 0=>cR tt t fun ti=>Fm ti.kind op a k
  | _,_=>False
/-- The bytes of n rows. -/
def bytesOf (get:Nat→List Value) (row n:Nat):List UInt8:=(List.range n).map fun r=>match get (row+r) with | .int _ x::_=>UInt8.ofNat x.toNat | _=>0
def LA (tt:TT) (tmps:List Value) (H:ax) (src dst:TypeId) (x:Operand) (aI:Nat) (k:QK):Prop :=
 bZ tmps x fun xv=>cR tt src fun ts=>cR tt dst fun td=>match td.kind,xv with
  | .int q,.int _ n=>match ts.kind with
   | .int _=>k (.int q (q.wrap n)) none
   | _=>False
  | .str,.string s=>match ts.kind with
   | .str=>k (.string s) none
   | _=>False
  | .str,.slice (some ⟨id,row,none⟩) n _=>match ts.kind with
   | .slice e=>cR tt e fun te=>match te.kind with
    | .int .u8=>match n with
     | 0=>k (.string ⟨#[]⟩) none
     | n+1=>gF H id fun b=>match b.ah with
      | 1=>(row+(n+1)≤b.n∧∀ r,r < n+1→∃ x,b.row (row+r)=[.int .u8 x])∧k (.string ⟨⟨bytesOf b.row row (n+1)⟩⟩) none
      | _=>False
    | _=>False
   | _=>False
  | .str,.slice none 0 0=>match ts.kind with
   | .slice e=>cR tt e fun te=>match te.kind with
    | .int .u8=>k (.string ⟨#[]⟩) none
    | _=>False
   | _=>False
  | .slice e,.string s=>match ts.kind with
   | .str=>cR tt e fun te=>match te.kind with
    | .int .u8=>k (.slice (some ⟨aI,0,none⟩) s.size aN) (some (.flat false s.size 1 fun r=>[.int .u8 (cf s r)]))
    | _=>False
   | _=>False
  | _,_=>False
def G1 (tmps:List Value) (tt:TT) (t:TypeId) (x:Operand) (k:QK):Prop :=
 bZ tmps x fun xv=>cR tt t fun ti=>match ti.kind,xv with
  | .str,.string s=>k (.int .i64 s.size) none
  | .slice _,.slice _ n _=>k (.int .i64 n) none
  | _,_=>False
def N8 (tmps:List Value) (x y:Operand) (k:QK):Prop :=
 bZ tmps x fun xv=>bZ tmps y fun yv=>match xv,yv with
  | .int q a,.int _ b=>k (.int q (if b > a then b else a)) none
  | _,_=>False
def N9 (tmps:List Value) (x y:Operand) (k:QK):Prop :=
 bZ tmps x fun xv=>bZ tmps y fun yv=>match xv,yv with
  | .int q a,.int _ b=>k (.int q (if b < a then b else a)) none
  | _,_=>False
def BK (tmps:List Value) (fs:List (Nat × Nat × Bool)):List (Nat × Operand)→List Value→(List Value→Prop)→Prop
 | [],cs,k=>k cs
 | p::ps,cs,k=>bZ tmps p.2 fun v=>wc v fun vs=>x7 fs p.1 fun off sz _=>match o8 vs sz with
  | true=>ue cs off vs fun eL=>BK tmps fs ps eL k
  | false=>False
/-- The places of an array's elements. -/
def wA (sz:Nat):Nat→Nat→List (Nat × Nat × Bool)
 | _,0=>[]
 | off,n+1=>(off,sz,true)::wA sz (off+sz) n
def M7 (tt:TT) (tmps:List Value) (t:TypeId) (parts:List (Nat × Operand)) (k:QK):Prop :=
 cR tt t fun ti=>match ti.kind with
  | .struct fs=>BK tmps fs parts ti.zero fun cs=>k (.agg ⟨cs⟩) none
  | .array n e=>cR tt e fun te=>BK tmps (wA te.size 0 n) parts ti.zero fun cs=>k (.agg ⟨cs⟩) none
  | _=>False
/-- Blocks renumbered: block id becomes τ[id]. -/
def cP (τ:List Nat):Nat→Value→Option Value
 | 0,_=>none
 | k+1,v=>match v with
  | .bool b=>some (.bool b)
  | .int q n=>some (.int q n)
  | .string s=>some (.string s)
  | .pointer none=>some (.pointer none)
  | .pointer (some ⟨id,row,sp⟩)=>match τ[id]? with | some uB=>some (.pointer (some ⟨uB,row,sp⟩)) | none=>none
  | .slice none 0 0=>some (.slice none 0 0)
  | .slice (some ⟨id,row,none⟩) n c=>match τ[id]? with | some uB=>some (.slice (some ⟨uB,row,none⟩) n c) | none=>none
  | .nilFunc=>some .nilFunc
  | .agg ⟨l⟩=>match l.foldr (fun v acc=>match cP τ k v,acc with | some x,some xs=>some (x::xs) | _,_=>none) (some []) with | some l'=>some (.agg ⟨l'⟩) | none=>none
  | .tuple ⟨l⟩=>match l.foldr (fun v acc=>match cP τ k v,acc with | some x,some xs=>some (x::xs) | _,_=>none) (some []) with | some l'=>some (.tuple ⟨l'⟩) | none=>none
  | .func fn ⟨l⟩ ⟨m⟩=>match l.foldr (fun v acc=>match cP τ k v,acc with | some x,some xs=>some (x::xs) | _,_=>none) (some []),m.foldr (fun v acc=>match cP τ k v,acc with | some x,some xs=>some (x::xs) | _,_=>none) (some []) with
   | some l',some m'=>some (.func fn ⟨l'⟩ ⟨m'⟩) | _,_=>none
  | _=>none
def mi (τ:List Nat) (k:Nat) (l:List Value):Option (List Value):=l.foldr (fun v acc=>match cP τ k v,acc with | some x,some xs=>some (x::xs) | _,_=>none) (some [])
def mj:List Value→Bool
 | []=>true
 | v::l=>cO v && mj l
theorem dG:∀ {l:List Value},mj l=true→∀ v∈l,cO v=true
 | [],_,v,hv=>by simp at hv
 | v::l,h,u,hu=>by
  simp only [mj,Bool.and_eq_true] at h
  rcases List.mem_cons.1 hu with e | e
  ·rw [e]; exact h.1
  ·exact dG h.2 u e
/-- What a contract asks of a block (left), and a block that serves. -/
structure aA (b c:ai):Prop where
 own:b.own=true→c.nE=true∧c.n=b.n
 ah:c.ah=b.ah
 n:b.n≤c.n
 row:∀ r,r < b.n→b.row r=c.row r
 flat:∀ r,r < b.n→∀ v∈b.row r,cO v=true
theorem aA.aM {o o':Bool} {n e:Nat} {g:Nat→List Value} (h:o=true→o'=true) (hs:∀ r,r < n→mj (g r)=true):aA (.flat o n e g) (.flat o' n e g) :=
 ⟨fun ho=>⟨h ho,rfl⟩,rfl,Nat.le_refl _,fun _ _=>rfl,fun r hr v hv=>dG (hs r hr) v hv⟩
def yu (H:ax):List Nat→List ai→Prop→Prop
 | [],[],k=>k
 | s::σ,b::bs,k=>match b with
  | .cm _=>False
  | b=>gF H s fun c=>aA b c∧yu H σ bs k
 | _,_,_=>False
/-- A block that serves a contract: or a box that points to the contract's blocks. -/
def Cf (σ:List Nat) (b c:ai):Prop:=aA b c∨∃ o e r r',b=.aQ false e [r]∧c=.aQ o e [r']∧mi σ 3 r=some r'
def Bq (H:ax) (τ:List Nat):List Nat→List ai→Prop→Prop
 | [],[],k=>k
 | s::σ,b::bs,k=>match b with
  | .cm _=>False
  | b=>gF H s fun c=>Cf τ b c∧Bq H τ σ bs k
 | _,_,_=>False
/-- A call of a function that has a contract. -/
def Gr (Φ:yr) (g:FuncId) (args:List Value) (H:ax) (aI:Nat) (k:QK):Prop :=
 match Φ g with
 | some (.p S)=>∃ i:S.ι,S.args i=args∧S.pre i∧pB (S.val i) fun v=>k v none
 | some (.q S)=>∃ (i:S.ι) (σ:List Nat),mi σ 3 (S.args i)=some args∧S.pre i∧yu H σ (S.ae i) (∃ v,cP (σ++[aI]) 3 (S.val i)=some v∧pB v fun v=>k v (S.new i))
 | some (.r S)=>∃ (i:S.ι) (σ:List Nat),mi σ 3 (S.args i)=some args∧S.pre i∧Bq H σ σ (S.ae i) (∃ v,cP (σ++[aI]) 3 (S.val i)=some v∧pB v fun v=>k v (S.new i))
 | none=>False
/-- What is left of a capacity. -/
def tD (c l:Nat):Nat:=match decide (c=aN) with | true=>aN | false=>c - l
/-- A slice out of a literal. -/
def setRow:List (List Value)→Nat→List Value→(List (List Value)→Prop)→Prop
 | [],_,_,_=>False
 | _::rs,0,r,k=>k (r::rs)
 | q::rs,n+1,r,k=>setRow rs n r fun cj=>k (q::cj)
def rowsOf (tmps:List Value) (sz:Nat):List (Nat × Operand)→List (List Value)→(List (List Value)→Prop)→Prop
 | [],rows,k=>k rows
 | p::ps,rows,k=>bZ tmps p.2 fun v=>wc v fun cs=>match o8 cs sz with
  | true=>setRow rows p.1 cs fun iT=>rowsOf tmps sz ps iT k
  | false=>False
def G3 (n:Nat) (r:List Value) (k:List (List Value)→Prop):Prop:=match n with
 | 0=>k []
 | n+1=>G3 n r fun l=>k (r::l)
/-- The block of a literal's rows; without any it is flat. -/
def FY (ah:Nat) (rows:List (List Value)) (k:ai→Prop):Prop :=
 match rows with
 | []=>k (.flat true 0 ah fun _=>[])
 | r::rs=>k (.aQ true ah (r::rs))
def JM (tt:TT) (tmps:List Value) (t:TypeId) (n:Nat) (ps:List (Nat × Operand)) (aI:Nat) (k:QK):Prop :=
 cR tt t fun ti=>match ti.kind with
  | .slice e=>cR tt e fun te=>match Nat.ble (n*te.size) 16777216 with
   | true=>G3 n te.zero fun aas=>rowsOf tmps te.size ps aas fun rows=>FY te.size rows fun b=>k (.slice (some ⟨aI,0,none⟩) n n) (some b)
   | false=>False
  | _=>False
def J7 (tt:TT) (tmps:List Value) (t:TypeId) (x y:Operand) (aI:Nat) (k:QK):Prop :=
 bZ tmps x fun xv=>bZ tmps y fun yv=>cR tt t fun ti=>match ti.kind with
  | .slice e=>cR tt e fun te=>match mj te.zero,xv,yv with
   | true,.int _ n,.int _ m=>(0≤n∧n≤m∧m*te.bytes≤140737488355328)∧k (.slice (some ⟨aI,0,none⟩) n.toNat m.toNat) (some (.flat true n.toNat te.size fun _=>te.zero))
   | _,_,_=>False
  | _=>False
def lu (tmps:List Value) (x:Option Operand) (d:Int) (k:Int→Prop):Prop :=
 match x with
 | none=>k d
 | some x=>bZ tmps x fun v=>match v with | .int _ n=>k n | _=>False
def FZ (tt:TT) (tmps:List Value) (H:ax) (t:TypeId) (x:Operand) (lo hi mx:Option Operand) (k:QK):Prop :=
 bZ tmps x fun xv=>cR tt t fun ti=>match ti.kind,xv with
  | .str,.string s=>match mx with
   | none=>lu tmps lo 0 fun l=>lu tmps hi s.size fun h=>(0≤l∧l≤h∧h≤s.size)∧k (.string (s.extract l.toNat h.toNat)) none
   | some _=>False
  | .slice e,.slice (some ⟨id,row,none⟩) n c=>cR tt e fun te=>gF H id fun b=>match Nat.beq b.ah te.size with
   | true=>match hi,mx with
    | hi,none=>lu tmps lo 0 fun l=>lu tmps hi n fun h=>(0≤l∧l≤h∧h≤n)∧k (.slice (some ⟨id,fe row l.toNat,none⟩) (h.toNat - l.toNat) (tD c l.toNat)) none
    | some h0,some m=>lu tmps lo 0 fun l=>bZ tmps h0 fun hv=>bZ tmps m fun mv=>match hv,mv with
     | .int _ h,.int _ m=>(0≤l∧l≤h∧h≤m∧m≤n)∧k (.slice (some ⟨id,fe row l.toNat,none⟩) (h.toNat - l.toNat) (m.toNat - l.toNat)) none
     | _,_=>False
    | none,some _=>False
   | false=>False
  | .slice e,.slice (some ⟨id,row,some b0⟩) n _=>cR tt e fun te=>gF H id fun b=>match Nat.beq b.ah te.size with
   | true=>match hi,mx with
    | hi,none=>lu tmps lo 0 fun l=>lu tmps hi n fun h=>(0≤l∧l≤h∧h≤b0)∧k (.slice (some ⟨id,fe row l.toNat,some (b0 - l.toNat)⟩) (h.toNat - l.toNat) aN) none
    | some h0,some m=>lu tmps lo 0 fun l=>bZ tmps h0 fun hv=>bZ tmps m fun mv=>match hv,mv with
     | .int _ h,.int _ m=>(0≤l∧l≤h∧h≤m∧m≤b0)∧k (.slice (some ⟨id,fe row l.toNat,none⟩) (h.toNat - l.toNat) (m.toNat - l.toNat)) none
     | _,_=>False
    | none,some _=>False
   | false=>False
  | .array n e,.pointer (some ⟨id,row,none⟩)=>cR tt e fun te=>gF H id fun b=>match Nat.beq b.ah te.size with
   | true=>match mx with
    | none=>lu tmps lo 0 fun l=>lu tmps hi n fun h=>(0≤l∧l≤h∧h≤n∧row+n≤b.n∧b.nE=true)∧k (.slice (some ⟨id,fe row l.toNat,none⟩) (h.toNat - l.toNat) (n - l.toNat)) none
    | some _=>False
   | false=>False
  | .slice e,.slice none 0 0=>cR tt e fun _=>match hi,mx with
   | hi,none=>lu tmps lo 0 fun l=>lu tmps hi 0 fun h=>(0≤l∧l≤h∧h≤0)∧k (.slice none 0 0) none
   | some h0,some m=>lu tmps lo 0 fun l=>bZ tmps h0 fun hv=>bZ tmps m fun mv=>match hv,mv with
    | .int _ h,.int _ m=>(0≤l∧l≤h∧h≤m∧m≤0)∧k (.slice none 0 0) none
    | _,_=>False
   | none,some _=>False
  | _,_=>False
def Oa (tmps:List Value) (tt:TT) (t:TypeId) (x:Operand) (k:QK):Prop :=
 bZ tmps x fun xv=>cR tt t fun ti=>match ti.kind,xv with
  | .slice _,.slice none 0 0=>k (.int .i64 0) none
  | _,_=>False
/-- Empty rows, appended to nothing. -/
def KR (tt:TT) (tmps:List Value) (t u:TypeId) (x y:Operand) (aI:Nat) (k:QK):Prop :=
 bZ tmps x fun xv=>bZ tmps y fun yv=>cR tt t fun ti=>match ti.kind with
  | .slice e=>cR tt e fun te=>cR tt u fun tu=>match tu.kind,mj te.zero,xv,yv with
   | .int _,true,.slice none 0 0,.int .i64 n=>(0 < n∧n*te.bytes≤140737488355328)∧k (.slice (some ⟨aI,0,none⟩) n.toNat aN) (some (.flat true n.toNat te.size fun _=>te.zero))
   | _,_,_,_=>False
  | _=>False
/-- A function as it works upon the abstract heap. -/
abbrev FT:=List Value→ax→(Value→ax→Prop)→Prop
structure Env where
 tt:TT
 eqs:List TypeId
 Φ:yr
 Ψ:FuncId→Option FT:=fun _=>none
 base:Nat:=0
 /-- Appending to a slice of unknown capacity may write over rows of its block. -/
 ij:Bool:=false
 /-- Yield values in sight: which, and what a round does. -/
 ys:List (Nat × FT):=[]
 /-- Within a round. -/
 rd:Bool:=false
 /-- The numbering that the rounds lean on. -/
 nu:Nu:=fun _=>none
 /-- Iterators, under a yield value. -/
 It:FuncId→Option (Nat→FT→Nu→FT):=fun _=>none
def kM (E:Env) (op:Op) (tmps:List Value) (H:ax) (aI:Nat) (k:QK):Prop :=
 match op with
 | .move x | .assign x=>BJ tmps x k
 | .pick c a b=>NB tmps c a b k
 | .alloc t=>M4 E.tt t aI k
 | .box t x=>N7 E.tt tmps t x aI k
 | .build t ps=>M7 E.tt tmps t ps.toList k
 | .load t a=>Gq E.tt tmps H t a k
 | .buildSlice t n ps=>JM E.tt tmps t n ps.toList aI k
 | .makeSlice t x y=>J7 E.tt tmps t x y aI k
 | .slice t x lo hi mx=>FZ E.tt tmps H t x lo hi mx k
 | .fieldAddr t x f=>J6 E.tt tmps t x f k
 | .field t x f=>M5 E.tt tmps t x f k
 | .indexAddr t x i=>DG E.tt tmps H t x i k
 | .index t x i=>M6 E.tt tmps t x i k
 | .extract x i=>EG tmps x i k
 | .makeFunc fn a b=>KQ tmps fn a.toList b.toList k
 | .unOp op _ x=>OW tmps op x k
 | .binOp op t x y _=>Ce E.tt E.eqs tmps op t x y k
 | .convert s d x=>LA E.tt tmps H s d x aI k
 | .call c=>match c.callee with
  | .value f=>bZ tmps f fun fv=>match fv with
   | .func (.func g) a b=>pA tmps c.args.toList fun vs=>pR a.toList vs fun l=>pR l b.toList fun args=>Gr E.Φ g args H aI k
   | _=>False
  | .builtin .len=>match c.args.toList,c.argTypes.toList with
   | [x],[t]=>G1 tmps E.tt t x k
   | _,_=>False
  | .builtin .max=>match c.args.toList with
   | [x,y]=>N8 tmps x y k
   | _=>False
  | .builtin .cap=>match c.args.toList,c.argTypes.toList with
   | [x],[t]=>Oa tmps E.tt t x k
   | _,_=>False
  | .builtin .append=>match c.args.toList,c.argTypes.toList with
   | [x,y],[t,u]=>KR E.tt tmps t u x y aI k
   | _,_=>False
  | .builtin .min=>match c.args.toList with
   | [x,y]=>N9 tmps x y k
   | _=>False
  | _=>False
 | _=>False
/-- What is to be shown of an operation: a result that hangs on the abstract state alone, and that the machine comes to from whatever state this one stands for. -/
def eX (P:Program) (op:Op) (tmps:List Value) (H:ax) (aI:Nat) (k:QK):Prop :=
 ∃ v nb,k v nb∧∀ (o:Oper) (ν:Nu) (a:Act) (w:World) (r:Option Nat) (n:Nat),o.op=op→(∀ x∈op.operands,fk ν tmps a x)→bT ν H w→ν aI=none →
  ∀ next Q,(∀ v' w' aj,mM ν aj aI w w' v v' nb→next (a.put o.dst v') w')→o.wpIn (WF r) n P a w next Q
/-- An operation that gives a value out of its operands alone. -/
def pH (P:Program) (bw:Nu) (op:Op) (tmps:List Value) (v:Value):Prop :=
 (∀ c,op≠.defer c)∧∀ (o:Oper) (ν:Nu) (a:Act) (w:World),bw.le ν→o.op=op→(∀ x∈op.operands,fk ν tmps a x)→∃ v',an ν v v'∧(execOp a.eval o).run P w=.ok (.value v') w
theorem jD {P:Program} {r:Option Nat} {n:Nat} {o:Oper} {a:Act} {w w':World} {v':Value} (hd:∀ c,o.op≠.defer c)
  (h:(execOp a.eval o).run P w=.ok (.value v') w') (next:Act→World→Prop) (Q:Exit→Act→World→Prop) (hn:next (a.put o.dst v') w') :
  o.wpIn (WF r) n P a w next Q:=by
 refine ⟨fun _ _=>trivial,?_⟩
 rw [Oper.semAt_eq _ _ _ hd,h]
 exact hn
/-- An operation that gives a value out of its operands and a heap. -/
def nw (P:Program) (bw:Nu) (G:ax) (op:Op) (tmps:List Value) (v:Value):Prop :=
 (∀ c,op≠.defer c)∧∀ (o:Oper) (ν:Nu) (a:Act) (w:World),bw.le ν→o.op=op→(∀ x∈op.operands,fk ν tmps a x)→bT ν G w→∃ v',an ν v v'∧(execOp a.eval o).run P w=.ok (.value v') w
def rQ (P:Program) (op:Op) (tmps:List Value) (H:ax) (k:QK):Prop:=∃ v,k v none∧∀ bw,nw P bw H op tmps v
theorem rQ.value {P:Program} {op:Op} {tmps:List Value} {H:ax} {k:QK} (hd:∀ c,op≠.defer c) {v:Value} (hk:k v none)
  (h:∀ (o:Oper) (ν:Nu) (a:Act) (w:World),o.op=op→(∀ x∈op.operands,fk ν tmps a x)→bT ν H w→∃ v',an ν v v'∧(execOp a.eval o).run P w=.ok (.value v') w):rQ P op tmps H k :=
 ⟨v,hk,fun _=>⟨hd,fun o ν a w _ ho ha hH=>h o ν a w ho ha hH⟩⟩
/-- An operation that gives a value and does nothing else. -/
theorem eX.value {P:Program} {op:Op} {tmps:List Value} {H:ax} {aI:Nat} {k:QK} (hd:∀ c,op≠.defer c) {v:Value} (hk:k v none)
  (h:∀ (o:Oper) (ν:Nu) (a:Act) (w:World),o.op=op→(∀ x∈op.operands,fk ν tmps a x)→bT ν H w→∃ v',an ν v v'∧(execOp a.eval o).run P w=.ok (.value v') w):eX P op tmps H aI k :=
 ⟨v,none,hk,fun o ν a w r n ho ha hH _ next Q hn=>by
  obtain ⟨v',hv,hr⟩:=h o ν a w ho ha hH
  exact jD (by rw [ho]; exact hd) hr next Q (hn _ _ ν ⟨ν.le_refl,fun _ _=>rfl,hv,Below.refl _ _,fun _=>rfl,(fun b hb=>by cases hb)⟩)⟩
theorem rQ.ok {P:Program} {op:Op} {tmps:List Value} {H:ax} {aI:Nat} {k:QK} (h:rQ P op tmps H k):eX P op tmps H aI k :=
 let ⟨_,hk,hv⟩:=h
 .value (hv fun _=>none).1 hk fun o ν a w ho ha hH=>(hv ν).2 o ν a w ν.le_refl ho ha hH
end Go.Ae
/- The abstract operations stand for the model's: one lemma an operation. -/
namespace Go.Ae
open Go Go.RowKit
section
variable {P:Program} {tt:TT} {Φ:yr} {w:World} {ν:Nu} {aI:Nat} {k:QK} {tmps:List Value} {H:ax}
theorem Yg {x:Operand} (h:BJ tmps x k):eX P (.move x) tmps H aI k:=by
 obtain ⟨v,hk,hv⟩:=cX h
 exact .value (by simp) hk fun o ν a w ho ha _=>⟨_,hv ν a (ha x (by simp [Op.operands])),by simp [execOp,ho]⟩
theorem TS {x:Operand} (h:BJ tmps x k):eX P (.assign x) tmps H aI k:=by
 obtain ⟨v,hk,hv⟩:=cX h
 exact .value (by simp) hk fun o ν a w ho ha _=>⟨_,hv ν a (ha x (by simp [Op.operands])),by simp [execOp,ho]⟩
theorem an.j5 {ν:Nu} {b:Bool} {r:Value} (h:an ν (.bool b) r):r=.bool b:=by cases h; rfl
theorem an.fO {ν:Nu} {k:IntKind} {x:Int} {r:Value} (h:an ν (.int k x) r):r=.int k x:=by cases h; rfl
theorem an.rr {ν:Nu} {x:ByteArray} {r:Value} (h:an ν (.string x) r):r=.string x:=by cases h; rfl
theorem an.om {ν:Nu} {id row:Nat} {sp:Option Nat} {r:Value} (h:an ν (.pointer (some ⟨id,row,sp⟩)) r):∃ l,ν id=some l∧r=.pointer (some (l.at row (sp.getD 0))):=by
 cases h with | ptr _ _ _ l h=>exact ⟨l,h,rfl⟩
theorem Yh {c x y:Operand} (h:NB tmps c x y k):eX P (.pick c x y) tmps H aI k:=by
 obtain ⟨cv,h,hc⟩:=cX h
 split at h
 ·rename_i t
  obtain ⟨av,h,hx⟩:=cX h
  obtain ⟨bv,h,hy⟩:=cX h
  split at h
  ·refine .value (by simp) h fun o ν a w ho ha _=>⟨_,.bool _,?_⟩
   have hc:=(hc ν a (ha c (by simp [Op.operands]))).j5
   have hx:=(hx ν a (ha x (by simp [Op.operands]))).j5
   have hy:=(hy ν a (ha y (by simp [Op.operands]))).j5
   cases t <;> simp [execOp,ho,hc,hx,hy,asBool]
  ·cases t with
   | true =>
    refine .value (by simp) h fun o ν a w ho ha _=>⟨_,hx ν a (ha x (by simp [Op.operands])),?_⟩
    have hc:=(hc ν a (ha c (by simp [Op.operands]))).j5
    simp [execOp,ho,hc,asBool]
   | false =>
    refine .value (by simp) h fun o ν a w ho ha _=>⟨_,hy ν a (ha y (by simp [Op.operands])),?_⟩
    have hc:=(hc ν a (ha c (by simp [Op.operands]))).j5
    simp [execOp,ho,hc,asBool]
 ·exact h.elim
/-- A new row of cells: what it is worth. -/
theorem LB {ν:Nu} {aI:Nat} (hn:ν aI=none) {ah:Nat} {cs:List Value} {eL:List Value} (hl:cs.length=ah) (hr:bh ν cs eL)
  (h1:∀ v∈cs,v.oneCell'=true) (w:World) (t:TypeId) :
  bQ (ν.add aI ⟨w.heap.size,0,ah,1⟩) ⟨w.heap.size,0,ah,1⟩ (.aQ true ah [cs]) { w with heap:=w.heap.push (.cells ⟨eL⟩ t) }:=by
 have dD:({ w with heap:=w.heap.push (.cells ⟨eL⟩ t) }:World).heap[w.heap.size]?=some (.cells ⟨eL⟩ t (0,0)):=by simp
 refine ⟨rfl,fun r iI=>?_,fun r iI j v hv=>?_,fun h=>by simp [ai.iR] at h,fun r iI v hv=>?_,fun _ _=>⟨_,_,dD,?_,?_⟩,(fun r h=>nomatch h),?_⟩
 ·have:r=0:=by simp [ai.n] at iI; exact iI
  subst this; simpa [ai.row,ai.ah] using hl
 ·have:r=0:=by simp [ai.n] at iI; exact iI
  subst this
  have hv:cs[j]?=some v:=by simpa [ai.row] using hv
  obtain ⟨v',J,h3⟩:=hr.get hv
  refine ⟨v',?_,h3.mono (Nu.j6 hn)⟩
  simp only [Loc.at,World.cell?,Nat.zero_mul,Nat.zero_add]
  rw [dD]
  simpa using J
 ·have:r=0:=by simp [ai.n] at iI; exact iI
  subst this; exact h1 v (by simpa [ai.row] using hv)
 ·simp [← hl,hr.1]
 ·simp [ai.n]
 ·simp
theorem mG {ν:Nu} {aI:Nat} (hn:ν aI=none) {b:ai} {w w':World} {l:Loc} {v v':Value} (hb:bQ (ν.add aI l) l b w') (hB:Below w.heap.size w w') (hl:w.heap.size≤l.aH)
  (hv:an (ν.add aI l) v v'):mM ν (ν.add aI l) aI w w' v v' (some b) :=
 ⟨Nu.j6 hn,fun id bu=>Nu.iQ bu,hv,hB,(fun h=>by cases h),(fun b' bD=>by cases bD; exact ⟨l,Nu.add_same,hb,hl⟩)⟩
theorem xE (w:World) (o:Obj):Below w.heap.size w { w with heap:=w.heap.push o }:=(Below.refl _ w).alloc (Nat.le_refl _) o
theorem Ak:∀ {z l l':List Value},mL z l=some l'→l=z++l'∧∀ v∈z,cO v=true
 | [],l,l',h=>by simp [mL] at h; exact ⟨by simp [h],fun v hv=>by cases hv⟩
 | .int q n::z,[],l',h=>by simp [mL] at h
 | .int q n::z,x::l,l',h=>by
  cases x <;> simp only [mL] at h <;> try (cases h)
  split at h
  ·rename_i hd
   simp only [Bool.and_eq_true,decide_eq_true_eq] at hd
   obtain ⟨rfl,rfl⟩:=hd
   obtain ⟨h1,J⟩:=Ak h
   exact ⟨by rw [h1]; rfl,fun v hv=>(List.mem_cons.1 hv).elim (fun e=>by rw [e]; rfl) (fun e=>J v e)⟩
  ·cases h
 | .bool b::z,[],l',h=>by simp [mL] at h
 | .bool b::z,x::l,l',h=>by
  cases x <;> simp only [mL] at h <;> try (cases h)
  split at h
  ·rename_i hd
   have hd:=eq_of_beq hd
   subst hd
   obtain ⟨h1,J⟩:=Ak h
   exact ⟨by rw [h1]; rfl,fun v hv=>(List.mem_cons.1 hv).elim (fun e=>by rw [e]; rfl) (fun e=>J v e)⟩
  ·cases h
 | .string s::z,[],l',h=>by simp [mL] at h
 | .string s::z,x::l,l',h=>by
  cases x <;> simp only [mL] at h <;> try (cases h)
  split at h
  ·rename_i s' _ hd
   simp only [Bool.and_eq_true] at hd
   have e1:=Nat.eq_of_beq_eq_true hd.1
   have e2:=Nat.eq_of_beq_eq_true hd.2
   have e:s=s':=by
    apply ByteArray.ext
    apply Array.ext
    ·show s.size=s'.size; omega
    ·intro i h1 J
     have:i < s.size:=h1
     omega
   subst e
   obtain ⟨h1,J⟩:=Ak h
   exact ⟨by rw [h1]; rfl,fun v hv=>(List.mem_cons.1 hv).elim (fun e=>by rw [e]; rfl) (fun e=>J v e)⟩
  ·cases h
theorem J8 {z:List Value}:∀ {n:Nat} {l:List Value},yt z n l=true→l.length=n*z.length∧(∀ r,r < n→∀ (j:Nat) v,z[j]?=some v→l[r*z.length+j]?=some v)∧(0 < n→∀ v∈z,cO v=true)
 | 0,[],_=>⟨by simp,fun r hr=>absurd hr (by omega),fun h=>absurd h (by omega)⟩
 | 0,_::_,h=>by simp [yt] at h
 | n+1,l,h=>by
  simp only [yt] at h
  split at h
  ·rename_i l' he
   obtain ⟨h1,J⟩:=Ak he
   obtain ⟨h3,h4,_⟩:=J8 h
   refine ⟨by rw [h1,List.length_append,h3,Nat.add_mul]; omega,fun r hr j v hv=>?_,fun _=>J⟩
   have hj:j < z.length:=(List.getElem?_eq_some_iff.1 hv).1
   rw [h1]
   cases r with
   | zero=>rw [Nat.zero_mul,Nat.zero_add,List.getElem?_append_left hj]; exact hv
   | succ r =>
    rw [List.getElem?_append_right (by rw [Nat.add_mul]; omega),show (r+1)*z.length+j - z.length=r*z.length+j by rw [Nat.add_mul]; omega]
    exact h4 r (by omega) j v hv
  ·cases h
theorem Vt (hT:∀ t ti,tt t=some ti→aB P t ti) {t:TypeId} (h:M4 tt t aI k):eX P (.alloc t) tmps H aI k:=by
 obtain ⟨ti,ht,h⟩:=cT h
 have bg:=hT _ _ ht
 obtain ⟨i,hi,_,_,z,hz,il⟩:=bg.info
 have iJ:k (.pointer (some ⟨aI,0,none⟩)) (some (.aQ true ti.size [ti.zero]))→eX P (.alloc t) tmps H aI k:=fun h=>by
  refine ⟨_,_,h,fun o ν a w r n ho ha hH hn next Q hN=>jD (w':={ w with heap:=w.heap.push (.cells ⟨ti.zero⟩ t) }) (v':=.pointer (some ⟨w.heap.size,0,none⟩)) (by simp [ho]) ?_ next Q (hN _ _ (ν.add aI ⟨w.heap.size,0,ti.size,1⟩) (mG hn (LB hn bg.len (bg.self ν) bg.one w t) (xE _ _) (Nat.le_refl _) ?_))⟩
  ·simp [execOp,ho,Instr.alloc,ve hi hz,newVar,newRow,il]
  ·have:=an.ptr (ν:=ν.add aI ⟨w.heap.size,0,ti.size,1⟩) aI 0 none _ Nu.add_same
   simpa [Loc.at] using this
 split at h
 ·rename_i n e hk
  obtain ⟨te,he,h⟩:=cT h
  have Cg:=hT _ _ he
  split at h
  ·rename_i oK
   rw [Bool.and_eq_true] at oK
   obtain ⟨z1,z2,z3⟩:=J8 oK.2
   refine ⟨_,_,h,fun o ν a w r nn ho ha hH hn next Q hN=>jD (w':={ w with heap:=w.heap.push (.cells ⟨ti.zero⟩ t) }) (v':=.pointer (some ⟨w.heap.size,0,none⟩)) (by simp [ho]) ?_ next Q (hN _ _ (ν.add aI ⟨w.heap.size,0,te.size,n⟩) (mG hn ?_ (xE _ _) (Nat.le_refl _) ?_))⟩
   ·simp [execOp,ho,Instr.alloc,ve hi hz,newVar,newRow,il]
   ·have dD:({ w with heap:=w.heap.push (.cells ⟨ti.zero⟩ t) }:World).heap[w.heap.size]?=some (.cells ⟨ti.zero⟩ t (0,0)):=by show (w.heap.push _)[w.heap.size]?=_; simp
    refine ⟨rfl,fun r hr=>Cg.len,fun r hr j v hv=>⟨v,?_,an.j3 (z3 (by have:r < n:=hr; omega) v (List.mem_of_getElem? hv))⟩,fun _ r hr v hv=>z3 (by have:r < n:=hr; omega) v hv,fun r hr v hv=>Cg.one v hv,fun _ _=>⟨_,_,dD,?_,Nat.le_refl _⟩,(fun r h=>nomatch h),?_⟩
    ·have hr:r < n:=hr
     have hv:te.zero[j]?=some v:=hv
     have J:=z2 r hr j v hv
     simp only [Loc.at,World.cell?,Nat.zero_add]
     rw [dD]
     simp only [Option.isSome_none,Bool.false_eq_true,if_false]
     rw [← Cg.len]
     simpa using J
    ·simp [z1,Cg.len]
    ·show w.heap.size < (w.heap.push _).size
     simp
   ·have:=an.ptr (ν:=ν.add aI ⟨w.heap.size,0,te.size,n⟩) aI 0 none _ Nu.add_same
    simpa [Loc.at] using this
  ·exact iJ h
 ·exact iJ h
theorem aat (hT:∀ t ti,tt t=some ti→aB P t ti) {t:TypeId} {x:Operand} (h:N7 tt tmps t x aI k):eX P (.box t x) tmps H aI k:=by
 obtain ⟨ti,ht,h⟩:=cT h
 obtain ⟨v,h,hv⟩:=cX h
 have h:=Ai h
 have bg:=hT _ _ ht
 split at h
 ·rename_i he
  obtain ⟨h1,J⟩:=xw he
  refine ⟨_,_,h,fun o ν a w r n ho ha hH hn next Q hN=>?_⟩
  have hc:=(hv ν a (ha x (by simp [Op.operands]))).cells
  refine jD (w':={ w with heap:=w.heap.push (.cells (a.eval x).cells t) }) (v':=.pointer (some ⟨w.heap.size,0,none⟩)) (by simp [ho]) ?_ next Q (hN _ _ (ν.add aI ⟨w.heap.size,0,ti.size,1⟩) (mG hn (LB hn h1 hc J w t) (xE _ _) (Nat.le_refl _) ?_))
  ·simp [execOp,ho,Instr.box,newVar,newRow]
  ·have:=an.ptr (ν:=ν.add aI ⟨w.heap.size,0,ti.size,1⟩) aI 0 none _ Nu.add_same
   simpa [Loc.at] using this
 ·exact h.elim
theorem KS {ag:Bool} {cs:List Value} {k:Value→Prop} (h:Cd ag cs k):k (valOf ag cs):=by
 unfold Cd at h
 split at h
 ·exact h
 ·exact vf h
 ·exact h
theorem DY {ν:Nu} {ag:Bool} {cs eL:List Value} (h:bh ν cs eL):an ν (valOf ag cs) (if ag then .agg ⟨eL⟩ else eL.getD 0 undef):=by
 cases ag with
 | true=>exact .agg _ _ h.1 h.2
 | false =>
  cases cs with
  | nil=>rw [h.iP]; exact .undef ν
  | cons v l=>obtain ⟨y,ys,rfl,h1,_⟩:=h.jg; exact h1
/-- A stretch of a row, read in the real memory. -/
theorem J9 {l:Loc} {b:ai} (hb:bQ ν l b w) {row off sz:Nat} {vs:List Value} (hr:row < b.n) (hl:vs.length=sz) (hv:∀ j v,vs[j]?=some v→(b.row row)[off+j]?=some v) :
  ∃ gd,bh ν vs gd∧gd.length=sz∧∀ j v,gd[j]?=some v→w.cell? ((l.at row off).add j)=some v:=by
 have key:∀ (vs:List Value) (off:Nat),(∀ j v,vs[j]?=some v→(b.row row)[off+j]?=some v)→∃ gd,bh ν vs gd∧∀ j v,gd[j]?=some v→w.cell? ((l.at row off).add j)=some v:=by
  intro vs
  induction vs with
  | nil=>exact fun _ _=>⟨[],.nil ν,fun j v hj=>by simp at hj⟩
  | cons v vs ih =>
   intro off hv
   obtain ⟨v',h1,J⟩:=hb.cell row hr off v (by have:=hv 0 v rfl; simpa using this)
   obtain ⟨gd,h3,h4⟩:=ih (off+1) (fun j u hu=>by have:=hv (j+1) u (by simpa using hu); rwa [show off+(j+1)=off+1+j by omega] at this)
   refine ⟨v'::gd,.cons J h3,fun j u hu=>?_⟩
   cases j with
   | zero=>rw [Loc.jH]; simp at hu; subst hu; simpa using h1
   | succ j=>have:=h4 j u (by simpa using hu); rw [Loc.jH] at this ⊢; rwa [show off+(j+1)=off+1+j by omega]
 obtain ⟨gd,h1,J⟩:=key vs off hv
 exact ⟨gd,h1,by rw [← h1.1,hl],J⟩
theorem Mp (hT:∀ t ti,tt t=some ti→aB P t ti) {t:TypeId} {x:Operand} (h:Gq tt tmps H t x k):rQ P (.load t x) tmps H k:=by
 obtain ⟨av,h,hv⟩:=cX h
 split at h
 ·rename_i id row sp
  obtain ⟨ti,ht,h⟩:=cT h
  obtain ⟨b,hb,h⟩:=gA h
  obtain ⟨hr,h⟩:=KP h
  have h:=Lz h
  obtain ⟨vs,h,hl,fA⟩:=xC h
  have h:=KS h
  refine .value (by simp) h fun o ν a w ho ha hH=>?_
  obtain ⟨l,oL,hB⟩:=hH.aH id b hb
  obtain ⟨l',iX,he⟩:=(hv ν a (ha x (by simp [Op.operands]))).om
  rw [oL] at iX; cases iX
  obtain ⟨gd,h1,J,h3⟩:=J9 hB hr hl fA
  exact ⟨_,DY h1,by simp [execOp,ho,Instr.loadAt,he,Instr.sureAddr,Jo (hT _ _ ht) J h3]⟩
 ·exact h.elim
theorem Yi (hT:∀ t ti,tt t=some ti→aB P t ti) {t:TypeId} {x:Operand} (h:Gq tt tmps H t x k):eX P (.load t x) tmps H aI k:=(Mp hT h).ok
theorem QM (hT:∀ t ti,tt t=some ti→aB P t ti) {t:TypeId} {x:Operand} {f:Nat} (h:J6 tt tmps t x f k):eX P (.fieldAddr t x f) tmps H aI k:=by
 obtain ⟨av,h,hv⟩:=cX h
 split at h
 ·rename_i id row sp
  obtain ⟨ti,ht,h⟩:=cT h
  split at h
  ·rename_i fs hk
   obtain ⟨x',p6,h⟩:=Aj h
   have h:=Lz h
   obtain ⟨d,hu,hd⟩:=(hT _ _ ht).under
   rw [hk] at hd
   obtain ⟨fields,rfl,bn,hf⟩:=hd
   have ak:f < fields.size:=by rw [bn]; exact (List.getElem?_eq_some_iff.1 p6).1
   have jT:fields[f]?=some fields[f]:=Array.getElem?_eq_getElem ak
   obtain ⟨h1,J,⟨i,h3,h4⟩,_⟩:=hf f _ _ jT p6
   refine .value (by simp) h fun o ν a w ho ha hH=>?_
   obtain ⟨l,hl,he⟩:=(hv ν a (ha x (by simp [Op.operands]))).om
   refine ⟨.pointer (some (l.at row (sp.getD 0+x'.1))),.ptr _ _ (some _) _ hl,?_⟩
   have aK:¬ (i.size=0):=by omega
   simp [execOp,ho,Instr.fieldAt,dE hu,jT,he,Instr.sureAddr,fieldPlace,gr h3,aK,h1,Loc.jH]
  ·exact h.elim
 ·exact h.elim
theorem EJ {P:Program} {f:Field} {x:Nat × Nat × Bool} (hf:x0 P f x) {cs vs:List Value} (hl:vs.length=x.2.1) (hv:∀ j v,vs[j]?=some v→cs[x.1+j]?=some v) (w:World) :
  (part f.type ⟨cs⟩ f.offset).run P w=.ok (if x.2.2 then .agg ⟨vs⟩ else vs.getD 0 undef) w:=by
 obtain ⟨h1,J,⟨i,h3,h4⟩,d,h5,h6⟩:=hf
 unfold part
 simp only [Sem.run_bind,KO h5,Result.andThen_ok,Sem.run_ite,h6]
 split
 ·simp only [Sem.run_bind,gr h3,Result.andThen_ok,h1,h4,← hl,Sem.run_pure]
  congr 2
  apply Array.ext'
  simp only [Array.toList_extract]
  apply List.ext_getElem?
  intro j
  by_cases hj:j < vs.length
  ·have:=hv j vs[j] (List.getElem?_eq_getElem hj)
   simp [List.extract,List.getElem?_take,List.getElem?_drop,hj,this]
  ·rw [List.getElem?_eq_none (by omega:vs.length≤j)]
   simp [List.extract,List.getElem?_take,hj]
 ·cases vs with
  | nil=>simp at hl; omega
  | cons v l =>
   have:=hv 0 v rfl
   simp only [Nat.add_zero] at this
   simp [h1,this]
theorem Vu (hT:∀ t ti,tt t=some ti→aB P t ti) {t:TypeId} {x:Operand} {f:Nat} (h:M5 tt tmps t x f k):eX P (.field t x f) tmps H aI k:=by
 obtain ⟨av,h,hv⟩:=cX h
 split at h
 ·rename_i cs
  obtain ⟨ti,ht,h⟩:=cT h
  split at h
  ·rename_i fs hk
   obtain ⟨x',p6,h⟩:=Aj h
   obtain ⟨vs,h,hl,fA⟩:=xC h
   have h:=KS h
   obtain ⟨d,hu,hd⟩:=(hT _ _ ht).under
   rw [hk] at hd
   obtain ⟨fields,rfl,bn,hf⟩:=hd
   have ak:f < fields.size:=by rw [bn]; exact (List.getElem?_eq_some_iff.1 p6).1
   have jT:fields[f]?=some fields[f]:=Array.getElem?_eq_getElem ak
   have bg:=hf f _ _ jT p6
   refine .value (by simp) h fun o ν a w ho ha hH=>?_
   obtain ⟨ys,he,hy⟩:=an.tB (xs:=cs.toList) (hv ν a (ha x (by simp [Op.operands])))
   -- the same stretch of the real cells
   have ab2:∃ gd,bh ν vs gd∧gd.length=x'.2.1∧∀ j v,gd[j]?=some v→ys[x'.1+j]?=some v:=by
    refine ⟨(ys.drop x'.1).take vs.length,⟨?_,fun j a b ha hb=>?_⟩,?_,fun j v hj=>?_⟩
    ·rw [List.length_take,List.length_drop]
     have:∀ m,m < vs.length→x'.1+m < cs.toList.length:=fun m hm=>(List.getElem?_eq_some_iff.1 (fA m _ (List.getElem?_eq_getElem hm))).1
     have h0:=hy.1
     by_cases y8:vs.length=0
     ·omega
     ·have:=this (vs.length - 1) (by omega); omega
    ·rw [List.getElem?_take,List.getElem?_drop] at hb
     split at hb
     ·exact hy.2 _ a b (fA j a ha) hb
     ·cases hb
    ·rw [List.length_take,List.length_drop,hl]
     have:∀ m,m < vs.length→x'.1+m < cs.toList.length:=fun m hm=>(List.getElem?_eq_some_iff.1 (fA m _ (List.getElem?_eq_getElem hm))).1
     have h0:=hy.1
     have hp:=bg.2.1
     have:=this (vs.length - 1) (by omega); omega
    ·rw [List.getElem?_take,List.getElem?_drop] at hj
     split at hj
     ·exact hj
     ·cases hj
   obtain ⟨gd,h1,J,h3⟩:=ab2
   exact ⟨_,DY h1,by simp [execOp,ho,Instr.field,dE hu,jT,he,asAgg,EJ bg J h3]⟩
  ·exact h.elim
 ·exact h.elim
theorem SD {x:Operand} {ix:Nat} (h:EG tmps x ix k):eX P (.extract x ix) tmps H aI k:=by
 obtain ⟨v,h,hv⟩:=cX h
 split at h
 ·rename_i vs
  obtain ⟨u,h1,J⟩:=od h
  refine .value (by simp) J fun o ν a w ho ha hH=>?_
  obtain ⟨ys,he,hy⟩:=an.np (xs:=vs.toList) (hv ν a (ha x (by simp [Op.operands])))
  obtain ⟨u',h3,h4⟩:=hy.get h1
  exact ⟨_,h4,by simp [execOp,ho,he,Instr.extract,h3]⟩
 ·exact h.elim
theorem Rh {fn:Fn} {f c:Array Operand} (h:KQ tmps fn f.toList c.toList k):eX P (.makeFunc fn f c) tmps H aI k:=by
 obtain ⟨vs,h,h1⟩:=Av h
 obtain ⟨us,h,J⟩:=Av h
 refine .value (by simp) h fun o ν a w ho ha hH=>?_
 have h1:=h1 ν a (fun x hx=>ha x (by simp [Op.operands]; exact .inl (by simpa using hx)))
 have J:=J ν a (fun x hx=>ha x (by simp [Op.operands]; exact .inr (by simpa using hx)))
 refine ⟨.func fn ⟨f.toList.map a.eval⟩ ⟨c.toList.map a.eval⟩,.func fn _ _ _ _ h1.1 h1.2 J.1 J.2,?_⟩
 simp only [execOp,ho,Instr.makeFunc]
 have e1:f.map a.eval=⟨f.toList.map a.eval⟩:=by apply Array.ext'; simp
 have e2:c.map a.eval=⟨c.toList.map a.eval⟩:=by apply Array.ext'; simp
 rw [e1,e2]; rfl
theorem ab3 {op:UnOp} {t:TypeId} {x:Operand} (h:OW tmps op x k):eX P (.unOp op t x) tmps H aI k:=by
 obtain ⟨v,h,hv⟩:=cX h
 split at h
 ·refine .value (by simp) h fun o ν a w ho ha hH=>⟨_,.int _ _,?_⟩
  have hv:=(hv ν a (ha x (by simp [Op.operands]))).fO
  simp [execOp,ho,hv,Op.unary,Op.intArith]
 ·refine .value (by simp) h fun o ν a w ho ha hH=>⟨_,.bool _,?_⟩
  have hv:=(hv ν a (ha x (by simp [Op.operands]))).j5
  simp [execOp,ho,hv,Op.unary]
 ·rename_i q m
  split at h
  ·rename_i u hu
   have h:=vf h
   split at h
   ·rename_i hs
    refine .value (by simp) h fun o ν a w ho ha hH=>⟨_,an.j3 hs,?_⟩
    have hv:=(hv ν a (ha x (by simp [Op.operands]))).fO
    simp [execOp,ho,hv,Op.unary,hu]
   ·exact h.elim
  ·exact h.elim
 ·exact h.elim
end
end Go.Ae
/- The abstract operations stand for the model's: slices that are made and cut, strings and bytes. -/
namespace Go.Ae
open Go Go.RowKit
section
variable {P:Program} {tt:TT} {w:World} {ν:Nu} {aI:Nat} {k:QK} {tmps:List Value} {H:ax}
theorem an.s5 {ν:Nu} {id row m c:Nat} {x:Value} (h:an ν (.slice (some ⟨id,row,none⟩) m c) x) :
  (∃ l c',ν id=some l∧(c'=c∨c=aN)∧m≤c'∧row+c'≤l.cap∧x=.slice (some (l.at row 0)) m c')∨(m=0∧(0=c∨c=aN)∧∃ b,x=.slice (some b) 0 0):=by
 cases h with
 | slice _ _ _ _ c' l h hc hn hr=>exact .inl ⟨l,c',h,hc,hn,hr,rfl⟩
 | void _ _ _ b hc=>exact .inr ⟨rfl,hc,b,rfl⟩
theorem an.M8 {ν:Nu} {id row b0 m c:Nat} {x:Value} (h:an ν (.slice (some ⟨id,row,some b0⟩) m c) x) :
  (∃ l c',ν id=some l∧b0≤c'∧m≤c'∧row+c'≤l.cap∧x=.slice (some (l.at row 0)) m c')∨(m=0∧b0=0∧∃ b,x=.slice (some b) 0 0):=by
 cases h with
 | lK _ _ _ _ c' l h hm hn hr=>exact .inl ⟨l,c',h,hm,hn,hr,rfl⟩
 | kG _ _ a=>exact .inr ⟨rfl,rfl,a,rfl⟩
theorem an.Vv {ν:Nu} {id row b0 m c:Nat} {x:Value} (h:an ν (.slice (some ⟨id,row,some b0⟩) m c) x) :
  (∃ l c',ν id=some l∧b0≤c'∧m≤c'∧row+c'≤l.cap∧c=aN∧x=.slice (some (l.at row 0)) m c')∨(m=0∧b0=0∧c=aN∧∃ b,x=.slice (some b) 0 0):=by
 cases h with
 | lK _ _ _ _ c' l h hm hn hr=>exact .inl ⟨l,c',h,hm,hn,hr,rfl,rfl⟩
 | kG _ _ a=>exact .inr ⟨rfl,rfl,rfl,a,rfl⟩
theorem an.Br {ν:Nu} {id row m c:Nat} {sp:Option Nat} {x:Value} (h:an ν (.slice (some ⟨id,row,sp⟩) m c) x) :
  (∃ l c',ν id=some l∧m≤c'∧row+c'≤l.cap∧x=.slice (some (l.at row 0)) m c')∨(m=0∧∃ b,x=.slice (some b) 0 0):=by
 cases h with
 | slice _ _ _ _ c' l h hc hn hr=>exact .inl ⟨l,c',h,hn,hr,rfl⟩
 | void _ _ _ b hc=>exact .inr ⟨rfl,b,rfl⟩
 | lK _ _ _ _ c' l h hm hn hr=>exact .inl ⟨l,c',h,hn,hr,rfl⟩
 | kG _ _ a=>exact .inr ⟨rfl,a,rfl⟩
theorem an.o9 {ν:Nu} {x:Value} (h:an ν (.slice none 0 0) x):x=.slice none 0 0:=by cases h; rfl
theorem lY {x:Option Operand} {d:Int} {k:Int→Prop} (h:lu tmps x d k):∃ n,k n∧∀ (ν:Nu) (a:Act),(∀ y∈x.toArray,fk ν tmps a y)→(x=none∧n=d)∨∃ q,x.map a.eval=some (.int q n):=by
 cases x with
 | none=>exact ⟨d,h,fun ν a _=>.inl ⟨rfl,rfl⟩⟩
 | some x =>
  obtain ⟨v,h,hv⟩:=cX h
  split at h
  ·rename_i q n
   exact ⟨n,h,fun ν a ha=>.inr ⟨q,by simp [(hv ν a (ha x (by simp))).fO]⟩⟩
  ·exact h.elim
theorem vw {q:IntKind} {n:Int} {y:Nat} {code:BoundsCode} (h0:0≤n) (h1:n≤y) (w:World):(Instr.sliceBound (.int q n) y code).run P w=.ok n.toNat w:=by
 simp [Instr.sliceBound,asIntOf,h0,h1]
/-- The three bounds of a slice expression. -/
theorem oc {len cap:Nat} {lo hi mx:Option Value} {l h m:Int} (hl:(lo=none∧l=0)∨∃ q,lo=some (.int q l)) (hh:(hi=none∧h=(len:Int))∨∃ q,hi=some (.int q h))
  (hm:(mx=none∧m=(cap:Int))∨((∃ q,mx=some (.int q m))∧∃ v,hi=some v)) (b0:0≤l) (b1:l≤h) (b2:h≤m) (b3:m≤cap) (gY:Bool) (w:World) :
  (Instr.sliceBounds gY len cap lo hi mx).run P w=.ok (l.toNat,h.toNat,m.toNat) w:=by
 unfold Instr.sliceBounds
 rcases hm with ⟨rfl,rfl⟩ | ⟨⟨q,rfl⟩,v,rfl⟩
 ·rcases hh with ⟨rfl,rfl⟩ | ⟨q,rfl⟩
  ·rcases hl with ⟨rfl,rfl⟩ | ⟨q,rfl⟩
   ·simp
   ·simp [vw (P:=P) (q:=q) (n:=l) (y:=len) b0 (by omega)]
  ·have e:=vw (P:=P) (q:=q) (n:=h) (y:=cap) (code:=if gY then .sliceAcap else .sliceAlen) (by omega) (by omega) w
   rcases hl with ⟨rfl,rfl⟩ | ⟨q',rfl⟩
   ·simp [e]
   ·simp [e,vw (P:=P) (q:=q') (n:=l) (y:=h.toNat) b0 (by omega)]
 ·rcases hh with ⟨h',_⟩ | ⟨q',h'⟩
  ·cases h'
  ·cases h'
   have e0:=vw (P:=P) (q:=q) (n:=m) (y:=cap) (code:=if gY then .slice3Acap else .slice3Alen) (by omega) (by omega) w
   have e:=vw (P:=P) (q:=q') (n:=h) (y:=m.toNat) (code:=.slice3B) (by omega) (by omega) w
   rcases hl with ⟨rfl,rfl⟩ | ⟨q',rfl⟩
   ·simp [e0,e]
   ·simp [e0,e,vw (P:=P) (q:=q') (n:=l) (y:=h.toNat) b0 (by omega)]
theorem Jp (hT:∀ t ti,tt t=some ti→aB P t ti) {t:TypeId} {x:Operand} {lo hi mx:Option Operand} (h:FZ tt tmps H t x lo hi mx k):∃ v,k v none∧∀ (bw:Nu) (w0:World),bT bw H w0→pH P bw (.slice t x lo hi mx) tmps v:=by
 obtain ⟨xv,J,hx⟩:=cX h
 clear h
 obtain ⟨ti,ht,h⟩:=cT J
 clear J
 obtain ⟨d,hu,hd⟩:=(hT _ _ ht).under
 have mem:∀ (o:Option Operand) y,(o=lo∨o=hi∨o=mx)→y∈o.toArray→y∈(Op.slice t x lo hi mx).operands:=by
  intro o y ho hy
  simp only [Op.operands,Array.mem_append]
  rcases ho with rfl | rfl | rfl
  ·exact .inl (.inl (.inr hy))
  ·exact .inl (.inr hy)
  ·exact .inr hy
 have uf:x∈(Op.slice t x lo hi mx).operands:=by simp [Op.operands]
 split at h
 ·rename_i s hk
  rw [hk] at hd
  have hd:d=.string:=hd
  subst hd
  split at h
  ·obtain ⟨l,h,hl⟩:=lY h
   obtain ⟨hh,h,ju⟩:=lY h
   obtain ⟨⟨b0,b1,b2⟩,h⟩:=h
   refine ⟨_,h,fun bw w0 hH=>⟨by simp,fun o ν a w hle ho ha=>⟨_,.str _,?_⟩⟩⟩
   have hx:=(hx ν a (ha x uf)).rr
   have e1:=hl ν a (fun y hy=>ha y (mem _ y (.inl rfl) hy))
   have e2:=ju ν a (fun y hy=>ha y (mem _ y (.inr (.inl rfl)) hy))
   have:=oc (P:=P) (len:=s.size) (cap:=s.size) (lo:=lo.map a.eval) (hi:=hi.map a.eval) (mx:=none) (l:=l) (h:=hh) (m:=s.size) (e1.imp (fun ⟨p,q⟩=>⟨by rw [p]; rfl,q⟩) (fun x=>x)) (e2.imp (fun ⟨p,q⟩=>⟨by rw [p]; rfl,q⟩) (fun x=>x)) (.inl ⟨rfl,rfl⟩) b0 b1 b2 (Int.le_refl _) false w
   simp [execOp,ho,Instr.sliceAt,dE hu,Instr.slice,hx,this]
  ·exact h.elim
 ·rename_i e id row n c hk
  rw [hk] at hd
  have hd:d=.slice e:=hd
  subst hd
  obtain ⟨te,he,J⟩:=cT h
  clear h
  obtain ⟨b,hb,h⟩:=gA J
  clear J
  obtain ⟨ei,fC,iY,_⟩:=(hT _ _ he).info
  split at h
  ·rename_i hq
   have hq:b.ah=te.size:=Nat.eq_of_beq_eq_true hq
   -- what both forms come to
   have fin:∀ (o:Oper) (ν:Nu) (a:Act) (w:World) (l hh m:Int) (c1:Nat),o.op=.slice t x lo hi mx→(∀ x'∈(Op.slice t x lo hi mx).operands,fk ν tmps a x')→∀ (bw:Nu) (w0:World),bT bw H w0→bw.le ν →
     (∀ (lv hv:Nat) (c':Nat),n≤c'→(c'=c∨c=aN)→∃ mm:Int,(Instr.sliceBounds true n c' (lo.map a.eval) (hi.map a.eval) (mx.map a.eval)).run P w=.ok (l.toNat,hh.toNat,mm.toNat) w∧hh.toNat≤mm.toNat∧mm.toNat≤c'∧(mm.toNat - l.toNat=c1∨c1=aN)) →
     0≤l→l≤hh→hh≤n →
     ∃ v',an ν (.slice (some ⟨id,fe row l.toNat,none⟩) (hh.toNat - l.toNat) c1) v'∧(execOp a.eval o).run P w=.ok (.value v') w:=by
    intro o ν a w l hh m c1 ho ha bw w0 hH hle OX b0 b1 b2
    obtain ⟨l0,eM,hB⟩:=hH.aH id b hb
    have eM:=hle _ _ eM
    rcases (hx ν a (ha x uf)).s5 with ⟨lc,c',dK,hc,hn,hr,cF⟩ | ⟨hn,hc,bb,cF⟩
    ·rw [eM] at dK; cases dK
     obtain ⟨mm,bF,m1,m2,m3⟩:=OX 0 0 c' hn hc
     by_cases hz:mm.toNat=l.toNat
     ·have e0:hh.toNat - l.toNat=0:=by omega
      refine ⟨.slice (some (l0.at row 0)) 0 0,?_,?_⟩
      ·rw [e0]; exact .void _ _ _ _ (m3.imp (fun h=>by omega) (fun h=>h))
      ·simp [execOp,ho,Instr.sliceAt,dE hu,Instr.slice,cF,bF,gr fC,hz,e0]
     ·refine ⟨.slice (some (l0.at (row+l.toNat) 0)) (hh.toNat - l.toNat) (mm.toNat - l.toNat),?_,?_⟩
      ·rw [aq]; exact .slice _ _ _ _ _ l0 eM m3 (by omega) (by omega)
      ·have kH:(l0.at row 0).add (l.toNat*ei.size)=l0.at (row+l.toNat) 0:=by
        rw [Loc.jH]
        unfold Loc.at
        congr 1
        rw [iY,← hq,← hB.ah,Nat.add_mul]; omega
       simp [execOp,ho,Instr.sliceAt,dE hu,Instr.slice,cF,bF,gr fC,hz,kH]
    ·obtain ⟨mm,bF,m1,m2,m3⟩:=OX 0 0 0 (by omega) (hc.imp (fun h=>h) (fun h=>h))
     have e0:hh.toNat - l.toNat=0:=by omega
     have e1:mm.toNat - l.toNat=0:=by omega
     have e2:l.toNat=0:=by omega
     have e3:mm.toNat=0:=by omega
     have e4:hh.toNat=0:=by omega
     refine ⟨.slice (some bb) 0 0,?_,?_⟩
     ·rw [e0]; exact .void _ _ _ _ (m3.imp (fun h=>by omega) (fun h=>h))
     ·rw [e2,e3,e4] at bF
      subst hn
      simp [execOp,ho,Instr.sliceAt,dE hu,Instr.slice,cF,bF,gr fC]
   split at h
   ·obtain ⟨l,h,hl⟩:=lY h
    obtain ⟨hh,h,ju⟩:=lY h
    obtain ⟨⟨b0,b1,b2⟩,h⟩:=h
    refine ⟨_,h,fun bw w0 hH=>⟨by simp,fun o ν a w hle ho ha=>fin o ν a w l hh 0 _ ho ha bw w0 hH hle (fun _ _ c' hn hc=>⟨c',?_,by omega,by omega,?_⟩) b0 b1 b2⟩⟩
    ·have e1:=hl ν a (fun y hy=>ha y (mem _ y (.inl rfl) hy))
     have e2:=ju ν a (fun y hy=>ha y (mem _ y (.inr (.inl rfl)) hy))
     exact oc (P:=P) (e1.imp (fun ⟨p,q⟩=>⟨by rw [p]; rfl,q⟩) (fun x=>x)) (e2.imp (fun ⟨p,q⟩=>⟨by rw [p]; rfl,q⟩) (fun x=>x)) (.inl ⟨rfl,rfl⟩) b0 b1 (by omega) (Int.le_refl _) true w
    ·unfold tD
     by_cases fM:c=aN
     ·right; simp [fM]
     ·left
      have:c'=c:=hc.resolve_right fM
      simp [fM,this]
   ·rename_i h0 m0
    obtain ⟨l,J,hl⟩:=lY h
    clear h
    obtain ⟨hv,h,ju⟩:=cX J
    clear J
    obtain ⟨mv,J,hm⟩:=cX h
    clear h
    have h:=J
    clear J
    split at h
    ·rename_i q1 hh q2 m
     obtain ⟨⟨b0,b1,b2,b3⟩,h⟩:=h
     refine ⟨_,h,fun bw w0 hH=>⟨by simp,fun o ν a w hle ho ha=>fin o ν a w l hh m _ ho ha bw w0 hH hle (fun _ _ c' hn hc=>⟨m,?_,by omega,by omega,.inl rfl⟩) b0 b1 (by omega)⟩⟩
     have e1:=hl ν a (fun y hy=>ha y (mem _ y (.inl rfl) hy))
     have e2:=(ju ν a (ha h0 (mem _ h0 (.inr (.inl rfl)) (by simp)))).fO
     have e3:=(hm ν a (ha m0 (mem _ m0 (.inr (.inr rfl)) (by simp)))).fO
     exact oc (P:=P) (e1.imp (fun ⟨p,q⟩=>⟨by rw [p]; rfl,q⟩) (fun x=>x)) (.inr ⟨q1,by simp [e2]⟩)
      (.inr ⟨⟨q2,by simp [e3]⟩,_,rfl⟩) b0 b1 (by omega) (by omega) true w
    ·exact h.elim
   ·exact h.elim
  ·exact h.elim
 ·rename_i e id row b0 n c hk
  rw [hk] at hd
  have hd:d=.slice e:=hd
  subst hd
  obtain ⟨te,he,J⟩:=cT h
  clear h
  obtain ⟨b,hb,h⟩:=gA J
  clear J
  obtain ⟨ei,fC,iY,_⟩:=(hT _ _ he).info
  split at h
  ·rename_i hq
   have hq:b.ah=te.size:=Nat.eq_of_beq_eq_true hq
   split at h
   ·obtain ⟨l,h,hl⟩:=lY h
    obtain ⟨hh,h,ju⟩:=lY h
    obtain ⟨⟨k0,k1,k2⟩,h⟩:=h
    refine ⟨_,h,fun bw w0 hH=>⟨by simp,fun o ν a w hle ho ha=>?_⟩⟩
    obtain ⟨l0,eM,hB⟩:=hH.aH id b hb
    have eM:=hle _ _ eM
    have e1:=hl ν a (fun y hy=>ha y (mem _ y (.inl rfl) hy))
    have e2:=ju ν a (fun y hy=>ha y (mem _ y (.inr (.inl rfl)) hy))
    rcases (hx ν a (ha x uf)).M8 with ⟨lc,c',dK,oM,hn,hr,cF⟩ | ⟨hn,iZ,bb,cF⟩
    ·rw [eM] at dK; cases dK
     have bF:=oc (P:=P) (len:=n) (cap:=c') (lo:=lo.map a.eval) (hi:=hi.map a.eval) (mx:=none) (l:=l) (h:=hh) (m:=c') (e1.imp (fun ⟨p,q⟩=>⟨by rw [p]; rfl,q⟩) (fun x=>x)) (e2.imp (fun ⟨p,q⟩=>⟨by rw [p]; rfl,q⟩) (fun x=>x)) (.inl ⟨rfl,rfl⟩) k0 k1 (by omega) (Int.le_refl _) true w
     rw [Int.toNat_natCast] at bF
     by_cases hz:c'=l.toNat
     ·have e0:hh.toNat - l.toNat=0:=by omega
      have e3:b0 - l.toNat=0:=by omega
      refine ⟨.slice (some (l0.at row 0)) 0 0,?_,?_⟩
      ·rw [e0,e3]; exact .kG _ _ _
      ·simp [execOp,ho,Instr.sliceAt,dE hu,Instr.slice,cF,bF,gr fC,hz.symm,← hz]
       first | done | omega
     ·refine ⟨.slice (some (l0.at (row+l.toNat) 0)) (hh.toNat - l.toNat) (c' - l.toNat),?_,?_⟩
      ·rw [aq]; exact .lK _ _ _ _ _ l0 eM (by omega) (by omega) (by omega)
      ·have kH:(l0.at row 0).add (l.toNat*ei.size)=l0.at (row+l.toNat) 0:=by
        rw [Loc.jH]
        unfold Loc.at
        congr 1
        rw [iY,← hq,← hB.ah,Nat.add_mul]; omega
       simp [execOp,ho,Instr.sliceAt,dE hu,Instr.slice,cF,bF,gr fC,hz,kH]
    ·have bF:=oc (P:=P) (len:=n) (cap:=0) (lo:=lo.map a.eval) (hi:=hi.map a.eval) (mx:=none) (l:=l) (h:=hh) (m:=(0:Nat)) (e1.imp (fun ⟨p,q⟩=>⟨by rw [p]; rfl,q⟩) (fun x=>x)) (e2.imp (fun ⟨p,q⟩=>⟨by rw [p]; rfl,q⟩) (fun x=>x)) (.inl ⟨rfl,rfl⟩) k0 k1 (by omega) (Int.le_refl _) true w
     have e2:l.toNat=0:=by omega
     have e4:hh.toNat=0:=by omega
     refine ⟨.slice (some bb) 0 0,?_,?_⟩
     ·rw [e4,e2,iZ]; exact .kG _ _ _
     ·rw [e2,e4] at bF
      subst hn
      simp [execOp,ho,Instr.sliceAt,dE hu,Instr.slice,cF,bF,gr fC]
   ·rename_i h0 m0
    obtain ⟨l,J,hl⟩:=lY h
    clear h
    obtain ⟨hv,h,ju⟩:=cX J
    clear J
    obtain ⟨mv,J,hm⟩:=cX h
    clear h
    have h:=J
    clear J
    split at h
    ·rename_i q1 hh q2 m
     obtain ⟨⟨k0,k1,k2,k3⟩,h⟩:=h
     refine ⟨_,h,fun bw w0 hH=>⟨by simp,fun o ν a w hle ho ha=>?_⟩⟩
     obtain ⟨l0,eM,hB⟩:=hH.aH id b hb
     have eM:=hle _ _ eM
     have e1:=hl ν a (fun y hy=>ha y (mem _ y (.inl rfl) hy))
     have e2:=(ju ν a (ha h0 (mem _ h0 (.inr (.inl rfl)) (by simp)))).fO
     have e3:=(hm ν a (ha m0 (mem _ m0 (.inr (.inr rfl)) (by simp)))).fO
     rcases (hx ν a (ha x uf)).M8 with ⟨lc,c',dK,oM,hn,hr,cF⟩ | ⟨hn,iZ,bb,cF⟩
     ·rw [eM] at dK; cases dK
      have bF:=oc (P:=P) (len:=n) (cap:=c') (lo:=lo.map a.eval) (hi:=some (a.eval h0)) (mx:=some (a.eval m0)) (l:=l) (h:=hh) (m:=m) (e1.imp (fun ⟨p,q⟩=>⟨by rw [p]; rfl,q⟩) (fun x=>x)) (.inr ⟨q1,by rw [e2]⟩) (.inr ⟨⟨q2,by rw [e3]⟩,_,rfl⟩) k0 k1 (by omega) (by omega) true w
      by_cases hz:m.toNat=l.toNat
      ·have e0:hh.toNat - l.toNat=0:=by omega
       have e4:m.toNat - l.toNat=0:=by omega
       refine ⟨.slice (some (l0.at row 0)) 0 0,?_,?_⟩
       ·rw [e0,e4]; exact .void _ _ _ _ (.inl rfl)
       ·simp [execOp,ho,Instr.sliceAt,dE hu,Instr.slice,cF,bF,gr fC,hz,e0]
      ·refine ⟨.slice (some (l0.at (row+l.toNat) 0)) (hh.toNat - l.toNat) (m.toNat - l.toNat),?_,?_⟩
       ·rw [aq]; exact .slice _ _ _ _ _ l0 eM (.inl rfl) (by omega) (by omega)
       ·have kH:(l0.at row 0).add (l.toNat*ei.size)=l0.at (row+l.toNat) 0:=by
         rw [Loc.jH]
         unfold Loc.at
         congr 1
         rw [iY,← hq,← hB.ah,Nat.add_mul]; omega
        simp [execOp,ho,Instr.sliceAt,dE hu,Instr.slice,cF,bF,gr fC,hz,kH]
     ·have bF:=oc (P:=P) (len:=n) (cap:=0) (lo:=lo.map a.eval) (hi:=some (a.eval h0)) (mx:=some (a.eval m0)) (l:=l) (h:=hh) (m:=m) (e1.imp (fun ⟨p,q⟩=>⟨by rw [p]; rfl,q⟩) (fun x=>x)) (.inr ⟨q1,by rw [e2]⟩) (.inr ⟨⟨q2,by rw [e3]⟩,_,rfl⟩) k0 k1 (by omega) (by omega) true w
      have e5:l.toNat=0:=by omega
      have e6:hh.toNat=0:=by omega
      have e7:m.toNat=0:=by omega
      refine ⟨.slice (some bb) 0 0,?_,?_⟩
      ·rw [e5,e6,e7]; exact .void _ _ _ _ (.inl rfl)
      ·rw [e5,e6,e7] at bF
       subst hn
       simp [execOp,ho,Instr.sliceAt,dE hu,Instr.slice,cF,bF,gr fC]
    ·exact h.elim
   ·exact h.elim
  ·exact h.elim
 ·rename_i n e id row hk
  rw [hk] at hd
  have hd:d=.array n e:=hd
  subst hd
  obtain ⟨te,he,J⟩:=cT h
  clear h
  obtain ⟨b,hb,h⟩:=gA J
  clear J
  obtain ⟨ei,fC,iY,_⟩:=(hT _ _ he).info
  split at h
  ·rename_i hq
   have hq:b.ah=te.size:=Nat.eq_of_beq_eq_true hq
   split at h
   ·obtain ⟨l,h,hl⟩:=lY h
    obtain ⟨hh,h,ju⟩:=lY h
    obtain ⟨⟨b0,b1,b2,b3,b4⟩,h⟩:=h
    refine ⟨_,h,fun bw w0 hH=>⟨by simp,fun o ν a w hle ho ha=>?_⟩⟩
    obtain ⟨l0,eM,hB⟩:=hH.aH id b hb
    have eM:=hle _ _ eM
    obtain ⟨lp,OY,cF⟩:=(hx ν a (ha x uf)).om
    rw [eM] at OY; cases OY
    have cF:a.eval x=.pointer (some (l0.at row 0)):=cF
    obtain ⟨_,_,_,_,fV⟩:=hB.own (ai.c5 b4).1 (ai.c5 b4).2
    have e1:=hl ν a (fun y hy=>ha y (mem _ y (.inl rfl) hy))
    have e2:=ju ν a (fun y hy=>ha y (mem _ y (.inr (.inl rfl)) hy))
    have bF:=oc (P:=P) (len:=n) (cap:=n) (lo:=lo.map a.eval) (hi:=hi.map a.eval) (mx:=none) (l:=l) (h:=hh) (m:=n) (e1.imp (fun ⟨p,q⟩=>⟨by rw [p]; rfl,q⟩) (fun x=>x)) (e2.imp (fun ⟨p,q⟩=>⟨by rw [p]; rfl,q⟩) (fun x=>x)) (.inl ⟨rfl,rfl⟩) b0 b1 b2 (Int.le_refl _) false w
    rw [Int.toNat_natCast] at bF
    by_cases hz:n=l.toNat
    ·have e0:hh.toNat - l.toNat=0:=by omega
     have e3:n - l.toNat=0:=by omega
     refine ⟨.slice (some (l0.at row 0)) 0 0,?_,?_⟩
     ·rw [e0,e3]; exact .void _ _ _ _ (.inl rfl)
     ·simp [execOp,ho,Instr.sliceAt,dE hu,Instr.sureAddr,cF,bF,gr fC,hz.symm,← hz,e0]
      first | done | omega
    ·refine ⟨.slice (some (l0.at (row+l.toNat) 0)) (hh.toNat - l.toNat) (n - l.toNat),?_,?_⟩
     ·rw [aq]; exact .slice _ _ _ _ _ l0 eM (.inl rfl) (by omega) (by omega)
     ·have kH:(l0.at row 0).add (l.toNat*ei.size)=l0.at (row+l.toNat) 0:=by
       rw [Loc.jH]
       unfold Loc.at
       congr 1
       rw [iY,← hq,← hB.ah,Nat.add_mul]; omega
      simp [execOp,ho,Instr.sliceAt,dE hu,Instr.sureAddr,cF,bF,gr fC,hz,kH]
   ·exact h.elim
  ·exact h.elim
 ·rename_i e hk
  rw [hk] at hd
  have hd:d=.slice e:=hd
  subst hd
  obtain ⟨te,he,J⟩:=cT h
  clear h
  obtain ⟨ei,fC,iY,_⟩:=(hT _ _ he).info
  split at J
  ·obtain ⟨l,h,hl⟩:=lY J
   obtain ⟨hh,h,ju⟩:=lY h
   obtain ⟨⟨b0,b1,b2⟩,h⟩:=h
   refine ⟨_,h,fun bw w0 hH=>⟨by simp,fun o ν a w hle ho ha=>⟨_,.iF,?_⟩⟩⟩
   have hx:=(hx ν a (ha x uf)).o9
   have e1:=hl ν a (fun y hy=>ha y (mem _ y (.inl rfl) hy))
   have e2:=ju ν a (fun y hy=>ha y (mem _ y (.inr (.inl rfl)) hy))
   have:=oc (P:=P) (len:=0) (cap:=0) (lo:=lo.map a.eval) (hi:=hi.map a.eval) (mx:=none) (l:=l) (h:=hh) (m:=0) (e1.imp (fun ⟨p,q⟩=>⟨by rw [p]; rfl,q⟩) (fun x=>x)) (e2.imp (fun ⟨p,q⟩=>⟨by rw [p]; rfl,q⟩) (fun x=>x)) (.inl ⟨rfl,rfl⟩) b0 b1 b2 (by omega) true w
   rw [show l.toNat=0 by omega,show hh.toNat=0 by omega] at this
   simp [execOp,ho,Instr.sliceAt,dE hu,Instr.slice,hx,this,gr fC]
  ·rename_i h0 m0
   obtain ⟨l,h,hl⟩:=lY J
   clear J
   obtain ⟨hv,J,ju⟩:=cX h
   clear h
   obtain ⟨mv,h,hm⟩:=cX J
   clear J
   split at h
   ·rename_i q1 hh q2 m
    obtain ⟨⟨b0,b1,b2,b3⟩,h⟩:=h
    refine ⟨_,h,fun bw w0 hH=>⟨by simp,fun o ν a w hle ho ha=>⟨_,.iF,?_⟩⟩⟩
    have hx:=(hx ν a (ha x uf)).o9
    have e1:=hl ν a (fun y hy=>ha y (mem _ y (.inl rfl) hy))
    have e2:=(ju ν a (ha h0 (mem _ h0 (.inr (.inl rfl)) (by simp)))).fO
    have e3:=(hm ν a (ha m0 (mem _ m0 (.inr (.inr rfl)) (by simp)))).fO
    have:=oc (P:=P) (len:=0) (cap:=0) (lo:=lo.map a.eval) (hi:=some (a.eval h0)) (mx:=some (a.eval m0)) (l:=l) (h:=hh) (m:=m) (e1.imp (fun ⟨p,q⟩=>⟨by rw [p]; rfl,q⟩) (fun x=>x)) (.inr ⟨q1,by rw [e2]⟩)
     (.inr ⟨⟨q2,by rw [e3]⟩,_,rfl⟩) b0 b1 b2 (by omega) true w
    rw [show l.toNat=0 by omega,show hh.toNat=0 by omega,show m.toNat=0 by omega] at this
    simp [execOp,ho,Instr.sliceAt,dE hu,Instr.slice,hx,this,gr fC]
   ·exact h.elim
  ·exact J.elim
 ·exact h.elim
theorem Vw (hT:∀ t ti,tt t=some ti→aB P t ti) {t:TypeId} {x:Operand} {lo hi mx:Option Operand} (h:FZ tt tmps H t x lo hi mx k):eX P (.slice t x lo hi mx) tmps H aI k:=by
 obtain ⟨v,hk,hp⟩:=Jp hT h
 exact .value (by simp) hk fun o ν a w ho ha hH=>(hp ν w hH).2 o ν a w ν.le_refl ho ha
end
end Go.Ae
/- The abstract operations stand for the model's, continued: indexes, arithmetic, conversions, lengths, structs, calls; and all of them together. -/
namespace Go.Ae
open Go Go.RowKit
section
variable {P:Program} {tt:TT} {Φ:yr} {o:Oper} {a:Act} {w:World} {ν:Nu} {aI:Nat} {k:QK} {tmps:List Value} {H:ax}
theorem an.aau {ν:Nu} {b:Option Addr} {m c:Nat} {z:Value} (h:an ν (.slice b m c) z):∃ b' c',z=.slice b' m c':=by cases h <;> exact ⟨_,_,rfl⟩
theorem an.re {ν:Nu} {fn:Fn} {x y:Array Value} {z:Value} (h:an ν (.func fn x y) z):∃ ys dn,z=.func fn ⟨ys⟩ ⟨dn⟩∧bh ν x.toList ys∧bh ν y.toList dn:=by
 cases h with | func _ xs ys mY dn h1 J h3 h4=>exact ⟨ys,dn,rfl,⟨h1,J⟩,⟨h3,h4⟩⟩
theorem Jq (hT:∀ t ti,tt t=some ti→aB P t ti) {t:TypeId} {x ix:Operand} (h:DG tt tmps H t x ix k):rQ P (.indexAddr t x ix) tmps H k:=by
 obtain ⟨xv,J,hx⟩:=cX h
 clear h
 obtain ⟨iv,h,hi⟩:=cX J
 clear J
 split at h
 ·rename_i q i
  obtain ⟨ti,ht,J⟩:=cT h
  clear h
  have h:=J
  clear J
  obtain ⟨d,hu,hd⟩:=(hT _ _ ht).under
  split at h
  ·rename_i e hk
   rw [hk] at hd
   have hd:d=.slice e:=hd
   subst hd
   split at h
   ·rename_i id row m c
    obtain ⟨te,he,h⟩:=cT h
    obtain ⟨b,hb,h⟩:=gA h
    obtain ⟨⟨h0,h1⟩,h⟩:=h
    split at h
    ·rename_i hq
     have hq:b.ah=te.size:=Nat.eq_of_beq_eq_true hq
     obtain ⟨ei,fC,iY,_⟩:=(hT _ _ he).info
     rw [aq] at h
     refine .value (by simp) h fun o ν a w ho ha hH=>?_
     have hi:=(hi ν a (ha ix (by simp [Op.operands]))).fO
     obtain ⟨l0,eM,hB⟩:=hH.aH id b hb
     rcases (hx ν a (ha x (by simp [Op.operands]))).s5 with ⟨l,c',hl,hc,hm,hr,cF⟩ | ⟨hm,_⟩
     ·rw [eM] at hl; cases hl
      refine ⟨.pointer (some (l0.at (row+i.toNat) 0)),.ptr _ _ none _ eM,?_⟩
      have ak:i < (m:Int):=h1
      have kH:(l0.at row 0).add (i.toNat*ei.size)=l0.at (row+i.toNat) 0:=by
       rw [Loc.jH]
       unfold Loc.at
       congr 1
       rw [iY,← hq,← hB.ah,Nat.add_mul]; omega
      simp [execOp,ho,Instr.indexAt,hi,asIntOf,dE hu,cF,h0,ak,gr fC,kH]
     ·omega
    ·exact h.elim
   ·exact h.elim
  ·rename_i m e hk
   rw [hk] at hd
   have hd:d=.array m e:=hd
   subst hd
   split at h
   ·rename_i id row
    obtain ⟨te,he,h⟩:=cT h
    obtain ⟨b,hb,h⟩:=gA h
    obtain ⟨⟨h0,h1⟩,h⟩:=h
    obtain ⟨ei,fC,iY,_⟩:=(hT _ _ he).info
    split at h
    ·rename_i hq
     have hq:b.ah=te.size:=Nat.eq_of_beq_eq_true hq
     rw [aq] at h
     refine .value (by simp) h fun o ν a w ho ha hH=>?_
     have hi:=(hi ν a (ha ix (by simp [Op.operands]))).fO
     obtain ⟨l0,eM,hB⟩:=hH.aH id b hb
     obtain ⟨l,hl,cF⟩:=(hx ν a (ha x (by simp [Op.operands]))).om
     rw [eM] at hl; cases hl
     refine ⟨.pointer (some (l0.at (row+i.toNat) 0)),.ptr _ _ none _ eM,?_⟩
     have kH:(l0.at row 0).add (i.toNat*ei.size)=l0.at (row+i.toNat) 0:=by
      rw [Loc.jH]
      unfold Loc.at
      congr 1
      rw [iY,← hq,← hB.ah,Nat.add_mul]; omega
     have cF:a.eval x=.pointer (some (l0.at row 0)):=cF
     simp [execOp,ho,Instr.indexAt,hi,asIntOf,dE hu,cF,Instr.sureAddr,h0,h1,gr fC,kH]
    ·refine .value (by simp) h fun o ν a w ho ha hH=>?_
     have hi:=(hi ν a (ha ix (by simp [Op.operands]))).fO
     obtain ⟨l,hl,cF⟩:=(hx ν a (ha x (by simp [Op.operands]))).om
     have cF:a.eval x=.pointer (some (l.at row 0)):=cF
     refine ⟨.pointer (some (l.at row (0+i.toNat*te.size))),.ptr _ _ (some _) _ hl,?_⟩
     simp [execOp,ho,Instr.indexAt,hi,asIntOf,dE hu,cF,Instr.sureAddr,h0,h1,gr fC,Loc.jH,iY]
   ·rename_i id row c
    obtain ⟨te,he,h⟩:=cT h
    obtain ⟨⟨h0,h1⟩,h⟩:=h
    obtain ⟨ei,fC,iY,_⟩:=(hT _ _ he).info
    refine .value (by simp) h fun o ν a w ho ha hH=>?_
    have hi:=(hi ν a (ha ix (by simp [Op.operands]))).fO
    obtain ⟨l,hl,cF⟩:=(hx ν a (ha x (by simp [Op.operands]))).om
    have cF:a.eval x=.pointer (some (l.at row c)):=cF
    refine ⟨.pointer (some (l.at row (c+i.toNat*te.size))),.ptr _ _ (some _) _ hl,?_⟩
    simp [execOp,ho,Instr.indexAt,hi,asIntOf,dE hu,cF,Instr.sureAddr,h0,h1,gr fC,Loc.jH,iY]
   ·exact h.elim
  ·exact h.elim
 ·exact h.elim
theorem QN (hT:∀ t ti,tt t=some ti→aB P t ti) {t:TypeId} {x ix:Operand} (h:DG tt tmps H t x ix k):eX P (.indexAddr t x ix) tmps H aI k:=(Jq hT h).ok
theorem Ri (s:ByteArray) (i:Nat) (h:i < s.size):s[i]?=some (s[i]'h)∧((s[i]'h).toNat=cf s i):=by
 refine ⟨by simp [h],?_⟩
 unfold cf
 rw [List.getD_eq_getElem?_getD,Array.getElem?_toList]
 have:s.data[i]?=some (s[i]'h):=by rw [Array.getElem?_eq_getElem (by simpa using h)]; rfl
 rw [this]; rfl
theorem Vx (hT:∀ t ti,tt t=some ti→aB P t ti) {t:TypeId} {x ix:Operand} (h:M6 tt tmps t x ix k):eX P (.index t x ix) tmps H aI k:=by
 obtain ⟨xv,J,hx⟩:=cX h
 clear h
 obtain ⟨iv,h,hi⟩:=cX J
 clear J
 split at h
 ·rename_i q i
  obtain ⟨ti,ht,J⟩:=cT h
  clear h
  have h:=J
  clear J
  obtain ⟨d,hu,hd⟩:=(hT _ _ ht).under
  split at h
  ·rename_i hk
   rw [hk] at hd
   have hd:d=.string:=hd
   subst hd
   split at h
   ·rename_i s
    obtain ⟨⟨h0,h1⟩,h⟩:=h
    have ak:i.toNat < s.size:=by omega
    obtain ⟨J,h3⟩:=Ri s i.toNat ak
    refine .value (by simp) h fun o ν a w ho ha hH=>⟨_,.int _ _,?_⟩
    have hi:=(hi ν a (ha ix (by simp [Op.operands]))).fO
    have hx:=(hx ν a (ha x (by simp [Op.operands]))).rr
    simp [execOp,ho,Instr.index,hi,asIntOf,dE hu,hx,h0,J,h3]
   ·exact h.elim
  ·exact h.elim
 ·exact h.elim
def Bs (op:BinOp) (q:IntKind) (a b:Int):Sem Value :=
 match op with
 | .add | .sub | .mul=>Op.intArith op q a b
 | .quo | .rem=>Op.intDiv op q a b
 | .and | .or | .xor | .andNot=>Op.intBits op q a b
 | _=>Op.intCmp op a b
theorem SE (op:BinOp) (t:TypeId) (q:IntKind) (a b:Int) (h1:op≠.shl) (J:op≠.shr):binOp op t (.int q a) (.int q b)=Bs op q a b:=by
 cases op <;> first | exact absurd rfl h1 | exact absurd rfl J | (cases q <;> rfl)
theorem binOp_shl (t:TypeId) (q q':IntKind) (a b:Int):binOp .shl t (.int q a) (.int q' b)=Op.shift .shl q a q' b:=rfl
theorem binOp_shr (t:TypeId) (q q':IntKind) (a b:Int):binOp .shr t (.int q a) (.int q' b)=Op.shift .shr q a q' b:=rfl
theorem SF (op:BinOp) (t:TypeId) (x y:Operand) (q q':IntKind) (a b:Int) (w:World):(eqGuard op t x y (.int q a) (.int q' b)).run P w=.ok () w:=by cases op <;> rfl
theorem SG (op:BinOp) (t:TypeId) (x y:Operand) (a b:ByteArray) (w:World):(eqGuard op t x y (.string a) (.string b)).run P w=.ok () w:=by cases op <;> rfl
theorem Rj (op:BinOp) (t:TypeId) (x y:Operand) (a b:Bool) (w:World):(eqGuard op t x y (.bool a) (.bool b)).run P w=.ok () w:=by cases op <;> rfl
/-- The run of a binary operation out of its parts. -/
theorem x4 {op:BinOp} {t ty:TypeId} {x y:Operand} (ho:o.op=.binOp op t x y ty) {u v z:Value} (hx:a.eval x=u) (hy:a.eval y=v) (hg:(eqGuard op t x y u v).run P w=.ok () w)
  (hb:(binOp op t u v).run P w=.ok z w):(execOp a.eval o).run P w=.ok (.value z) w:=by
 simp only [execOp,ho,hx,hy,Sem.run_bind,hg,hb,Result.andThen_ok,Sem.run_pure]
theorem Bt {op:BinOp} {t:TypeId} {q:IntKind} {x y:Int} (h:NC op q x y k):∃ z,k z none∧cO z=true∧∀ w,(Bs op q x y).run P w=.ok z w:=by
 cases op <;> first | exact h.elim | skip
 case and=>exact ⟨.int q (q.wrap (BitVec.ofInt q.bits x &&& BitVec.ofInt q.bits y).toNat),h,rfl,fun w=>rfl⟩
 case or=>exact ⟨.int q (q.wrap (BitVec.ofInt q.bits x ||| BitVec.ofInt q.bits y).toNat),h,rfl,fun w=>rfl⟩
 case xor=>exact ⟨.int q (q.wrap (BitVec.ofInt q.bits x ^^^ BitVec.ofInt q.bits y).toNat),h,rfl,fun w=>rfl⟩
 case andNot=>exact ⟨.int q (q.wrap (BitVec.ofInt q.bits x &&& ~~~(BitVec.ofInt q.bits y)).toNat),h,rfl,fun w=>rfl⟩
theorem TU {op:BinOp} {t:TypeId} {q q':IntKind} {x y:Int} (h:A9 op q q' x y k):∃ z,k z none∧cO z=true∧∀ w,(binOp op t (.int q x) (.int q' y)).run P w=.ok z w:=by
 by_cases p7:op=.shl
 ·subst p7
  obtain ⟨h0,h⟩:=AD h
  exact ⟨_,h,rfl,fun w=>by rw [binOp_shl]; simp [Op.shift,show ¬ y < 0 by omega]⟩
 by_cases CC:op=.shr
 ·subst CC
  obtain ⟨h0,h⟩:=AD h
  exact ⟨_,h,rfl,fun w=>by rw [binOp_shr]; simp [Op.shift,show ¬ y < 0 by omega]⟩
 by_cases hq:q=q'
 ·subst hq
  have e:=SE op t q x y p7 CC
  rw [e]
  have hd:decide (q=q)=true:=by simp
  cases op <;> first | exact absurd rfl p7 | exact absurd rfl CC | skip
  all_goals (unfold A9 at h; rw [hd] at h; dsimp only at h)
  case quo=>obtain ⟨h0,h⟩:=AD h; exact ⟨_,h,rfl,fun w=>by simp [Bs,Op.intDiv,h0]⟩
  case rem=>obtain ⟨h0,h⟩:=AD h; exact ⟨_,h,rfl,fun w=>by simp [Bs,Op.intDiv,h0]⟩
  case and=>exact Bt (t:=t) h
  case or=>exact Bt (t:=t) h
  case xor=>exact Bt (t:=t) h
  case andNot=>exact Bt (t:=t) h
  all_goals exact ⟨_,h,rfl,fun w=>rfl⟩
 ·have hd:decide (q=q')=false:=by simp [hq]
  cases op <;> first | exact absurd rfl p7 | exact absurd rfl CC | (unfold A9 at h; rw [hd] at h; exact h.elim)
theorem TW {op:BinOp} {t:TypeId} {x y:ByteArray} (h:Mo op x y k):∃ z,k z none∧cO z=true∧∀ w,(binOp op t (.string x) (.string y)).run P w=.ok z w:=by
 cases op <;> first | exact h.elim | exact ⟨_,h,rfl,fun w=>rfl⟩ | skip
 obtain ⟨h0,h⟩:=h
 refine ⟨_,h,rfl,fun w=>?_⟩
 have:¬ (((x.size+y.size:Nat):Int) > IntKind.i64.max):=by
  have:IntKind.i64.max=9223372036854775807:=by decide
  rw [this]; omega
 show (Op.stringOp .add x y).run P w=_
 unfold Op.stringOp
 dsimp only
 rw [if_neg this]
 rfl
theorem rf {t:TypeId} {x y:Value} {b:Bool} (hs:∀ q a,x≠.int q a) (ao:∀ s,x≠.string s) (hf:∀ q a,x≠.float q a) (hc:∀ q a b,x≠.complex q a b) (hp:∀ a,x≠.pointer a)
  (h:(Op.equal t x y).run P w=.ok b w):(binOp .eql t x y).run P w=.ok (.bool b) w∧(binOp .neq t x y).run P w=.ok (.bool !b) w:=by
 have e1:binOp .eql t x y=(do pure (.bool (← Op.equal t x y)):Sem Value):=by
  cases x <;> first | exact absurd rfl (hs _ _) | exact absurd rfl (ao _) | exact absurd rfl (hf _ _) | exact absurd rfl (hc _ _ _) | exact absurd rfl (hp _) | rfl
 have e2:binOp .neq t x y=(do pure (.bool (!(← Op.equal t x y))):Sem Value):=by
  cases x <;> first | exact absurd rfl (hs _ _) | exact absurd rfl (ao _) | exact absurd rfl (hf _ _) | exact absurd rfl (hc _ _ _) | exact absurd rfl (hp _) | rfl
 rw [e1,e2]
 simp only [Sem.run_bind,h,Result.andThen_ok]
 exact ⟨rfl,rfl⟩
theorem run_equal_bool {t:TypeId} (hu:P.underlying t=some .bool) (b b':Bool) (w:World):(Op.equal t (.bool b) (.bool b')).run P w=.ok (b == b') w:=by
 show (Op.equalIn (9999+1) t (.bool b) (.bool b')).run P w=_
 rw [Op.equalIn]
 simp only [Sem.run_bind,dE hu,Result.andThen_ok]
 rfl
theorem SH {ti:TI} {op:BinOp} {t:TypeId} {x y:Bool} (hu:ti.kind=.bool→P.underlying t=some .bool) (h:EH ti.kind op x y k):∃ z,k z none∧cO z=true∧∀ w,(binOp op t (.bool x) (.bool y)).run P w=.ok z w:=by
 unfold EH at h
 split at h
 ·rename_i hk
  exact ⟨_,h,rfl,fun w=>(rf (by simp) (by simp) (by simp) (by simp) (by simp) (run_equal_bool (hu hk) x y w)).1⟩
 ·rename_i hk
  exact ⟨_,h,rfl,fun w=>(rf (by simp) (by simp) (by simp) (by simp) (by simp) (run_equal_bool (hu hk) x y w)).2⟩
 ·exact h.elim
theorem sQ:∀ {l m:List Value},fc l m=true→∀ v∈l,cO v=true
 | [],[],_=>fun v hv=>by simp at hv
 | .bool _::l,.bool _::m,h=>fun v hv=>by
  rcases List.mem_cons.1 hv with e | e
  ·rw [e]; rfl
  ·exact sQ (l:=l) (m:=m) h v e
 | .int q _::l,.int q' _::m,h=>fun v hv=>by
  rcases List.mem_cons.1 hv with e | e
  ·rw [e]; rfl
  ·exact sQ (l:=l) (m:=m) (by simp only [fc,Bool.and_eq_true] at h; exact h.2) v e
 | .string _::l,.string _::m,h=>fun v hv=>by
  rcases List.mem_cons.1 hv with e | e
  ·rw [e]; rfl
  ·exact sQ (l:=l) (m:=m) h v e
theorem bh.j4 {ν:Nu}:∀ {l m:List Value},(∀ v∈l,cO v=true)→bh ν l m→m=l
 | [],m,_,h=>h.iP
 | v::l,m,hs,h=>by
  obtain ⟨y,ys,rfl,h1,J⟩:=h.jg
  rw [h1.j4 (hs v (by simp)),bh.j4 (fun u hu=>hs u (by simp [hu])) J]
theorem TX {eqs:List TypeId} {zero:List Value} {op:BinOp} {t:TypeId} {xs ys:List Value} (hE:∀ t∈eqs,∀ ti,tt t=some ti→wS P t ti.zero) {ti:TI} (ht:tt t=some ti) (h:Fl eqs t ti.zero op xs ys k) :
  ∃ z,k z none∧cO z=true∧(∀ v∈xs,cO v=true)∧(∀ v∈ys,cO v=true)∧∀ w,(binOp op t (.agg ⟨xs⟩) (.agg ⟨ys⟩)).run P w=.ok z w∧∀ x y,(eqGuard op t x y (.agg ⟨xs⟩) (.agg ⟨ys⟩)).run P w=.ok () w:=by
 unfold Fl at h
 split at h
 ·rename_i hb
  simp only [Bool.and_eq_true] at hb
  obtain ⟨⟨h1,J⟩,h3⟩:=hb
  have hq:=hE t (by simpa using h1) ti ht
  exact ⟨_,h,rfl,sQ J,sQ h3,fun w=>⟨(rf (by simp) (by simp) (by simp) (by simp) (by simp) (hq xs ys w J h3).1).1,fun x y=>(hq xs ys w J h3).2 x y _⟩⟩
 ·rename_i hb
  simp only [Bool.and_eq_true] at hb
  obtain ⟨⟨h1,J⟩,h3⟩:=hb
  have hq:=hE t (by simpa using h1) ti ht
  exact ⟨_,h,rfl,sQ J,sQ h3,fun w=>⟨(rf (by simp) (by simp) (by simp) (by simp) (by simp) (hq xs ys w J h3).1).2,fun x y=>(hq xs ys w J h3).2 x y _⟩⟩
 ·exact h.elim
theorem QO (op:BinOp) (t:TypeId) (x y:Operand) (a b:Option Addr) (n c n' c':Nat) (w:World):(eqGuard op t x y (.slice a n c) (.slice b n' c')).run P w=.ok () w:=by cases op <;> rfl
theorem an.SJ {ν:Nu} {a:Option Addr} {n c:Nat} {z:Value} (h:an ν (.slice a n c) z):∃ a' n' c',z=.slice a' n' c'∧a'.isNone=a.isNone:=by
 cases h with
 | iF=>exact ⟨none,0,0,rfl,rfl⟩
 | slice id row n c c' l h hc hn hr=>exact ⟨_,_,_,rfl,rfl⟩
 | void id row c a hc=>exact ⟨_,_,_,rfl,rfl⟩
 | lK id row m n c' l h hm hn hr=>exact ⟨_,_,_,rfl,rfl⟩
 | kG id row a=>exact ⟨_,_,_,rfl,rfl⟩
theorem z7 {t e:TypeId} (hu:P.underlying t=some (.slice e)) (a:Option Addr) (n c:Nat) (w:World):(Op.equal t (.slice a n c) (.slice none 0 0)).run P w=.ok a.isNone w:=by
 show (Op.equalIn (9999+1) t (.slice a n c) (.slice none 0 0)).run P w=_
 rw [Op.equalIn]
 simp only [Sem.run_bind,dE hu,Result.andThen_ok]
 cases a <;> rfl
theorem TY {ti:TI} {op:BinOp} {t:TypeId} {a:Option Addr} (hu:∀ e,ti.kind=.slice e→P.underlying t=some (.slice e)) (h:Fm ti.kind op a k) :
  ∃ z,k z none∧cO z=true∧∀ (a':Option Addr) (n c:Nat) w,a'.isNone=a.isNone→(binOp op t (.slice a' n c) (.slice none 0 0)).run P w=.ok z w:=by
 unfold Fm at h
 split at h
 ·rename_i e hk
  refine ⟨_,h,rfl,fun a' n c w ha=>?_⟩
  rw [(rf (by simp) (by simp) (by simp) (by simp) (by simp) (z7 (hu _ hk) a' n c w)).1,ha]; rfl
 ·rename_i e b hk
  refine ⟨_,h,rfl,fun a' n c w ha=>?_⟩
  rw [(rf (by simp) (by simp) (by simp) (by simp) (by simp) (z7 (hu _ hk) a' n c w)).1,ha]; rfl
 ·rename_i e hk
  refine ⟨_,h,rfl,fun a' n c w ha=>?_⟩
  rw [(rf (by simp) (by simp) (by simp) (by simp) (by simp) (z7 (hu _ hk) a' n c w)).2,ha]; rfl
 ·rename_i e b hk
  refine ⟨_,h,rfl,fun a' n c w ha=>?_⟩
  rw [(rf (by simp) (by simp) (by simp) (by simp) (by simp) (z7 (hu _ hk) a' n c w)).2,ha]; rfl
 ·exact h.elim
theorem Ka (hT:∀ t ti,tt t=some ti→aB P t ti) {eqs:List TypeId} (hE:∀ t∈eqs,∀ ti,tt t=some ti→wS P t ti.zero) {op:BinOp} {t ty:TypeId} {x y:Operand} (h:Ce tt eqs tmps op t x y k):∃ v,k v none∧∀ bw,pH P bw (.binOp op t x y ty) tmps v:=by
 obtain ⟨xv,J,hx⟩:=cX h
 clear h
 obtain ⟨yv,h,hy⟩:=cX J
 clear J
 split at h
 ·obtain ⟨z,hk,hs,hr⟩:=TU (P:=P) (t:=t) h
  refine ⟨_,hk,fun bw=>⟨by simp,fun o ν a w hle ho ha=>⟨_,an.j3 hs,?_⟩⟩⟩
  exact x4 ho (hx ν a (ha x (by simp [Op.operands]))).fO (hy ν a (ha y (by simp [Op.operands]))).fO (SF ..) (hr w)
 ·obtain ⟨z,hk,hs,hr⟩:=TW (P:=P) (t:=t) h
  refine ⟨_,hk,fun bw=>⟨by simp,fun o ν a w hle ho ha=>⟨_,an.j3 hs,?_⟩⟩⟩
  exact x4 ho (hx ν a (ha x (by simp [Op.operands]))).rr (hy ν a (ha y (by simp [Op.operands]))).rr (SG ..) (hr w)
 ·obtain ⟨ti,ht,h⟩:=cT h
  obtain ⟨d,hu,hd⟩:=(hT _ _ ht).under
  obtain ⟨z,hk,hs,hr⟩:=SH (P:=P) (t:=t) (fun hk=>by rw [hk] at hd; have hd:d=.bool:=hd; rw [hu,hd]) h
  refine ⟨_,hk,fun bw=>⟨by simp,fun o ν a w hle ho ha=>⟨_,an.j3 hs,?_⟩⟩⟩
  exact x4 ho (hx ν a (ha x (by simp [Op.operands]))).j5 (hy ν a (ha y (by simp [Op.operands]))).j5 (Rj ..) (hr w)
 ·rename_i xs ys
  obtain ⟨ti,ht,h⟩:=cT h
  obtain ⟨z,hk,hs,h1,J,hr⟩:=TX (xs:=xs.toList) (ys:=ys.toList) (zero:=[]) hE ht h
  refine ⟨_,hk,fun bw=>⟨by simp,fun o ν a w hle ho ha=>⟨_,an.j3 hs,?_⟩⟩⟩
  obtain ⟨mY,w9,p8⟩:=an.tB (xs:=xs.toList) (hx ν a (ha x (by simp [Op.operands])))
  obtain ⟨dn,oN,p9⟩:=an.tB (xs:=ys.toList) (hy ν a (ha y (by simp [Op.operands])))
  rw [bh.j4 h1 p8] at w9
  rw [bh.j4 J p9] at oN
  exact x4 ho w9 oN ((hr w).2 x y) (hr w).1
 ·rename_i b n c
  obtain ⟨ti,ht,h⟩:=cT h
  obtain ⟨d,hu,hd⟩:=(hT _ _ ht).under
  obtain ⟨z,hk,hs,hr⟩:=TY (P:=P) (t:=t) (fun e hk=>by rw [hk] at hd; have hd:d=.slice e:=hd; rw [hu,hd]) h
  refine ⟨_,hk,fun bw=>⟨by simp,fun o ν a w hle ho ha=>⟨_,an.j3 hs,?_⟩⟩⟩
  obtain ⟨a1,n1,c1,e1,h1⟩:=(hx ν a (ha x (by simp [Op.operands]))).SJ
  have e2:a.eval y=.slice none 0 0:=by
   have J:=hy ν a (ha y (by simp [Op.operands]))
   generalize a.eval y=z at J
   cases J
   rfl
  exact x4 ho e1 e2 (QO ..) (hr a1 n1 c1 w h1)
 ·exact h.elim
theorem aav (hT:∀ t ti,tt t=some ti→aB P t ti) {eqs:List TypeId} (hE:∀ t∈eqs,∀ ti,tt t=some ti→wS P t ti.zero) {op:BinOp} {t ty:TypeId} {x y:Operand} (h:Ce tt eqs tmps op t x y k):eX P (.binOp op t x y ty) tmps H aI k:=by
 obtain ⟨v,hk,hp⟩:=Ka hT hE (ty:=ty) h
 exact .value (by simp) hk fun o ν a w ho ha hH=>(hp ν).2 o ν a w ν.le_refl ho ha
theorem Mq {P:Program} {t:TypeId} {ty:TypeId} {d:TypeDesc} (hu:P.underlying t=some d) {x:Value} {m:Int} (w:World)
  (h:(∃ s,d=.string∧x=.string s∧m=s.size)∨(∃ e b n c,d=.slice e∧x=.slice b n c∧m=(n:Int))) :
  (Builtin.len_ #[t] ty #[x]).run P w=.ok (.int .i64 m) w:=by
 rcases h with ⟨s,rfl,rfl,rfl⟩ | ⟨e,b,n,c,rfl,rfl,rfl⟩ <;> simp [Builtin.len_,dE hu,goInt]
theorem M9 (hT:∀ t ti,tt t=some ti→aB P t ti) {c:Call} (hc:c.callee=.builtin .len) {t:TypeId} {x:Operand} (hx:c.args=#[x]) (ht:c.argTypes=#[t]) (h:G1 tmps tt t x k):rQ P (.call c) tmps H k:=by
 obtain ⟨xv,J,hv⟩:=cX h
 clear h
 obtain ⟨ti,HJ,h⟩:=cT J
 clear J
 obtain ⟨d,hu,hd⟩:=(hT _ _ HJ).under
 split at h
 ·rename_i s hk
  rw [hk] at hd
  refine .value (by simp) h fun o ν a w ho ha hH=>⟨_,.int _ _,?_⟩
  have hv:=hv ν a (ha x (by simp [Op.operands,Call.operands,hc,hx]))
  have hr:=Mq (P:=P) (ty:=o.type) hu w (.inl ⟨_,hd,hv.rr,rfl⟩)
  simp [execOp,ho,resolve,hc,hx,ht,invoke,builtin,hr]
 ·rename_i e b m c hk
  rw [hk] at hd
  refine .value (by simp) h fun o ν a w ho ha hH=>⟨_,.int _ _,?_⟩
  obtain ⟨b',c',he⟩:=(hv ν a (ha x (by simp [Op.operands,Call.operands,hc,hx]))).aau
  have hr:=Mq (P:=P) (ty:=o.type) hu w (.inr ⟨_,_,_,_,hd,he,rfl⟩)
  simp [execOp,ho,resolve,hc,hx,ht,invoke,builtin,hr]
 ·exact h.elim
theorem aaw (hT:∀ t ti,tt t=some ti→aB P t ti) {c:Call} (hc:c.callee=.builtin .len) {t:TypeId} {x:Operand} (hx:c.args=#[x]) (ht:c.argTypes=#[t]) (h:G1 tmps tt t x k):eX P (.call c) tmps H aI k:=(M9 hT hc hx ht h).ok
theorem aax {c:Call} (hc:c.callee=.builtin .max) {x y:Operand} (hx:c.args=#[x,y]) (h:N8 tmps x y k):eX P (.call c) tmps H aI k:=by
 obtain ⟨xv,J,h1⟩:=cX h
 clear h
 obtain ⟨yv,h,J⟩:=cX J
 split at h
 ·refine .value (by simp) h fun o ν a w ho ha hH=>⟨_,.int _ _,?_⟩
  have h1:=(h1 ν a (ha x (by simp [Op.operands,Call.operands,hc,hx]))).fO
  have J:=(J ν a (ha y (by simp [Op.operands,Call.operands,hc,hx]))).fO
  simp [execOp,ho,resolve,hc,hx,invoke,builtin,Builtin.max_,h1,J,Builtin.max2]
 ·exact h.elim
theorem aay {c:Call} (hc:c.callee=.builtin .min) {x y:Operand} (hx:c.args=#[x,y]) (h:N9 tmps x y k):eX P (.call c) tmps H aI k:=by
 obtain ⟨xv,J,h1⟩:=cX h
 clear h
 obtain ⟨yv,h,J⟩:=cX J
 split at h
 ·refine .value (by simp) h fun o ν a w ho ha hH=>⟨_,.int _ _,?_⟩
  have h1:=(h1 ν a (ha x (by simp [Op.operands,Call.operands,hc,hx]))).fO
  have J:=(J ν a (ha y (by simp [Op.operands,Call.operands,hc,hx]))).fO
  simp [execOp,ho,resolve,hc,hx,invoke,builtin,Builtin.min_,h1,J,Builtin.min2]
 ·exact h.elim
/-- A struct laid out of its fields. -/
theorem DZ {fs:List (Nat × Nat × Bool)}
  {Bu:Nat→Option (Nat × Nat)} (hp:∀ (i:Nat) x,fs[i]?=some x→Bu i=some (x.1,x.2.1)) :
  ∀ {ps:List (Nat × Operand)} {cs:List Value} {k:List Value→Prop},BK tmps fs ps cs k →
  ∃ ds,k ds∧∀ (ν:Nu) (a:Act),(∀ p∈ps,fk ν tmps a p.2)→∀ (eL:List Value),bh ν cs eL→∃ sh,bh ν ds sh∧Instr.fill Bu ⟨eL⟩ (ps.map fun p=>(p.1,a.eval p.2))=some ⟨sh⟩
 | [],cs,k,h=>⟨cs,h,fun ν a _ eL hc=>⟨eL,hc,rfl⟩⟩
 | p::ps,cs,k,h=>by
  obtain ⟨v,J,hv⟩:=cX h
  clear h
  have h:=Ai J
  clear J
  obtain ⟨x,hx,J⟩:=Aj h
  clear h
  split at J
  ·rename_i bg
   obtain ⟨hl,h1⟩:=xw bg
   obtain ⟨cs2,h3,iX,hle,oO,wT⟩:=xJ J
   obtain ⟨ds,k1,k0⟩:=DZ hp h3
   refine ⟨ds,k1,fun ν a ha eL hc=>?_⟩
   have uC:=(hv ν a (ha p (by simp))).cells
   -- the same cells written over in the real struct
   have Gs:∀ (us:List Value) (o:Nat) (acc:List Value) (m:Nat),((us.zipIdx m).foldl (fun cs (c,j)=>cs.setIfInBounds (o+j) c) (⟨acc⟩:Array Value)).size=acc.length ∧
     ∀ j,((us.zipIdx m).foldl (fun cs (c,j)=>cs.setIfInBounds (o+j) c) (⟨acc⟩:Array Value))[j]?=if j < acc.length∧o+m≤j∧j < o+m+us.length then us[j - (o+m)]? else acc[j]?:=by
    intro us
    induction us with
    | nil =>
     intro o acc m
     refine ⟨by simp,fun j=>?_⟩
     simp
     intros
     omega
    | cons u us ih =>
     intro o acc m
     simp only [List.zipIdx_cons,List.foldl_cons]
     have e:(⟨acc⟩:Array Value).setIfInBounds (o+m) u=⟨acc.set (o+m) u⟩:=by apply Array.ext'; simp
     rw [e]
     obtain ⟨i1,i2⟩:=ih o (acc.set (o+m) u) (m+1)
     refine ⟨by rw [i1]; simp,fun j=>?_⟩
     rw [i2 j]
     simp only [List.length_set,List.length_cons]
     by_cases hj:j < acc.length
     ·by_cases h1:o+(m+1)≤j∧j < o+(m+1)+us.length
      ·rw [if_pos ⟨hj,h1⟩,if_pos ⟨hj,by omega,by omega⟩]
       rw [show j - (o+m)=(j - (o+(m+1)))+1 by omega]; simp
      ·rw [if_neg (by omega)]
       by_cases J:j=o+m
       ·subst J
        rw [if_pos ⟨hj,by omega,by omega⟩]
        simp [List.getElem?_set,hj]
       ·rw [if_neg (by omega),List.getElem?_set_ne (by omega)]
     ·rw [if_neg (by omega),if_neg (by omega)]
      rw [List.getElem?_eq_none (by simp; omega),List.getElem?_eq_none (by omega)]
   obtain ⟨f1,f2⟩:=Gs (a.eval p.2).cells.toList x.1 eL 0
   generalize G4:(((a.eval p.2).cells.toList.zipIdx 0).foldl (fun cs (c,j)=>cs.setIfInBounds (x.1+j) c) (⟨eL⟩:Array Value))=G at f1 f2
   have G5:bh ν cs2 G.toList:=by
    refine ⟨by rw [iX,hc.1]; simpa using f1.symm,fun j y z hy hz=>?_⟩
    rw [Array.getElem?_toList,f2 j] at hz
    split at hz
    ·rename_i hj
     have ak:j - (x.1+0) < v.cells.toList.length:=by rw [uC.1]; omega
     have:=oO (j - (x.1+0)) _ (List.getElem?_eq_getElem ak)
     rw [show x.1+(j - (x.1+0))=j by omega] at this
     rw [this] at hy; cases hy
     exact uC.2 _ _ _ (List.getElem?_eq_getElem ak) hz
    ·rename_i hj
     have aaz:=wT j (by
      have HK:j < eL.length:=(List.getElem?_eq_some_iff.1 hz).1
      have:=uC.1
      omega)
     rw [aaz] at hy
     exact hc.2 _ _ _ hy hz
   obtain ⟨sh,k2,k3⟩:=k0 ν a (fun q hq=>ha q (by simp [hq])) _ G5
   refine ⟨sh,k2,?_⟩
   have tN:(a.eval p.2).cells.size=x.2.1:=by rw [← Array.length_toList,← uC.1,hl]
   simp only [List.map_cons,Instr.fill,hp p.1 x hx]
   rw [if_neg]
   ·have:(((a.eval p.2).cells.zipIdx).foldl (fun cs (c,j)=>cs.setIfInBounds (x.1+j) c) (⟨eL⟩:Array Value))=⟨G.toList⟩:=by
     rw [← G4,← Array.foldl_toList]
     simp
    rw [this]
    exact k3
   ·have:((⟨eL⟩:Array Value).size)=cs.length:=by simp [hc.1]
    simp only [tN,this]
    simp
    omega
  ·exact J.elim
theorem KT {sz:Nat}:∀ {n off i:Nat} {x:Nat × Nat × Bool},(wA sz off n)[i]?=some x→x.1=off+i*sz∧x.2.1=sz
 | 0,off,i,x,h=>by simp [wA] at h
 | n+1,off,0,x,h=>by simp [wA] at h; subst h; simp
 | n+1,off,i+1,x,h=>by
  obtain ⟨h1,J⟩:=KT (n:=n) (off:=off+sz) (i:=i) (by simpa [wA] using h)
  exact ⟨by rw [h1,Nat.succ_mul]; omega,J⟩
theorem Vy (hT:∀ t ti,tt t=some ti→aB P t ti) {t:TypeId} {ps:Array (Nat × Operand)} (h:M7 tt tmps t ps.toList k):eX P (.build t ps) tmps H aI k:=by
 obtain ⟨ti,ht,J⟩:=cT h
 clear h
 have bg:=hT _ _ ht
 obtain ⟨d,hu,hd⟩:=bg.under
 obtain ⟨i,hi,_,_,z,hz,il⟩:=bg.info
 split at J
 ·rename_i fs hk
  rw [hk] at hd
  obtain ⟨fields,rfl,bn,hf⟩:=hd
  -- the places that the model reckons
  have ab4:∀ (w:World) (l:List Field) (m:List (Nat × Nat × Bool)),l.length=m.length→(∀ (i:Nat) f x,l[i]?=some f→m[i]?=some x→x0 P f x) →
    (l.mapM (m:=Sem) fun f=>do pure (f.offset,← sizeOf f.type)).run P w=.ok (m.map fun x=>(x.1,x.2.1)) w:=by
   intro w l
   induction l with
   | nil=>intro m hl _; cases m with
    | nil=>rfl
    | cons=>simp at hl
   | cons f l ih =>
    intro m hl hf
    cases m with
    | nil=>simp at hl
    | cons x m =>
     obtain ⟨h1,J,⟨i,h3,h4⟩,_⟩:=hf 0 f x rfl rfl
     have ih:=ih m (by simpa using hl) (fun i f' x' h h'=>hf (i+1) f' x' (by simpa using h) (by simpa using h'))
     simp only [List.mapM_cons,Sem.run_bind,gr h3,Result.andThen_ok,Sem.run_pure,ih,List.map_cons,h1,h4]
  obtain ⟨ds,k1,k0⟩:=DZ (Bu:=((fs.map fun x=>(x.1,x.2.1)).toArray[·]?)) (fun i x hx=>by simp [hx]) J
  refine .value (by simp) k1 fun o ν a w ho ha hH=>?_
  have hm:=ab4 w fields.toList fs (by simpa using bn) (fun i f x h h'=>hf i f x (by simpa using h) h')
  obtain ⟨sh,k2,k3⟩:=k0 ν a (fun p hp=>ha p.2 (by simp [Op.operands]; exact ⟨p.1,by simpa using hp⟩)) _ (bg.self ν)
  refine ⟨.agg ⟨sh⟩,.agg _ _ k2.1 k2.2,?_⟩
  simp only [execOp,ho,Instr.build,Sem.run_bind,ve hi hz,Result.andThen_ok,dE hu,il]
  have HL:(fields.mapM (m:=Sem) fun f=>do pure (f.offset,← sizeOf f.type)).run P w=.ok (fs.map fun x=>(x.1,x.2.1)).toArray w:=by
   rw [Array.mapM_eq_mapM_toList]
   simp only [Sem.run_map,hm,Result.andThen_ok]
  simp only [HL,Sem.run_bind,Result.andThen_ok]
  have e:(ps.map fun x=>(x.1,a.eval x.2)).toList=ps.toList.map fun p=>(p.1,a.eval p.2):=by simp
  have e2:(ps.map fun (x:Nat × Operand)=>match x with | (i,x)=>(i,a.eval x))=(ps.map fun x=>(x.1,a.eval x.2)):=rfl
  rw [e2,e,k3]
  rfl
 ·rename_i n e hk
  rw [hk] at hd
  have hd:d=.array n e:=hd
  subst hd
  obtain ⟨te,he,h⟩:=cT J
  obtain ⟨ei,fC,iY,_⟩:=(hT _ _ he).info
  obtain ⟨ds,k1,k0⟩:=DZ (Bu:=fun i=>some (i*ei.size,ei.size)) (fun i x hx=>by
   obtain ⟨h1,J⟩:=KT hx
   rw [h1,J,iY,Nat.zero_add]) h
  refine .value (by simp) k1 fun o ν a w ho ha hH=>?_
  obtain ⟨sh,k2,k3⟩:=k0 ν a (fun p hp=>ha p.2 (by simp [Op.operands]; exact ⟨p.1,by simpa using hp⟩)) _ (bg.self ν)
  refine ⟨.agg ⟨sh⟩,.agg _ _ k2.1 k2.2,?_⟩
  simp only [execOp,ho,Instr.build,Sem.run_bind,ve hi hz,Result.andThen_ok,dE hu,il,gr fC]
  have e:(ps.map fun x=>(x.1,a.eval x.2)).toList=ps.toList.map fun p=>(p.1,a.eval p.2):=by simp
  have e2:(ps.map fun (x:Nat × Operand)=>match x with | (i,x)=>(i,a.eval x))=(ps.map fun x=>(x.1,a.eval x.2)):=rfl
  rw [e2,e,k3]
  rfl
 ·exact J.elim
end
end Go.Ae
/- The abstract operations stand for the model's: slices that are made, literals of slices, strings and bytes. -/
namespace Go.Ae
open Go Go.RowKit
section
variable {P:Program} {tt:TT} {w:World} {ν:Nu} {aI:Nat} {k:QK} {tmps:List Value} {H:ax}
theorem Jj (z:Array Value) (n j:Nat) (h:j < n) (hz:0 < z.size):(madeCells z n)[j]?=z[j % z.size]?:=by
 unfold madeCells
 rw [Array.getElem?_map,Array.getElem?_range,if_pos h]
 simp only [Option.map_some]
 have:j % z.size < z.size:=Nat.mod_lt _ hz
 rw [Array.getElem?_eq_getElem this]
 simp [this]
theorem Fo (r e j:Nat) (h:j < e):(r*e+j) % e=j:=by
 rw [Nat.add_comm,Nat.add_mul_mod_self_right,Nat.mod_eq_of_lt h]
theorem QP (hT:∀ t ti,tt t=some ti→aB P t ti) {t:TypeId} {x y:Operand} (h:J7 tt tmps t x y aI k):eX P (.makeSlice t x y) tmps H aI k:=by
 obtain ⟨xv,J,hx⟩:=cX h
 clear h
 obtain ⟨yv,h,hy⟩:=cX J
 clear J
 obtain ⟨ti,ht,J⟩:=cT h
 clear h
 obtain ⟨d,hu,hd⟩:=(hT _ _ ht).under
 split at J
 ·rename_i e hk
  rw [hk] at hd
  have hd:d=.slice e:=hd
  subst hd
  obtain ⟨te,he,h⟩:=cT J
  clear J
  have bg:=hT _ _ he
  obtain ⟨i,hi,gy,mZ,z,hz,il⟩:=bg.info
  split at h
  ·rename_i q n q' m c7
   obtain ⟨⟨b0,b1,b2⟩,h⟩:=h
   refine ⟨_,_,h,fun o ν a w r nn ho ha hH hn next Q hN=>?_⟩
   have hx:=(hx ν a (ha x (by simp [Op.operands]))).fO
   have hy:=(hy ν a (ha y (by simp [Op.operands]))).fO
   have lz:=bg.bit
   have hm1:m≤m*te.bytes:=by
    have:m*1≤m*(te.bytes:Int):=Int.mul_le_mul_of_nonneg_left (by omega) (by omega)
    omega
   have bF:=run_make (P:=P) w t e i z hu hi hz q q' n m b0 b1 (by rw [mZ,Int.mul_comm]; omega) (by omega)
   refine jD (w':=w.alloc (.cells (madeCells z.cells (m.toNat*i.size)) e)) (v':=.slice (some ⟨w.heap.size,0,none⟩) n.toNat m.toNat) (by simp [ho]) (by simp [execOp,ho,hx,hy,bF]) next Q
    (hN _ _ (ν.add aI ⟨w.heap.size,0,te.size,m.toNat⟩) (mG hn ?_ (xE _ _) (Nat.le_refl _) ?_))
   ·have dD:(w.alloc (.cells (madeCells z.cells (m.toNat*i.size)) e)).heap[w.heap.size]?=some (.cells (madeCells z.cells (m.toNat*i.size)) e (0,0)):=by show (w.heap.push _)[w.heap.size]?=_; simp
    have jv:z.cells.size=te.size:=by rw [il]; simpa using bg.len
    refine ⟨rfl,fun r hr=>bg.len,fun r hr j v hv=>⟨v,?_,an.j3 (dG c7 v (List.mem_of_getElem? hv))⟩,fun _ r hr v hv=>dG c7 v hv,fun r hr v hv=>bg.one v hv,fun _ _=>⟨_,_,dD,?_,?_⟩,(fun r h=>nomatch h),?_⟩
    ·have hr:r < n.toNat:=hr
     have hv:te.zero[j]?=some v:=hv
     have hj:j < te.size:=by rw [← bg.len]; exact (List.getElem?_eq_some_iff.1 hv).1
     simp only [Loc.at,World.cell?,Nat.zero_add]
     rw [dD]
     have ak:r*te.size+j < m.toNat*i.size:=by
      rw [gy]
      have:(r+1)*te.size≤m.toNat*te.size:=Nat.mul_le_mul_right _ (by omega)
      rw [Nat.add_mul] at this; omega
     simp only [Option.isSome_none,Bool.false_eq_true,if_false]
     rw [Jj _ _ _ ak (by omega),jv,Fo _ _ _ hj,il]
     simpa using hv
    ·simp [size_madeCells,gy]
    ·simp only [ai.n]; omega
    ·show w.heap.size < (w.alloc _).heap.size
     simp
   ·have:=an.slice (ν:=ν.add aI ⟨w.heap.size,0,te.size,m.toNat⟩) aI 0 n.toNat m.toNat m.toNat _ Nu.add_same (.inl rfl) (by omega) (by simp)
    simpa [Loc.at] using this
  ·exact h.elim
 ·exact J.elim
theorem KU:∀ {n:Nat} {r:List Value} {k:List (List Value)→Prop},G3 n r k→k (List.replicate n r)
 | 0,_,_,h=>h
 | n+1,r,k,h=>by have:=KU (n:=n) h; simpa [List.replicate_succ] using this
theorem JN:∀ {rs:List (List Value)} {n:Nat} {r:List Value} {k:List (List Value)→Prop},setRow rs n r k→n < rs.length∧k (rs.set n r)
 | [],_,_,_,h=>h.elim
 | _::rs,0,_,_,h=>⟨by simp,h⟩
 | q::rs,n+1,r,k,h=>by obtain ⟨h1,J⟩:=JN (rs:=rs) h; exact ⟨by simpa using h1,by simpa using J⟩
/-- Rows of a literal, and the model's cells for them. -/
def Ba (ν:Nu) (sz:Nat) (rows:List (List Value)) (C:Array Value):Prop :=
 C.size=rows.length*sz∧(∀ row∈rows,row.length=sz)∧∀ r j row v,rows[r]?=some row→row[j]?=some v→∃ v',C[r*sz+j]?=some v'∧an ν v v'
theorem JO {sz n:Nat}:∀ {ps:List (Nat × Operand)} {rows:List (List Value)} {k:List (List Value)→Prop},rowsOf tmps sz ps rows k→rows.length=n →
  ∃ iT,k iT∧iT.length=n∧((∀ row∈rows,∀ v∈row,v.oneCell'=true)→∀ row∈iT,∀ v∈row,v.oneCell'=true) ∧
   ∀ (ν:Nu) (a:Act),(∀ p∈ps,fk ν tmps a p.2)→∀ C,Ba ν sz rows C→∃ C',Ba ν sz iT C'∧Instr.fill (fun i=>some (i*sz,sz)) C (ps.map fun p=>(p.1,a.eval p.2))=some C'
 | [],rows,k,h,hl=>⟨rows,h,hl,fun h=>h,fun ν a _ C hC=>⟨C,hC,rfl⟩⟩
 | p::ps,rows,k,h,hl=>by
  obtain ⟨v,J,hv⟩:=cX h
  clear h
  have h:=Ai J
  clear J
  split at h
  ·rename_i bg
   obtain ⟨hlen,pS⟩:=xw bg
   obtain ⟨ak,J⟩:=JN h
   obtain ⟨iT,k1,k2,k3,k4⟩:=JO (n:=n) (ps:=ps) J (by rw [List.length_set]; exact hl)
   refine ⟨iT,k1,k2,fun h0=>k3 (fun row a9 u hu=>?_),fun ν a ha C hC=>?_⟩
   ·rcases List.mem_or_eq_of_mem_set a9 with h | h
    ·exact h0 row h u hu
    ·rw [h] at hu; exact pS u hu
   ·obtain ⟨c1,c2,c3⟩:=hC
    have uC:=(hv ν a (ha p (by simp))).cells
    have tN:(a.eval p.2).cells.size=sz:=by rw [← Array.length_toList,← uC.1,hlen]
    have Gs:∀ (us:List Value) (o:Nat) (acc:Array Value) (m:Nat),((us.zipIdx m).foldl (fun cs (c,j)=>cs.setIfInBounds (o+j) c) acc).size=acc.size ∧
      ∀ j,((us.zipIdx m).foldl (fun cs (c,j)=>cs.setIfInBounds (o+j) c) acc)[j]?=if j < acc.size∧o+m≤j∧j < o+m+us.length then us[j - (o+m)]? else acc[j]?:=by
     intro us
     induction us with
     | nil =>
      intro o acc m
      refine ⟨by simp,fun j=>?_⟩
      simp
      intros
      omega
     | cons u us ih =>
      intro o acc m
      simp only [List.zipIdx_cons,List.foldl_cons]
      obtain ⟨i1,i2⟩:=ih o (acc.setIfInBounds (o+m) u) (m+1)
      refine ⟨by rw [i1]; simp,fun j=>?_⟩
      rw [i2 j]
      simp only [Array.size_setIfInBounds,List.length_cons]
      by_cases hj:j < acc.size
      ·by_cases h1:o+(m+1)≤j∧j < o+(m+1)+us.length
       ·rw [if_pos ⟨hj,h1⟩,if_pos ⟨hj,by omega,by omega⟩]
        rw [show j - (o+m)=(j - (o+(m+1)))+1 by omega]; simp
       ·rw [if_neg (by omega)]
        by_cases J:j=o+m
        ·subst J
         rw [if_pos ⟨hj,by omega,by omega⟩]
         simp [hj]
        ·rw [if_neg (by omega),Array.getElem?_setIfInBounds_ne (by omega)]
      ·rw [if_neg (by omega),if_neg (by omega)]
       rw [Array.getElem?_eq_none (by simp; omega),Array.getElem?_eq_none (by omega)]
    obtain ⟨f1,f2⟩:=Gs (a.eval p.2).cells.toList (p.1*sz) C 0
    have eY:(a.eval p.2).cells.toList.length=sz:=by simpa using tN
    have hbound:(p.1+1)*sz≤rows.length*sz:=Nat.mul_le_mul_right _ ak
    rw [Nat.add_mul] at hbound
    have G4:(((a.eval p.2).cells.toList.zipIdx 0).foldl (fun cs (c,j)=>cs.setIfInBounds (p.1*sz+j) c) C)=((a.eval p.2).cells.zipIdx.foldl (fun cs (c,j)=>cs.setIfInBounds (p.1*sz+j) c) C):=by
     rw [← Array.foldl_toList]; simp
    have G5:Ba ν sz (rows.set p.1 v.cells.toList) ((a.eval p.2).cells.zipIdx.foldl (fun cs (c,j)=>cs.setIfInBounds (p.1*sz+j) c) C):=by
     rw [← G4]
     refine ⟨by rw [f1,c1,List.length_set],fun row a9=>?_,fun r j row u hr hj=>?_⟩
     ·rcases List.mem_or_eq_of_mem_set a9 with h | h
      ·exact c2 row h
      ·rw [h]; exact hlen
     ·rw [f2]
      have ac3:j < sz:=by
       have gG:=List.mem_of_getElem? hr
       have:row.length=sz:=by
        rcases List.mem_or_eq_of_mem_set gG with h | h
        ·exact c2 row h
        ·rw [h]; exact hlen
       rw [← this]; exact (List.getElem?_eq_some_iff.1 hj).1
      by_cases e:r=p.1
      ·subst e
       rw [List.getElem?_set_self ak] at hr
       cases hr
       rw [if_pos ⟨by omega,by omega,by omega⟩]
       rw [show p.1*sz+j - (p.1*sz+0)=j by omega]
       exact uC.get hj
      ·rw [List.getElem?_set_ne (Ne.symm e)] at hr
       have aK:¬ (p.1*sz+0≤r*sz+j∧r*sz+j < p.1*sz+0+(a.eval p.2).cells.toList.length):=by
        rw [eY]
        rcases Nat.lt_or_ge r p.1 with h | h
        ·have:(r+1)*sz≤p.1*sz:=Nat.mul_le_mul_right _ h
         rw [Nat.add_mul] at this; omega
        ·have:(p.1+1)*sz≤r*sz:=Nat.mul_le_mul_right _ (by omega)
         rw [Nat.add_mul] at this; omega
       rw [if_neg (fun h=>aK h.2)]
       exact c3 r j row u hr hj
    obtain ⟨C',q1,q2⟩:=k4 ν a (fun q hq=>ha q (by simp [hq])) _ G5
    refine ⟨C',q1,?_⟩
    simp only [List.map_cons,Instr.fill]
    rw [if_neg]
    ·exact q2
    ·simp only [tN]
     simp
     omega
  ·exact h.elim
theorem QQ {ah:Nat} {rows:List (List Value)} {k:ai→Prop} (h:FY ah rows k):∃ b,k b∧∀ (ν:Nu) (l:Loc) (w:World),bQ ν l (.aQ true ah rows) w→bQ ν l b w:=by
 unfold FY at h
 split at h
 ·refine ⟨_,h,fun ν l w hB=>⟨hB.ah,fun r hr=>absurd hr (Nat.not_lt_zero r),fun r hr=>absurd hr (Nat.not_lt_zero r),fun _ r hr=>absurd hr (Nat.not_lt_zero r),fun r hr=>absurd hr (Nat.not_lt_zero r),fun _ _=>?_,(fun r h=>nomatch h),hB.live⟩⟩
  obtain ⟨cur,t,h1,J,_⟩:=hB.own rfl rfl
  exact ⟨cur,t,h1,J,Nat.zero_le _⟩
 ·exact ⟨_,h,fun ν l w hB=>hB⟩
theorem Qp (hT:∀ t ti,tt t=some ti→aB P t ti) {t:TypeId} {n:Nat} {ps:Array (Nat × Operand)} (h:JM tt tmps t n ps.toList aI k):eX P (.buildSlice t n ps) tmps H aI k:=by
 obtain ⟨ti,ht,J⟩:=cT h
 clear h
 obtain ⟨d,hu,hd⟩:=(hT _ _ ht).under
 split at J
 ·rename_i e hk
  rw [hk] at hd
  have hd:d=.slice e:=hd
  subst hd
  obtain ⟨te,he,h⟩:=cT J
  clear J
  have bg:=hT _ _ he
  obtain ⟨i,hi,gy,mZ,z,hz,il⟩:=bg.info
  split at h
  ·rename_i rR
   have rR:=Nat.le_of_ble_eq_true rR
   have h:=KU h
   obtain ⟨rows,k1,k2,k3,k4⟩:=JO (n:=n) h (by simp)
   obtain ⟨b,k1,kb⟩:=QQ k1
   refine ⟨_,_,k1,fun o ν a w r nn ho ha hH hn next Q hN=>?_⟩
   have jv:z.cells.size=te.size:=by rw [il]; simpa using bg.len
   -- the zero rows
   have y9:Ba ν te.size (List.replicate n te.zero) (madeCells z.cells (n*te.size)):=by
    refine ⟨by simp [size_madeCells],fun row a9=>by rw [(List.mem_replicate.1 a9).2]; exact bg.len,fun r j row v hr hj=>?_⟩
    have a9:=(List.mem_replicate.1 (List.mem_of_getElem? hr)).2
    subst a9
    have ab5:r < n:=by have:=(List.getElem?_eq_some_iff.1 hr).1; simpa using this
    have gn:j < te.size:=by rw [← bg.len]; exact (List.getElem?_eq_some_iff.1 hj).1
    have ak:r*te.size+j < n*te.size:=by
     have:(r+1)*te.size≤n*te.size:=Nat.mul_le_mul_right _ ab5
     rw [Nat.add_mul] at this; omega
    obtain ⟨v',h1,J⟩:=(bg.self ν).get hj
    rw [hj] at h1; cases h1
    exact ⟨v,by rw [Jj _ _ _ ak (by have:=bg.bit.1; omega),jv,Fo _ _ _ gn,il]; simpa using hj,J⟩
   obtain ⟨C',q1,q2⟩:=k4 ν a (fun p hp=>ha p.2 (by simp [Op.operands]; exact ⟨p.1,by simpa using hp⟩)) _ y9
   have bF:(execOp a.eval o).run P w=.ok (.value (.slice (some ⟨w.heap.size,0,none⟩) n n)) { w with heap:=w.heap.push (.cells C' e) }:=by
    have e1:(ps.map fun (x:Nat × Operand)=>match x with | (i,x)=>(i,a.eval x))=(ps.map fun x=>(x.1,a.eval x.2)):=rfl
    have e2:(ps.map fun x=>(x.1,a.eval x.2)).toList=ps.toList.map fun p=>(p.1,a.eval p.2):=by simp
    have OZ:¬ (n*te.size > 2 ^ 24):=by omega
    have CD:Instr.fill (fun i=>some (i*te.size,te.size)) ((Array.range (n*te.size)).map (z.cells[· % z.cells.size]!)) (ps.map fun x=>(x.1,a.eval x.2)).toList=some C':=by rw [e2]; exact q2
    simp only [execOp,ho,Instr.buildSlice,Sem.run_bind,dE hu,Result.andThen_ok,gr hi,gy,e1]
    rw [if_neg OZ]
    by_cases h0:n*te.size=0
    ·have e0:(Array.range (n*te.size)).map (z.cells[· % z.cells.size]!)=(Array.range (n*te.size)).map ((#[]:Array Value)[· % (#[]:Array Value).size]!):=by rw [h0]; simp
     rw [e0] at CD
     simp only [Sem.run_bind,Sem.run_ite,h0,if_true,Sem.run_pure,Result.andThen_ok,newRow,run_newObj]
     rw [h0] at CD
     simp only [CD,Sem.run_bind,Sem.run_pure,Result.andThen_ok,newRow,run_newObj]
    ·simp only [Sem.run_bind,Sem.run_ite,h0,if_false,Sem.run_pure,ve hi hz,Result.andThen_ok]
     simp only [CD,Sem.run_bind,Sem.run_pure,Result.andThen_ok,newRow,run_newObj]
   have dD:({ w with heap:=w.heap.push (.cells C' e) }:World).heap[w.heap.size]?=some (.cells C' e (0,0)):=by simp
   obtain ⟨c1,c2,c3⟩:=q1
   refine jD (by simp [ho]) bF next Q (hN _ _ (ν.add aI ⟨w.heap.size,0,te.size,n⟩) (mG hn ?_ (xE _ _) (Nat.le_refl _) ?_))
   ·refine kb _ _ _ ⟨rfl,fun r hr=>?_,fun r hr j v hv=>?_,fun h=>by simp [ai.iR] at h,fun r hr v hv=>?_,fun _ _=>⟨_,_,dD,?_,?_⟩,(fun r h=>nomatch h),by simp⟩
    ·have hr:r < rows.length:=hr
     simp only [ai.row,List.getD,List.getElem?_eq_getElem hr,Option.getD_some]
     exact c2 _ (List.getElem_mem _)
    ·have hr:r < rows.length:=hr
     simp only [ai.row,List.getD,List.getElem?_eq_getElem hr,Option.getD_some] at hv
     obtain ⟨v',h1,J⟩:=c3 r j _ v (List.getElem?_eq_getElem hr) hv
     refine ⟨v',?_,J.mono (Nu.j6 hn)⟩
     simp only [Loc.at,World.cell?,Nat.zero_add]
     rw [dD]
     simpa using h1
    ·have hr:r < rows.length:=hr
     simp only [ai.row,List.getD,List.getElem?_eq_getElem hr,Option.getD_some] at hv
     exact k3 (fun row a9 u hu=>by rw [(List.mem_replicate.1 a9).2] at hu; exact bg.one u hu) _ (List.getElem_mem _) v hv
    ·simp [c1,k2]
    ·simp [ai.n,k2]
   ·have:=an.slice (ν:=ν.add aI ⟨w.heap.size,0,te.size,n⟩) aI 0 n n n _ Nu.add_same (.inl rfl) (Nat.le_refl _) (by simp)
    simpa [Loc.at] using this
  ·exact h.elim
 ·exact J.elim
end
end Go.Ae
/- The abstract operations stand for the model's: conversions; calls by contract. -/
namespace Go.Ae
open Go Go.RowKit
section
variable {P:Program} {tt:TT} {w:World} {ν:Nu} {aI:Nat} {k:QK} {tmps:List Value} {H:ax}
theorem foldl_push (ns:List Int):∀ r:ByteArray,ns.foldl (fun r n=>r.push (UInt8.ofNat n.toNat)) r=⟨r.data++(ns.map fun n=>UInt8.ofNat n.toNat).toArray⟩:=by
 induction ns with
 | nil=>intro r; simp
 | cons n ns ih=>intro r; rw [List.foldl_cons,ih]; simp [ByteArray.push]
theorem Rk {a:Addr} {c:Nat} (w:World):(Conv.bytesToString (.slice (some a) 0 c)).run P w=.ok (.string ⟨#[]⟩) w:=by
 rw [run_bytesToString w a 0 c [] (by simpa using run_loadCells_list (P:=P) w a [] (fun j v h=>by simp at h))]
 rfl
theorem SL (hT:∀ t ti,tt t=some ti→aB P t ti) {s d:TypeId} {x:Operand} (h:LA tt tmps H s d x aI k):eX P (.convert s d x) tmps H aI k:=by
 obtain ⟨xv,J,hx⟩:=cX h
 clear h
 obtain ⟨ts,hs,h⟩:=cT J
 clear J
 obtain ⟨td,hd,J⟩:=cT h
 clear h
 have h:=J
 clear J
 obtain ⟨ds,si,eO⟩:=(hT _ _ hs).under
 obtain ⟨dd,xc,dj⟩:=(hT _ _ hd).under
 split at h
 ·rename_i q q' m hk
  rw [hk] at dj
  have dj:dd=.int q:=dj
  subst dj
  split at h
  ·rename_i qs jw
   rw [jw] at eO
   have eO:ds=.int qs:=eO
   subst eO
   refine .value (by simp) h fun o ν a w ho ha hH=>⟨_,.int _ _,?_⟩
   have hx:=(hx ν a (ha x (by simp [Op.operands]))).fO
   simp [execOp,ho,hx,convert,dE si,dE xc,Conv.intToInt]
  ·exact h.elim
 ·rename_i s hk
  rw [hk] at dj
  have dj:dd=.string:=dj
  subst dj
  split at h
  ·rename_i jw
   rw [jw] at eO
   have eO:ds=.string:=eO
   subst eO
   refine .value (by simp) h fun o ν a w ho ha hH=>⟨_,.str _,?_⟩
   have hx:=(hx ν a (ha x (by simp [Op.operands]))).rr
   simp [execOp,ho,hx,convert,dE si,dE xc]
  ·exact h.elim
 ·rename_i id row n c hk
  rw [hk] at dj
  have dj:dd=.string:=dj
  subst dj
  split at h
  ·rename_i e jw
   rw [jw] at eO
   have eO:ds=.slice e:=eO
   subst eO
   obtain ⟨te,he,J⟩:=cT h
   clear h
   obtain ⟨de,xd,kj⟩:=(hT _ _ he).under
   split at J
   ·rename_i za
    rw [za] at kj
    have kj:de=.int .u8:=kj
    subst kj
    have ND:∀ (o:Oper) (ν:Nu) (a:Act) (w:World),o.op=.convert s d x→(∀ x'∈(Op.convert s d x).operands,fk ν tmps a x')→∃ ad c',a.eval x=.slice (some ad) n c'∧(0 < n→∃ l,ν id=some l∧ad=l.at row 0):=by
     intro o ν a w ho ha
     rcases (hx ν a (ha x (by simp [Op.operands]))).s5 with ⟨l,c',hl,hc,hn,hr,cF⟩ | ⟨hn,hc,bb,cF⟩
     ·exact ⟨_,_,cF,fun _=>⟨l,hl,rfl⟩⟩
     ·subst hn
      exact ⟨_,_,cF,fun h=>absurd h (by omega)⟩
    split at J
    ·refine .value (by simp) J fun o ν a w ho ha hH=>⟨_,.str _,?_⟩
     obtain ⟨ad,c',cF,_⟩:=ND o ν a w ho ha
     have:=run_convert_bytes_string (P:=P) w s d e (some ad) 0 c' si xd xc
     simp [execOp,ho,cF,this,Rk]
    ·rename_i m
     obtain ⟨b,hb,h⟩:=gA J
     clear J
     split at h
     ·rename_i G6
      obtain ⟨⟨hle,NF⟩,h⟩:=h
      refine .value (by simp) h fun o ν a w ho ha hH=>⟨_,.str _,?_⟩
      obtain ⟨ad,c',cF,hl⟩:=ND o ν a w ho ha
      obtain ⟨l,eM,rfl⟩:=hl (by omega)
      clear hl
      obtain ⟨l',cJ,hB⟩:=hH.aH id b hb
      rw [eM] at cJ; cases cJ
      have hc:=run_convert_bytes_string (P:=P) w s d e (some (l.at row 0)) (m+1) c' si xd xc
      let ns:List Int:=(List.range (m+1)).map fun r=>match b.row (row+r) with | .int _ x::_=>x | _=>0
      have Yj:(loadCells (l.at row 0) (m+1)).run P w=.ok (ns.map (Value.int .u8)).toArray w:=by
       have:=run_loadCells_list (P:=P) w (l.at row 0) (ns.map (Value.int .u8)) (fun j v hj=>by
        have gn:j < m+1:=by
         have:=(List.getElem?_eq_some_iff.1 hj).1
         simpa [ns] using this
        obtain ⟨y,hy⟩:=NF j gn
        obtain ⟨v',h1,J⟩:=hB.cell (row+j) (by omega) 0 (.int .u8 y) (by rw [hy]; rfl)
        have J:=J.fO
        subst J
        have hv:v=.int .u8 y:=by
         simp only [ns,List.map_map,List.getElem?_map,List.getElem?_range gn,Option.map_some,Function.comp,hy] at hj
         exact (Option.some.inj hj).symm
        rw [Loc.jH,hv,← h1]
        simp only [Loc.at,hB.ah,G6]
        congr 2
        omega)
       simpa [ns] using this
      have bF:=run_bytesToString (P:=P) w (l.at row 0) (m+1) c' ns Yj
      rw [foldl_push] at bF
      have e:(⟨ByteArray.empty.data++(ns.map fun n=>UInt8.ofNat n.toNat).toArray⟩:ByteArray)=⟨⟨bytesOf b.row row (m+1)⟩⟩:=by
       have e0:ByteArray.empty.data=#[]:=rfl
       rw [e0]
       congr 1
       simp only [Array.empty_append,bytesOf,ns,List.map_map]
       congr 1
       apply List.map_congr_left
       intro r hr
       obtain ⟨y,hy⟩:=NF r (List.mem_range.1 hr)
       simp [hy]
      rw [e] at bF
      simp [execOp,ho,cF,hc,bF]
     ·exact h.elim
   ·exact J.elim
  ·exact h.elim
 ·rename_i hk
  rw [hk] at dj
  have dj:dd=.string:=dj
  subst dj
  split at h
  ·rename_i e jw
   rw [jw] at eO
   have eO:ds=.slice e:=eO
   subst eO
   obtain ⟨te,he,J⟩:=cT h
   clear h
   obtain ⟨de,xd,kj⟩:=(hT _ _ he).under
   split at J
   ·rename_i za
    rw [za] at kj
    have kj:de=.int .u8:=kj
    subst kj
    refine .value (by simp) J fun o ν a w ho ha hH=>⟨_,.str _,?_⟩
    have hx:=(hx ν a (ha x (by simp [Op.operands]))).o9
    have:=run_convert_bytes_string (P:=P) w s d e none 0 0 si xd xc
    simp [execOp,ho,hx,this,Conv.bytesToString]
    rfl
   ·exact J.elim
  ·exact h.elim
 ·rename_i e str hk
  rw [hk] at dj
  have dj:dd=.slice e:=dj
  subst dj
  split at h
  ·rename_i jw
   rw [jw] at eO
   have eO:ds=.string:=eO
   subst eO
   obtain ⟨te,he,J⟩:=cT h
   clear h
   obtain ⟨de,xd,kj⟩:=(hT _ _ he).under
   split at J
   ·rename_i za
    rw [za] at kj
    have kj:de=.int .u8:=kj
    subst kj
    refine ⟨_,_,J,fun o ν a w r nn ho ha hH hn next Q hN=>?_⟩
    have hx:=(hx ν a (ha x (by simp [Op.operands]))).rr
    have bF:=run_bytes_of_string (P:=P) w s d e str si xc xd
    have eG:=grownCap_ge w str.size 0 e
    have hb:Below w.heap.size w (w.drew.alloc (.cells (bytesRow str (grownCap w str.size 0 e)) e ((bytesRow str (grownCap w str.size 0 e)).size,(bytesRow str (grownCap w str.size 0 e)).size+1))):=((Below.refl _ w).drew).alloc (Nat.le_refl _) _
    have aaA:(execOp a.eval o).run P w=.ok (.value (.slice (some ⟨w.heap.size,0,none⟩) str.size (grownCap w str.size 0 e))) (w.drew.alloc (.cells (bytesRow str (grownCap w str.size 0 e)) e ((bytesRow str (grownCap w str.size 0 e)).size,(bytesRow str (grownCap w str.size 0 e)).size+1))):=by
     simp [execOp,ho,hx,bF]
    refine jD (by simp [ho]) aaA next Q
     (hN _ _ (ν.add aI ⟨w.heap.size,0,1,grownCap w str.size 0 e⟩) (mG hn ?_ hb (Nat.le_refl _) ?_))
    ·have dD:(w.drew.alloc (.cells (bytesRow str (grownCap w str.size 0 e)) e ((bytesRow str (grownCap w str.size 0 e)).size,(bytesRow str (grownCap w str.size 0 e)).size+1))).heap[w.heap.size]?=some (.cells (bytesRow str (grownCap w str.size 0 e)) e ((bytesRow str (grownCap w str.size 0 e)).size,(bytesRow str (grownCap w str.size 0 e)).size+1)):=by
      show (w.heap.push _)[w.heap.size]?=_; simp
     refine ⟨rfl,fun r hr=>rfl,fun r hr j v hv=>⟨v,?_,an.j3 ?_⟩,fun _ r hr v hv=>?_,fun r hr v hv=>?_,fun h _=>by simp [ai.own] at h,(fun r h=>nomatch h),?_⟩
     ·have hr:r < str.size:=hr
      have hv:[Value.int .u8 (cf str r)][j]?=some v:=hv
      have hj:j=0:=by
       have:=(List.getElem?_eq_some_iff.1 hv).1
       simpa using this
      subst hj
      simp only [Loc.at,World.cell?,Nat.zero_add]
      rw [dD]
      simp only [Option.isSome_none,Bool.false_eq_true,if_false]
      have ak:r < str.data.size:=hr
      simp [bytesRow,cf] at hv ⊢
      rw [Array.getElem?_append_left (by simpa using ak)]
      have hg:str.data[r]?=some (str.data[r]'ak):=Array.getElem?_eq_getElem ak
      rw [hg] at hv
      rw [Array.getElem?_map,hg,← hv]
      rfl
     ·have hv:[Value.int .u8 (cf str r)][j]?=some v:=hv
      have:=List.mem_of_getElem? hv
      simp at this
      rw [this]; rfl
     ·have hv:v∈[Value.int .u8 (cf str r)]:=hv
      simp at hv; rw [hv]; rfl
     ·have hv:v∈[Value.int .u8 (cf str r)]:=hv
      simp at hv; rw [hv]; rfl
     ·show w.heap.size < (w.drew.alloc _).heap.size
      simp
    ·have:=an.slice (ν:=ν.add aI ⟨w.heap.size,0,1,grownCap w str.size 0 e⟩) aI 0 str.size aN (grownCap w str.size 0 e) _ Nu.add_same (.inr rfl) eG (by simp)
     simpa [Loc.at] using this
   ·exact J.elim
  ·exact h.elim
 ·exact h.elim
theorem aaB (hT:∀ t ti,tt t=some ti→aB P t ti) {c:Call} (hc:c.callee=.builtin .cap) {t:TypeId} {x:Operand} (hx:c.args=#[x]) (ht:c.argTypes=#[t]) (h:Oa tmps tt t x k):eX P (.call c) tmps H aI k:=by
 obtain ⟨xv,J,hv⟩:=cX h
 clear h
 obtain ⟨ti,HJ,h⟩:=cT J
 clear J
 obtain ⟨d,hu,hd⟩:=(hT _ _ HJ).under
 split at h
 ·rename_i e hk
  rw [hk] at hd
  have hd:d=.slice e:=hd
  subst hd
  refine .value (by simp) h fun o ν a w ho ha hH=>⟨_,.int _ _,?_⟩
  have he:=(hv ν a (ha x (by simp [Op.operands,Call.operands,hc,hx]))).o9
  simp [execOp,ho,resolve,hc,hx,ht,invoke,builtin,Builtin.cap_,run_underlying hu,he,goInt]
 ·exact h.elim
theorem wrap_small {m:Nat} (h:m≤140737488355328):IntKind.i64.wrap (m:Int)=(m:Int):=by
 have e:IntKind.i64.wrap (m:Int)=if (true && decide ((m:Int) % (2 ^ 64:Int) ≥ (2 ^ 63:Int)))=true then (m:Int) % (2 ^ 64:Int) - (2 ^ 64:Int) else (m:Int) % (2 ^ 64:Int):=rfl
 rw [e]
 simp only [Bool.true_and,decide_eq_true_eq]
 split <;> omega
theorem Qa {t u ty e:TypeId} {q:IntKind} {i:TypeInfo} {z:Value} (ht:P.underlying t=some (.slice e)) (hu:P.underlying u=some (.int q)) (hi:P.info? e=some i) (hz:i.zero=some z)
  {n:Int} (h0:0 < n) (O0:n*i.bytes≤140737488355328) (h63:n≤140737488355328) :
  (Builtin.append_ #[t,u] ty #[.slice none 0 0,.int .i64 n]).run P w =
   .ok (.slice (some ⟨w.heap.size,0,none⟩) n.toNat (grownCap w n.toNat 0 e))
    (w.drew.alloc (.cells ((if n.toNat*i.size=0 then #[] else Builtin.zeroCells z.cells n.toNat)++Builtin.zeroCells z.cells (grownCap w n.toNat 0 e - n.toNat)) e)):=by
 obtain ⟨m,rfl⟩:∃ m:Nat,n=m:=⟨n.toNat,by omega⟩
 have hw:IntKind.i64.wrap (m:Int)=(m:Int):=wrap_small (by omega)
 have hn:m≠0:=by omega
 have h1:¬ ((m:Int) < 0):=by omega
 have J:¬ (281474976710656 < (m:Int)*(i.bytes:Int)):=by omega
 have Ob:¬ (9223372036854775807 < (m:Int)):=by omega
 have Od:¬ (281474976710656 < Builtin.nextslicecap m 0*i.bytes):=by
  rw [nextslicecap_zero (by omega)]
  have O0:((m*i.bytes:Nat):Int)≤140737488355328:=by rw [Int.natCast_mul]; exact O0
  omega
 by_cases hs:m*i.size=0
 ·simp [Builtin.append_,run_underlying ht,run_underlying hu,sizeOf,typeInfo,zeroValue,hi,hz,asInt,asIntOf,hw,h1,J,hn,Ob,Od,Question.forced,newRow,grownCap,Builtin.firstCells,hs]
 ·simp [Builtin.append_,run_underlying ht,run_underlying hu,sizeOf,typeInfo,zeroValue,hi,hz,asInt,asIntOf,hw,h1,J,hn,Ob,Od,Question.forced,newRow,grownCap,Builtin.firstCells,hs]
theorem Jk (z:Array Value) (n j:Nat) (h:j < n*z.size) (hz:0 < z.size):(Builtin.zeroCells z n)[j]?=z[j % z.size]?:=by
 unfold Builtin.zeroCells
 rw [Array.getElem?_map,Array.getElem?_range,if_pos h]
 simp only [Option.map_some]
 have:j % z.size < z.size:=Nat.mod_lt _ hz
 rw [Array.getElem?_eq_getElem this]
 simp [this]
theorem Rl (hT:∀ t ti,tt t=some ti→aB P t ti) {c:Call} (hc:c.callee=.builtin .append) {t u:TypeId} {x y:Operand} (hx:c.args=#[x,y]) (zc:c.argTypes=#[t,u]) (h:KR tt tmps t u x y aI k):eX P (.call c) tmps H aI k:=by
 obtain ⟨xv,J,uD⟩:=cX h
 clear h
 obtain ⟨yv,h,uE⟩:=cX J
 clear J
 obtain ⟨ti,ht,J⟩:=cT h
 clear h
 obtain ⟨d,hu,hd⟩:=(hT _ _ ht).under
 split at J
 ·rename_i e hk
  rw [hk] at hd
  have hd:d=.slice e:=hd
  subst hd
  obtain ⟨te,he,h⟩:=cT J
  clear J
  obtain ⟨tu,htu,J⟩:=cT h
  clear h
  obtain ⟨du,huu,CE⟩:=(hT _ _ htu).under
  have bg:=hT _ _ he
  obtain ⟨i,hi,gy,mZ,z,hz,il⟩:=bg.info
  split at J
  ·rename_i q n hku c7
   rw [hku] at CE
   have CE:du=.int q:=CE
   subst CE
   obtain ⟨⟨b0,b1⟩,h⟩:=J
   refine ⟨_,_,h,fun o ν a w r nn ho ha hH hn next Q hN=>?_⟩
   have p6:=(uD ν a (ha x (by simp [Op.operands,Call.operands,hc,hx]))).o9
   have zd:=(uE ν a (ha y (by simp [Op.operands,Call.operands,hc,hx]))).fO
   have lz:=bg.bit.2
   have ze:n≤n*te.bytes:=by
    have:n*1≤n*(te.bytes:Int):=Int.mul_le_mul_of_nonneg_left (by omega) (by omega)
    omega
   have bF:=Qa (P:=P) (w:=w) (ty:=o.type) hu huu hi hz b0 (by rw [mZ]; exact b1) (by omega)
   have eG:=grownCap_ge w n.toNat 0 e
   have nM:∀ C:Array Value,Below w.heap.size w (w.drew.alloc (.cells C e)):=fun C=>((Below.refl _ w).drew).alloc (Nat.le_refl _) _
   have hpz:0 < te.size:=bg.bit.1
   have jv:z.cells.size=te.size:=by rw [il]; simpa using bg.len
   have hm:¬ (n.toNat*i.size=0):=by
    rw [gy]
    intro h0
    rcases Nat.mul_eq_zero.1 h0 with h | h <;> omega
   rw [if_neg hm] at bF
   generalize hC:Builtin.zeroCells z.cells n.toNat++Builtin.zeroCells z.cells (grownCap w n.toNat 0 e - n.toNat)=C at bF
   refine jD (w':=w.drew.alloc (.cells C e)) (v':=.slice (some ⟨w.heap.size,0,none⟩) n.toNat (grownCap w n.toNat 0 e)) (by simp [ho]) (by simp [execOp,ho,resolve,hc,hx,zc,invoke,builtin,p6,zd,bF]) next Q
    (hN _ _ (ν.add aI ⟨w.heap.size,0,te.size,grownCap w n.toNat 0 e⟩) (mG hn ?_ (nM _) (Nat.le_refl _) ?_))
   ·have CF:C.size=grownCap w n.toNat 0 e*te.size:=by
     rw [← hC,Array.size_append]
     simp only [Builtin.zeroCells,Array.size_map,Array.size_range,jv]
     rw [← Nat.add_mul]
     congr 1
     omega
    have dD:(w.drew.alloc (.cells C e)).heap[w.heap.size]?=some (.cells C e (0,0)):=by show (w.heap.push _)[w.heap.size]?=_; simp
    refine ⟨rfl,fun r hr=>bg.len,fun r hr j v hv=>⟨v,?_,an.j3 (dG c7 v (List.mem_of_getElem? hv))⟩,fun _ r hr v hv=>dG c7 v hv,fun r hr v hv=>bg.one v hv,fun _ _=>⟨_,_,dD,?_,?_⟩,(fun r h=>nomatch h),?_⟩
    ·have hr:r < n.toNat:=hr
     have hv:te.zero[j]?=some v:=hv
     have hj:j < te.size:=by rw [← bg.len]; exact (List.getElem?_eq_some_iff.1 hv).1
     simp only [Loc.at,World.cell?,Nat.zero_add]
     rw [dD]
     have ak:r*te.size+j < n.toNat*te.size:=by
      have:(r+1)*te.size≤n.toNat*te.size:=Nat.mul_le_mul_right _ (by omega)
      rw [Nat.add_mul] at this; omega
     simp only [Option.isSome_none,Bool.false_eq_true,if_false]
     rw [← hC,Array.getElem?_append_left (by simp only [Builtin.zeroCells,Array.size_map,Array.size_range,jv]; exact ak),Jk _ _ _ (by rw [jv]; exact ak) (by omega),jv,Fo _ _ _ hj,il]
     simpa using hv
    ·rw [CF]; simp
    ·simp only [ai.n]; omega
    ·show w.heap.size < (w.drew.alloc _).heap.size
     simp
   ·have:=an.slice (ν:=ν.add aI ⟨w.heap.size,0,te.size,grownCap w n.toNat 0 e⟩) aI 0 n.toNat aN (grownCap w n.toNat 0 e) _ Nu.add_same (.inr rfl) eG (by simp)
    simpa [Loc.at] using this
  ·exact J.elim
 ·exact J.elim
end
end Go.Ae
/- Calls by contract: the blocks of the arguments renumbered. -/
namespace Go.Ae
open Go Go.RowKit
section
variable {P:Program} {tt:TT} {Φ:yr} {w:World} {ν:Nu} {aI:Nat} {k:QK} {tmps:List Value} {H:ax}
def Nu.comp (ν:Nu) (τ:List Nat):Nu:=fun j=>(τ[j]?).bind ν
theorem D0 {τ:List Nat} {m:Nat} {x:Value} {xs l:List Value} (h:mi τ m (x::xs)=some l):∃ y ys,l=y::ys∧cP τ m x=some y∧mi τ m xs=some ys:=by
 unfold mi at h
 rw [List.foldr_cons] at h
 split at h
 ·rename_i y ys h1 J
  exact ⟨y,ys,(Option.some.inj h).symm,h1,J⟩
 ·cases h
theorem EK {τ:List Nat} {m:Nat} {l:List Value} (h:mi τ m []=some l):l=[]:=by
 simp [mi] at h; exact h
theorem s6 {τ:List Nat} {m:Nat} (h:∀ v v2 r,cP τ m v=some v2→an ν v2 r→an (ν.comp τ) v r):∀ {xs l rs:List Value},mi τ m xs=some l→bh ν l rs→bh (ν.comp τ) xs rs
 | [],l,rs,h1,J=>by rw [EK h1] at J; rw [J.iP]; exact .nil _
 | x::xs,l,rs,h1,J=>by
  obtain ⟨y,ys,rfl,e1,e2⟩:=D0 h1
  obtain ⟨r,cj,rfl,k1,k2⟩:=J.jg
  exact .cons (h _ _ _ e1 k1) (s6 h e2 k2)
theorem xO {τ:List Nat} {m:Nat} (h:∀ v v2 r,cP τ m v=some v2→an (ν.comp τ) v r→an ν v2 r):∀ {xs l rs:List Value},mi τ m xs=some l→bh (ν.comp τ) xs rs→bh ν l rs
 | [],l,rs,h1,J=>by rw [EK h1]; rw [J.iP]; exact .nil _
 | x::xs,l,rs,h1,J=>by
  obtain ⟨y,ys,rfl,e1,e2⟩:=D0 h1
  obtain ⟨r,cj,rfl,k1,k2⟩:=J.jg
  exact .cons (h _ _ _ e1 k1) (xO h e2 k2)
theorem vE {τ:List Nat}:∀ (m:Nat) (v v2 r:Value),cP τ m v=some v2→an ν v2 r→an (ν.comp τ) v r:=by
 intro m
 induction m with
 | zero=>intro v v2 r h; simp [cP] at h
 | succ m ih =>
  intro v v2 r h hr
  unfold cP at h
  split at h
  ·cases h; rw [hr.j4 rfl]; exact .bool _
  ·cases h; rw [hr.j4 rfl]; exact .int _ _
  ·cases h; rw [hr.j4 rfl]; exact .str _
  ·cases h; cases hr; exact .mg
  ·split at h
   ·rename_i uB e
    cases h
    obtain ⟨l,h1,rfl⟩:=hr.om
    exact .ptr _ _ _ l (by simp [Nu.comp,e,h1])
   ·cases h
  ·cases h; cases hr; exact .iF
  ·split at h
   ·rename_i uB e
    cases h
    rcases hr.s5 with ⟨l,c',h1,J,h3,h4,rfl⟩ | ⟨rfl,J,b,rfl⟩
    ·exact .slice _ _ _ _ _ l (by simp [Nu.comp,e,h1]) J h3 h4
    ·exact .void _ _ _ _ J
   ·cases h
  ·cases h; cases hr; exact .mh
  ·split at h
   ·rename_i l l' e
    cases h
    obtain ⟨ys,rfl,hy⟩:=hr.tB
    have:=s6 ih e hy
    exact .agg _ _ this.1 this.2
   ·cases h
  ·split at h
   ·rename_i l l' e
    cases h
    obtain ⟨ys,rfl,hy⟩:=hr.np
    have:=s6 ih e hy
    exact .tuple _ _ this.1 this.2
   ·cases h
  ·split at h
   ·rename_i l1 l2 l1' l2' e1 e2
    cases h
    obtain ⟨ys,dn,rfl,hy,zd⟩:=hr.re
    have t1:=s6 ih e1 hy
    have t2:=s6 ih e2 zd
    exact .func _ _ _ _ _ t1.1 t1.2 t2.1 t2.2
   ·cases h
  ·cases h
theorem EL {τ:List Nat}:∀ (m:Nat) (v v2 r:Value),cP τ m v=some v2→an (ν.comp τ) v r→an ν v2 r:=by
 intro m
 induction m with
 | zero=>intro v v2 r h; simp [cP] at h
 | succ m ih =>
  intro v v2 r h hr
  unfold cP at h
  split at h
  ·cases h; rw [hr.j4 rfl]; exact .bool _
  ·cases h; rw [hr.j4 rfl]; exact .int _ _
  ·cases h; rw [hr.j4 rfl]; exact .str _
  ·cases h; cases hr; exact .mg
  ·split at h
   ·rename_i uB e
    cases h
    obtain ⟨l,h1,rfl⟩:=hr.om
    simp [Nu.comp,e] at h1
    exact .ptr _ _ _ l h1
   ·cases h
  ·cases h; cases hr; exact .iF
  ·split at h
   ·rename_i uB e
    cases h
    rcases hr.s5 with ⟨l,c',h1,J,h3,h4,rfl⟩ | ⟨rfl,J,b,rfl⟩
    ·simp [Nu.comp,e] at h1
     exact .slice _ _ _ _ _ l h1 J h3 h4
    ·exact .void _ _ _ _ J
   ·cases h
  ·cases h; cases hr; exact .mh
  ·split at h
   ·rename_i l l' e
    cases h
    obtain ⟨ys,rfl,hy⟩:=hr.tB
    have:=xO ih e hy
    exact .agg _ _ this.1 this.2
   ·cases h
  ·split at h
   ·rename_i l l' e
    cases h
    obtain ⟨ys,rfl,hy⟩:=hr.np
    have:=xO ih e hy
    exact .tuple _ _ this.1 this.2
   ·cases h
  ·split at h
   ·rename_i l1 l2 l1' l2' e1 e2
    cases h
    obtain ⟨ys,dn,rfl,hy,zd⟩:=hr.re
    have t1:=xO ih e1 hy
    have t2:=xO ih e2 zd
    exact .func _ _ _ _ _ t1.1 t1.2 t2.1 t2.2
   ·cases h
  ·cases h
/-- A block that serves a contract. -/
structure Bv (b c:ai):Prop extends aA b c where
 rc:b.rc=none
theorem DH {k:Prop}:∀ {σ:List Nat} {bs:List ai},yu H σ bs k→σ.length=bs.length∧(∀ (j s:Nat) (b:ai),σ[j]?=some s→bs[j]?=some b→∃ c,H[s]?=some (some c)∧Bv b c)∧k
 | [],[],h=>⟨rfl,fun j s b h=>by simp at h,h⟩
 | s::σ,b::bs,h=>by
  have iZ:b.rc=none∧gF H s fun c=>aA b c∧yu H σ bs k:=by
   cases b with
   | aQ o e r=>exact ⟨rfl,h⟩
   | flat o n e g=>exact ⟨rfl,h⟩
   | cm r=>exact h.elim
  obtain ⟨iZ,h⟩:=iZ
  obtain ⟨c,h1,J,h3⟩:=gA h
  obtain ⟨e1,e2,e3⟩:=DH h3
  refine ⟨by simp [e1],fun j s' b' hs hb=>?_,e3⟩
  cases j with
  | zero=>simp at hs hb; subst hs; subst hb; exact ⟨c,h1,J,iZ⟩
  | succ j=>exact e2 j s' b' (by simpa using hs) (by simpa using hb)
 | [],_::_,h=>h.elim
 | _::_,[],h=>h.elim
/-- A block of plain cells stands under any numbering. -/
theorem bQ.EM {ν aj:Nu} {l:Loc} {b:ai} {w:World} (h:bQ ν l b w) (hs:∀ r,r < b.n→∀ v∈b.row r,cO v=true):bQ aj l b w :=
 ⟨h.ah,h.len,fun r hr j v hv=>by
  obtain ⟨v',h1,J⟩:=h.cell r hr j v hv
  have zf:=hs r hr v (List.mem_of_getElem? hv)
  rw [J.j4 zf] at h1
  exact ⟨v,h1,an.j3 zf⟩,h.plain,h.one,h.own,h.lr,h.live⟩
theorem bQ.le {ν aj:Nu} {l:Loc} {b c:ai} {w:World} (h:bQ ν l c w) (hle:Bv b c):bQ aj l b w:=by
 refine ⟨h.ah.trans hle.ah,fun r hr=>?_,fun r hr j v hv=>?_,fun _ r hr v hv=>hle.flat r hr v hv,fun r hr v hv=>?_,fun ho _=>?_,(fun r h=>by rw [hle.rc] at h; cases h),h.live⟩
 ·rw [hle.row r hr,h.len r (Nat.lt_of_lt_of_le hr hle.n),hle.ah]
 ·rw [hle.row r hr] at hv
  obtain ⟨v',h1,J⟩:=h.cell r (Nat.lt_of_lt_of_le hr hle.n) j v hv
  have zf:=hle.flat r hr v (by rw [hle.row r hr]; exact List.mem_of_getElem? hv)
  rw [J.j4 zf] at h1
  exact ⟨v,h1,an.j3 zf⟩
 ·rw [hle.row r hr] at hv
  exact h.one r (Nat.lt_of_lt_of_le hr hle.n) v hv
 ·obtain ⟨h1,J⟩:=hle.own ho
  obtain ⟨cur,t,q1,q2,q3⟩:=h.own (ai.c5 h1).1 (ai.c5 h1).2
  exact ⟨cur,t,q1,q2,by omega⟩
theorem Mr {σ:List Nat}:(ν.comp σ).le (ν.comp (σ++[aI])):=by
 intro j l h
 unfold Nu.comp at h ⊢
 cases e:σ[j]? with
 | none=>rw [e] at h; cases h
 | some s =>
  rw [List.getElem?_append_left (List.getElem?_eq_some_iff.1 e).1,e]
  rwa [e] at h
theorem JP {k:Prop} {τ:List Nat}:∀ {σ:List Nat} {bs:List ai},Bq H τ σ bs k→σ.length=bs.length∧(∀ (j s:Nat) (b:ai),σ[j]?=some s→bs[j]?=some b→∃ c,H[s]?=some (some c)∧Cf τ b c∧b.rc=none)∧k
 | [],[],h=>⟨rfl,fun j s b h=>by simp at h,h⟩
 | s::σ,b::bs,h=>by
  have iZ:b.rc=none∧gF H s fun c=>Cf τ b c∧Bq H τ σ bs k:=by
   cases b with
   | aQ o e r=>exact ⟨rfl,h⟩
   | flat o n e g=>exact ⟨rfl,h⟩
   | cm r=>exact h.elim
  obtain ⟨iZ,h⟩:=iZ
  obtain ⟨c,h1,J,h3⟩:=gA h
  obtain ⟨e1,e2,e3⟩:=JP h3
  refine ⟨by simp [e1],fun j s' b' hs hb=>?_,e3⟩
  cases j with
  | zero=>simp at hs hb; subst hs; subst hb; exact ⟨c,h1,J,iZ⟩
  | succ j=>exact e2 j s' b' (by simpa using hs) (by simpa using hb)
 | [],_::_,h=>h.elim
 | _::_,[],h=>h.elim
theorem LC {τ:List Nat} {m:Nat}:∀ {xs l:List Value},mi τ m xs=some l→xs.length=l.length∧∀ (j:Nat) v,xs[j]?=some v→∃ v2,l[j]?=some v2∧cP τ m v=some v2
 | [],l,h=>by rw [EK h]; exact ⟨rfl,fun j v h=>by simp at h⟩
 | x::xs,l,h=>by
  obtain ⟨y,ys,rfl,h1,J⟩:=D0 h
  obtain ⟨h3,h4⟩:=LC J
  refine ⟨by simp [h3],fun j v hj=>?_⟩
  cases j with
  | zero=>simp at hj; subst hj; exact ⟨y,rfl,h1⟩
  | succ j=>exact h4 j v (by simpa using hj)
theorem TZ {τ:List Nat} {m:Nat} {v v2:Value} (h:cP τ m v=some v2) (J:v2.oneCell'=true):v.oneCell'=true:=by
 cases m with
 | zero=>simp [cP] at h
 | succ m =>
  unfold cP at h
  split at h <;> first | rfl | (cases h; exact J) | (split at h <;> cases h <;> exact J) | (cases h)
theorem bQ.ler {ν:Nu} {σ:List Nat} {l:Loc} {b c:ai} {w:World} (h:bQ ν l c w) (hle:Cf σ b c) (HM:b.rc=none):bQ (ν.comp σ) l b w:=by
 rcases hle with hle | ⟨o,e,r,r',rfl,rfl,hr⟩
 ·exact h.le ⟨hle,HM⟩
 ·obtain ⟨h1,J⟩:=LC hr
  have one:∀ q,q < 1→q=0:=fun q hq=>by omega
  refine ⟨h.ah,fun q hq=>?_,fun q hq j v hv=>?_,(fun h=>nomatch h),fun q hq v hv=>?_,(fun h=>nomatch h),(fun r h=>nomatch h),h.live⟩
  ·obtain rfl:=one q hq
   exact h1.trans (h.len 0 hq)
  ·obtain rfl:=one q hq
   obtain ⟨v2,h3,h4⟩:=J j v hv
   obtain ⟨v',h5,h6⟩:=h.cell 0 hq j v2 h3
   exact ⟨v',h5,vE 3 _ _ _ h4 h6⟩
  ·obtain rfl:=one q hq
   obtain ⟨j,hj⟩:=List.getElem?_of_mem (show v∈r from hv)
   obtain ⟨v2,h3,h4⟩:=J j v hj
   exact TZ h4 (h.one 0 hq v2 (List.mem_of_getElem? h3))
/-- A call by contract. -/
theorem Yk {c:Call} {f:Operand} (hc:c.callee=.value f) (HN:∀ g S,Φ g=some S→Cc P g S)
  (h:bZ tmps f fun fv=>match fv with
   | .func (.func g) x y=>pA tmps c.args.toList fun vs=>pR x.toList vs fun l=>pR l y.toList fun args=>Gr Φ g args H aI k
   | _=>False):eX P (.call c) tmps H aI k:=by
 obtain ⟨fv,J,hf⟩:=cX h
 clear h
 split at J
 ·rename_i g x y
  obtain ⟨vs,h,fA⟩:=Av J
  clear J
  have J:=vv (vv h)
  clear h
  have Na:∀ (o:Oper) (ν:Nu) (a:Act),(∀ z∈(Op.call c).operands,fk ν tmps a z)→∃ ys dn,a.eval f=.func (.func g) ⟨ys⟩ ⟨dn⟩∧bh ν (x.toList++vs++y.toList) ((ys++c.args.toList.map a.eval)++dn):=by
   intro o ν a ha
   have fA:=fA ν a (fun z hz=>ha z (by simp [Op.operands,Call.operands,hc]; exact .inr (by simpa using hz)))
   obtain ⟨ys,dn,jT,h1,J⟩:=(hf ν a (ha f (by simp [Op.operands,Call.operands,hc]))).re
   exact ⟨ys,dn,jT,(h1.append fA).append J⟩
  have NG:∀ (o:Oper) (a:Act) (w:World) (ys dn:List Value),(∀ args w,(callFunc g args).run P w=.ok (.enter g args) w)→o.op=.call c→a.eval f=.func (.func g) ⟨ys⟩ ⟨dn⟩ →
    (execOp a.eval o).run P w=.ok (.enter g ⟨(ys++c.args.toList.map a.eval)++dn⟩) w:=by
   intro o a w ys dn nN ho jT
   simp only [execOp,ho,resolve,hc,jT,Deferred.ofValue,Sem.run_bind,Sem.run_pure,Result.andThen_ok,invoke,nN]
   congr 2
   apply Array.ext'
   simp
  have core:∀ (S:aG) (i:S.ι) (σ:List Nat) (v:Value),cZ P g S→mi σ 3 (S.args i)=some (x.toList++vs++y.toList)→S.pre i→σ.length=(S.ae i).length →
    (∀ (ν:Nu) (w:World),bT ν H w→∀ id b,(S.ae i)[id]?=some b→∃ l,(ν.comp σ) id=some l∧bQ (ν.comp σ) l b w)→cP (σ++[aI]) 3 (S.val i)=some v→k v (S.new i)→eX P (.call c) tmps H aI k:=by
   intro S i σ v hs nF hp hlen G7 hv h
   refine ⟨_,_,h,fun o ν a w r n ho ha hH hn next Q hN=>⟨fun _ _=>trivial,?_⟩⟩
   obtain ⟨ys,dn,jT,ny⟩:=Na o ν a ha
   have Yl:=s6 (vE (ν:=ν) 3) nF ny
   rw [Oper.semAt_eq _ _ _ (by simp [ho]),NG o a w ys dn hs.enters ho jT]
   refine ⟨fun h=>by simp [WF,Fence.wide] at h,?_⟩
   have kl:bT (ν.comp σ) ((S.ae i).map some) w:=by
    have kI:∀ (id:Nat) (b:ai),((S.ae i).map some)[id]?=some (some b)→(S.ae i)[id]?=some b:=by
     intro id b bu
     rw [List.getElem?_map] at bu
     cases e:(S.ae i)[id]? with
     | none=>rw [e] at bu; cases bu
     | some b'=>rw [e] at bu; simp at bu; rw [bu]
    refine ⟨fun id b bu=>G7 ν w hH id b (kI id b bu),fun p q bp bq lp lq HO _ _ ho=>?_⟩
    have:=hs.ro i bp (List.mem_of_getElem? (kI p bp HO))
    rw [this] at ho; cases ho
   have gp:∀ id,(S.ae i).length≤id→(ν.comp σ) id=none:=by
    intro id bu
    simp [Nu.comp,List.getElem?_eq_none (show σ.length≤id by omega)]
   have yw:=hs.calls i hp (ν.comp σ) _ w (n - 1) Yl kl gp
   have x8:CallsIn (WF r) (n - 1) P g ⟨(ys++c.args.toList.map a.eval)++dn⟩ w fun e w'=>∃ v' aj,e=.returned v'∧mM (ν.comp σ) aj (S.ae i).length w w' (S.val i) v' (S.new i):=yw
   refine x8.mono ?_
   rintro e w' ⟨v',dR,rfl,hq⟩
   cases dD:S.new i with
   | none =>
    have e1:=hq.y7 dD
    refine hN _ _ ν ⟨ν.le_refl,fun _ _=>rfl,?_,hq.below,fun _=>rfl,(fun b hb=>by rw [dD] at hb; cases hb)⟩
    refine EL 3 _ _ _ hv (hq.val.mono ?_)
    rw [e1]; exact Mr
   | some b =>
    obtain ⟨l,h1,J,h3⟩:=hq.gY b dD
    have hle:dR.le ((ν.add aI l).comp (σ++[aI])):=by
     intro j lj hj
     by_cases e:j=(S.ae i).length
     ·subst e
      rw [h1] at hj; cases hj
      simp [Nu.comp,← hlen,Nu.add_same]
     ·rw [hq.only j e] at hj
      have:=Mr (aI:=aI) j lj hj
      unfold Nu.comp at this ⊢
      cases e2:(σ++[aI])[j]? with
      | none=>rw [e2] at this; cases this
      | some s =>
       rw [e2] at this
       exact Nu.j6 hn s lj this
    have sj:=hs.fl i b dD
    refine hN _ _ (ν.add aI l) ⟨Nu.j6 hn,fun id bu=>Nu.iQ bu,EL 3 _ _ _ hv (hq.val.mono hle),hq.below,(fun h=>by rw [dD] at h; cases h),(fun b' bD=>?_)⟩
    rw [dD] at bD; cases bD
    exact ⟨l,Nu.add_same,J.EM (J.plain sj),h3⟩
  unfold Gr at J
  split at J
  ·rename_i S hS
   obtain ⟨i,hi,hp,h⟩:=J
   have h:=vf h
   have hs:bm P g S:=HN g _ hS
   refine ⟨_,none,h,fun o ν a w r n ho ha hH hn next Q hN=>⟨fun _ _=>trivial,?_⟩⟩
   obtain ⟨ys,dn,jT,ny⟩:=Na o ν a ha
   rw [← hi] at ny
   rw [Oper.semAt_eq _ _ _ (by simp [ho]),NG o a w ys dn hs.enters ho jT]
   refine ⟨fun h=>by simp [WF,Fence.wide] at h,?_⟩
   have yw:=hs.calls i hp ν _ w (n - 1) ny
   have x8:CallsIn (WF r) (n - 1) P g ⟨(ys++c.args.toList.map a.eval)++dn⟩ w fun e w'=>∃ v',e=.returned v'∧an ν (S.val i) v'∧Below w.heap.size w w':=yw
   refine x8.mono ?_
   rintro e w' ⟨v',rfl,hv,hb⟩
   exact hN _ _ ν ⟨ν.le_refl,fun _ _=>rfl,hv,hb,fun _=>rfl,(fun b hb=>by cases hb)⟩
  ·rename_i S hS
   obtain ⟨i,σ,nF,hp,h⟩:=J
   obtain ⟨hlen,nM,v,hv,h⟩:=DH h
   refine core S i σ v (HN g _ hS) nF hp hlen (fun ν w hH id b bu=>?_) hv (vf h)
   have ak:id < σ.length:=by rw [hlen]; exact (List.getElem?_eq_some_iff.1 bu).1
   obtain ⟨cb,h1,J⟩:=nM id _ b (List.getElem?_eq_getElem ak) bu
   obtain ⟨l,h3,h4⟩:=hH.aH _ _ h1
   exact ⟨l,by simp [Nu.comp,List.getElem?_eq_getElem ak,h3],h4.le J⟩
  ·rename_i S hS
   obtain ⟨i,σ,nF,hp,h⟩:=J
   obtain ⟨hlen,nM,v,hv,h⟩:=JP h
   refine core S i σ v (HN g _ hS) nF hp hlen (fun ν w hH id b bu=>?_) hv (vf h)
   have ak:id < σ.length:=by rw [hlen]; exact (List.getElem?_eq_some_iff.1 bu).1
   obtain ⟨cb,h1,J,h5⟩:=nM id _ b (List.getElem?_eq_getElem ak) bu
   obtain ⟨l,h3,h4⟩:=hH.aH _ _ h1
   exact ⟨l,by simp [Nu.comp,List.getElem?_eq_getElem ak,h3],h4.ler J h5⟩
  ·exact J.elim
 ·exact J.elim
/-- Beside the frame: what was there and is not one's own has not turned. -/
structure Kept (O:Nat→Prop) (w w':World):Prop where
 os:w'.os=w.os
 tape:w'.tape=w.tape
 output:w'.output=w.output
 size:w.heap.size≤w'.heap.size
 aH:∀ b,b < w.heap.size→¬ O b→w'.heap[b]?=w.heap[b]?
theorem Kept.refl {O:Nat→Prop} (w:World):Kept O w w:=⟨rfl,rfl,rfl,Nat.le_refl _,fun _ _ _=>rfl⟩
theorem Kept.below {O:Nat→Prop} {W w w':World} (h:Kept O W w) (hb:Below w.heap.size w w'):Kept O W w' :=
 ⟨hb.os.trans h.os,hb.tape.trans h.tape,hb.output.trans h.output,Nat.le_trans h.size hb.size,fun b h1 J=>(hb.block b (Nat.lt_of_lt_of_le h1 h.size)).trans (h.aH b h1 J)⟩
theorem Kept.then {O O':Nat→Prop} {W w w':World} (h:Kept O W w) (h':Kept O' w w') (hO:∀ b,O' b→O b∨W.heap.size≤b):Kept O W w' :=
 ⟨h'.os.trans h.os,h'.tape.trans h.tape,h'.output.trans h.output,Nat.le_trans h.size h'.size,fun b h1 J =>
  (h'.aH b (Nat.lt_of_lt_of_le h1 h.size) (fun h3=>(hO b h3).elim J (fun h4=>by omega))).trans (h.aH b h1 J)⟩
structure gl (P:Program) (f:FuncId) (F:FT):Prop where
 enters:∀ args w,(callFunc f args).run P w=.ok (.enter f args) w
 calls:∀ (args:List Value) (H:ax) (K:Value→ax→Prop),F args H K→∀ (ν:Nu) (as:List Value) (w:World) (n:Nat) (O:Nat→Prop),bh ν args as→bT ν H w→(∀ id,H.length≤id→ν id=none) →
  (∀ id b l,H[id]?=some (some b)→b.own=true→ν id=some l→O l.aH) →
  CallsIn Fence.wide n P f ⟨as⟩ w fun e w'=>∃ v v' aj H',e=.returned v'∧K v H'∧an aj v v'∧ν.le aj∧bT aj H' w'∧(∀ id,H'.length≤id→aj id=none)∧Kept O w w' ∧
   ∀ id b l,H'[id]?=some (some b)→b.own=true→aj id=some l→O l.aH∨w.heap.size≤l.aH
structure EnvOk (P:Program) (E:Env):Prop where
 ty:∀ t ti,E.tt t=some ti→aB P t ti
 eq:∀ t∈E.eqs,∀ ti,E.tt t=some ti→wS P t ti.zero
 fn:∀ g S,E.Φ g=some S→Cc P g S
 ft:∀ g F,E.Ψ g=some F→gl P g F:=by intro g F h; cases h
/-- Behind a call of a function that works upon the abstract heap. -/
def F0 (K:Value→ax→Prop) (ν:Nu) (O:Nat→Prop) (w:World) (e:Ending) (w':World):Prop :=
 ∃ v v' aj H',e=.returned v'∧K v H'∧an aj v v'∧ν.le aj∧bT aj H' w'∧(∀ id,H'.length≤id→aj id=none)∧Kept O w w' ∧
   ∀ id b l,H'[id]?=some (some b)→b.own=true→aj id=some l→O l.aH∨w.heap.size≤l.aH
/-- A round of a range over a function. -/
def O1 (P:Program) (l:Nat) (G:FT) (bw:Nu):Prop :=
 ∀ (args:List Value) (H:ax) (K:Value→ax→Prop),G args H K→∀ (ν:Nu) (as:List Value) (w:World) (n:Nat) (O:Nat→Prop),bw.le ν→bh ν args as→bT ν H w→(∀ id,H.length≤id→ν id=none) →
  (∀ id b l,H[id]?=some (some b)→b.own=true→ν id=some l→O l.aH)→YieldAt Fence.wide n P l ⟨as⟩ w (F0 K ν O w)
/-- An iterator under a yield value. -/
structure yO (P:Program) (f:FuncId) (I:Nat→FT→Nu→FT):Prop where
 enters:∀ args w,(callFunc f args).run P w=.ok (.enter f args) w
 calls:∀ l G bw,O1 P l G bw→∀ (args:List Value) (H:ax) (K:Value→ax→Prop),I l G bw args H K→∀ (ν:Nu) (as:List Value) (w:World) (n:Nat) (O:Nat→Prop),bw.le ν→bh ν args as→bT ν H w→(∀ id,H.length≤id→ν id=none) →
  (∀ id b l,H[id]?=some (some b)→b.own=true→ν id=some l→O l.aH)→CallsIn Fence.wide n P f ⟨as⟩ w (F0 K ν O w)
def ie (P:Program) (E:Env):Prop:=∀ f I,E.It f=some I→yO P f I
theorem ie.none {P:Program} {E:Env} (h:E.It=fun _=>none):ie P E:=fun f I hI=>by rw [h] at hI; cases hI
/-- An environment with its iterators and its yield values. -/
structure jQ (P:Program) (E:Env):Prop extends EnvOk P E where
 HP:ie P E
 ys:∀ l G r,E.ys=(l,G)::r→O1 P l G E.nu
theorem EnvOk.x {P:Program} {E:Env} (h:EnvOk P E) (hI:ie P E) (hy:E.ys=[]):jQ P E:=⟨h,hI,fun l G r e=>by rw [hy] at e; cases e⟩
/-- A table of contracts, and what is to be shown of them. -/
def pI {α:Type _}:List (Nat × α)→Nat→Option α
 | [],_=>none
 | c::l,g=>match Nat.beq c.1 g with
  | true=>some c.2
  | false=>pI l g
def ug {α:Type _} (Q:Nat→α→Prop):List (Nat × α)→Prop
 | []=>True
 | c::l=>Q c.1 c.2∧ug Q l
theorem vF {α:Type _} {Q:Nat→α→Prop}:∀ {l:List (Nat × α)} {g:Nat} {S:α},ug Q l→pI l g=some S→Q g S
 | c::l,g,S,hq,h=>by
  unfold pI at h
  split at h
  ·rename_i e; cases h; rw [← Nat.eq_of_beq_eq_true e]; exact hq.1
  ·exact vF hq.2 h
/-- All of them. -/
theorem AE {E:Env} (hE:EnvOk P E) {op:Op} (h:kM E op tmps H aI k):eX P op tmps H aI k:=by
 cases op
 case move=>exact Yg h
 case assign=>exact TS h
 case pick=>exact Yh h
 case alloc=>exact Vt hE.ty h
 case box=>exact aat hE.ty h
 case build=>exact Vy hE.ty h
 case load=>exact Yi hE.ty h
 case fieldAddr=>exact QM hE.ty h
 case field=>exact Vu hE.ty h
 case indexAddr=>exact QN hE.ty h
 case index=>exact Vx hE.ty h
 case extract=>exact SD h
 case makeFunc=>exact Rh h
 case unOp=>exact ab3 h
 case binOp=>exact aav hE.ty hE.eq h
 case convert=>exact SL hE.ty h
 case buildSlice=>exact Qp hE.ty h
 case makeSlice=>exact QP hE.ty h
 case slice=>exact Vw hE.ty h
 case call c =>
  unfold kM at h
  dsimp only at h
  split at h
  ·rename_i f hc
   exact Yk hc hE.fn h
  ·rename_i hc
   split at h
   ·rename_i x t hx ht
    exact aaw hE.ty hc (Array.ext' hx) (Array.ext' ht) h
   ·exact h.elim
  ·rename_i hc
   split at h
   ·rename_i x y hx
    exact aax hc (Array.ext' hx) h
   ·exact h.elim
  ·rename_i hc
   split at h
   ·rename_i x t hx ht
    exact aaB hE.ty hc (Array.ext' hx) (Array.ext' ht) h
   ·exact h.elim
  ·rename_i hc
   split at h
   ·rename_i x y t u hx ht
    exact Rl hE.ty hc (Array.ext' hx) (Array.ext' ht) h
   ·exact h.elim
  ·rename_i hc
   split at h
   ·rename_i x y hx
    exact aay hc (Array.ext' hx) h
   ·exact h.elim
  ·exact h.elim
 all_goals exact h.elim
end
end Go.Ae
/- Stores; what stands between the abstract state and the machine's. -/
namespace Go.Ae
open Go Go.RowKit
abbrev SK:=List Value→ax→Prop
/-- A store of cells into a row. -/
def Fp:List (List Value)→Nat→Nat→List Value→(List (List Value)→Prop)→Prop
 | [],_,_,_,_=>False
 | r::rs,0,c,vs,k=>ue r c vs fun r'=>k (r'::rs)
 | r::rs,n+1,c,vs,k=>Fp rs n c vs fun cj=>k (r::cj)
theorem Jr:∀ {rs:List (List Value)} {n c:Nat} {vs:List Value} {k:List (List Value)→Prop},Fp rs n c vs k →
  ∃ r r',rs[n]?=some r∧(r'.length=r.length∧c+vs.length≤r.length∧(∀ (j:Nat) v,vs[j]?=some v→r'[c+j]?=some v)∧∀ (j:Nat),(j < c∨c+vs.length≤j)→r'[j]?=r[j]?)∧k (rs.set n r')
 | [],_,_,_,_,h=>h.elim
 | r::rs,0,c,vs,k,h=>by
  obtain ⟨l',h0,h1⟩:=xJ h
  exact ⟨r,l',rfl,h1,by simpa using h0⟩
 | r::rs,n+1,c,vs,k,h=>by
  obtain ⟨q,q',h1,J,h3⟩:=Jr (rs:=rs) h
  exact ⟨q,q',by simpa using h1,J,by simpa using h3⟩
def jF:List Value→Bool
 | []=>true
 | v::l=>cO v && jF l
theorem xx:∀ {l:List Value},jF l=true→∀ v∈l,cO v=true
 | [],_,v,hv=>by simp at hv
 | v::l,h,u,hu=>by
  simp only [jF,Bool.and_eq_true] at h
  rcases List.mem_cons.1 hu with e | e
  ·rw [e]; exact h.1
  ·exact xx h.2 u e
def LD (b:ai) (row cg:Nat) (cs:List Value) (k:ai→Prop):Prop :=
 match b with
 | .aQ true ah rows=>Fp rows row cg cs fun iT=>k (.aQ true ah iT)
 | .flat true n ah get=>row < n∧match jF cs with
  | true=>ue (get row) cg cs fun r'=>k (.flat true n ah fun j=>if j=row then r' else get j)
  | false=>False
 | _=>False
def Bw (E:Env) (tmps:List Value) (H:ax) (t:TypeId) (x y:Operand) (k:SK):Prop :=
 bZ tmps x fun av=>match av with
  | .pointer (some ⟨id,row,sp⟩)=>bZ tmps y fun v=>wc v fun cs=>cR E.tt t fun ti=>match o8 cs ti.size with
   | true=>gF H id fun b=>LD b row (sp.getD 0) cs fun b'=>jr H id (some b') fun H'=>k tmps H'
   | false=>False
  | _=>False
def dw (tmps:List Value) (d:Option Tmp) (v:Value) (k:List Value→Prop):Prop :=
 match d with
 | none=>k tmps
 | some d=>wQ tmps d v k
def uh (H:ax) (nb:Option ai) (k:ax→Prop):Prop :=
 match nb with
 | none=>k H
 | some b=>ox H (some b) k
/-- The frame of a function: the world in which it was entered, the blocks that it may write, the numbering that it found. -/
structure Fr where
 W:World
 O:Nat→Prop
 ν:Nu
 n0:Nat
 fresh:∀ id,n0≤id→ν id=none
/-- A frame that suits an environment. -/
structure kN (F:Fr) (E:Env):Prop where
 n0:F.n0≤E.base
 nu:E.nu.le F.ν
/-- The deferred calls of an activation: marks of ranges over functions, whose blocks hold no calls. -/
def Marks (n:Nat) (ds:List Deferred) (w:World):Prop :=
 ds.Nodup∧∀ d∈ds,∃ D,d={ target:=.collected D,args:=#[] }∧n≤D∧w.heap[D]?=some (.deferred (some []))
theorem Marks.nil (n:Nat) (w:World):Marks n [] w:=⟨.nil,fun d hd=>by cases hd⟩
theorem AF {n:Nat} {ds:List Deferred} {w w':World} (h:Marks n ds w) (hk:∀ D:Nat,w.heap[D]?=some (Obj.deferred (some []))→w'.heap[D]?=some (Obj.deferred (some []))):Marks n ds w' :=
 ⟨h.1,fun d hd=>let ⟨D,h1,J,h3⟩:=h.2 d hd; ⟨D,h1,J,hk D h3⟩⟩
theorem Marks.below {n:Nat} {ds:List Deferred} {w w':World} (h:Marks n ds w) (hb:Below w.heap.size w w'):Marks n ds w' :=
 AF h fun D hD=>(hb.block D (Array.getElem?_eq_some_iff.1 hD).1).trans hD
/-- One block of cells has turned. -/
theorem Marks.fJ {n:Nat} {ds:List Deferred} {w w':World} (h:Marks n ds w) {b:Nat} {cur:Array Value} {t:TypeId} {z:Nat × Nat} (hb:w.heap[b]?=some (Obj.cells cur t z)) (hk:∀ q:Nat,q≠b→w'.heap[q]?=w.heap[q]?):Marks n ds w' :=
 AF h fun D hD=>(hk D (fun e=>by rw [e,hb] at hD; cases hD)).trans hD
/-- What stands between the abstract state and the machine's. -/
structure bC (F:Fr) (ν:Nu) (tmps:List Value) (H:ax) (a:Act) (w:World):Prop where
 tm:bh ν tmps a.tmps.toList
 df:Marks F.W.heap.size a.defers w
 hp:bT ν H w
 fr:∀ id,H.length≤id→ν id=none
 kp:Kept F.O F.W w
 own:∀ id b l,H[id]?=some (some b)→b.own=true→ν id=some l→F.O l.aH∨F.W.heap.size≤l.aH
 mono:F.ν.le ν
section
variable {P:Program} {E:Env} {r:Option Nat} {n:Nat} {F:Fr}
theorem bC.me {ν:Nu} {tmps:List Value} {H:ax} {a:Act} {w:World} (h:bC F ν tmps H a w) (x:Operand):fk ν tmps a x:=by
 intro t ht v hv
 obtain ⟨v',h1,J⟩:=h.tm.get hv
 exact ⟨v',by simpa using h1,J⟩
theorem qZ (a:Act) (d:Tmp) (v:Value):(a.put (some d) v).tmps.toList=a.tmps.toList.set d v:=by simp [Act.put]
/-- A slot is written. -/
theorem bC.dst {ν:Nu} {tmps:List Value} {H:ax} {a:Act} {w:World} (h:bC F ν tmps H a w) {d:Option Tmp} {v v':Value} (hv:an ν v v') {k:List Value→Prop} (hk:dw tmps d v k) :
  ∃ t',k t'∧bC F ν t' H (a.put d v') w:=by
 cases d with
 | none=>exact ⟨tmps,hk,h⟩
 | some d =>
  obtain ⟨h1,J⟩:=oe hk
  exact ⟨_,J,⟨by rw [qZ]; exact h.tm.set hv d,h.df,h.hp,h.fr,h.kp,h.own,h.mono⟩⟩
/-- Behind an operation that wrote nothing. -/
theorem bC.quiet {ν aj:Nu} {tmps:List Value} {H:ax} {a:Act} {w w':World} (h:bC F ν tmps H a w) {v v':Value} {nb:Option ai} (hq:mM ν aj H.length w w' v v' nb)
  {k:ax→Prop} (hk:uh H nb k):∃ H',k H'∧bC F aj tmps H' a w':=by
 have hb:=hq.below
 cases nb with
 | none =>
  have:=hq.y7 rfl
  subst this
  exact ⟨H,hk,⟨h.tm,h.df.below hb,h.hp.below hb,h.fr,h.kp.below hb,h.own,h.mono⟩⟩
 | some b =>
  obtain ⟨l,hl,hB,hle⟩:=hq.gY b rfl
  refine ⟨_,xD hk,⟨h.tm.mono hq.le,h.df.below hb,?_,fun id bu=>?_,h.kp.below hb,fun id c lc hc ho dK=>?_,Nu.le_trans h.mono hq.le⟩⟩
  ·have kH:aj=ν.add H.length l:=by
    funext id
    by_cases e:id=H.length
    ·subst e; rw [hl,Nu.add_same]
    ·rw [hq.only id e,Nu.iQ e]
   subst kH
   refine h.hp.push hb (h.fr _ (Nat.le_refl _)) _ (fun j c hj=>?_) hle hB
   rw [List.getElem?_append] at hj
   split at hj
   ·rename_i ak; exact .inr ⟨by omega,hj⟩
   ·rename_i eG
    have:j - H.length=0:=by
     have:=(List.getElem?_eq_some_iff.1 hj).1
     simp at this; omega
    rw [this] at hj
    simp at hj
    exact .inl ⟨by omega,hj.symm⟩
  ·rw [List.length_append,List.length_singleton] at bu
   rw [hq.only id (by omega)]
   exact h.fr id (by omega)
  ·rw [List.getElem?_append] at hc
   split at hc
   ·rename_i ak
    have aK:id≠H.length:=by omega
    rw [hq.only id aK] at dK
    exact h.own id c lc hc ho dK
   ·rename_i eG
    have:id - H.length=0:=by
     have:=(List.getElem?_eq_some_iff.1 hc).1
     simp at this; omega
    have:id=H.length:=by omega
    subst this
    rw [hl] at dK; cases dK
    exact .inr (Nat.le_trans h.kp.size hle)
/-- How a store turns a block. -/
structure xe (b b':ai) (row cg:Nat) (cs:List Value):Prop where
 own:b.nE=true
 Oe:b'.nE=true
 n:b'.n=b.n
 ah:b'.ah=b.ah
 flat:b'.iR=b.iR
 lt:row < b.n
 len:(b'.row row).length=(b.row row).length
 fit:cg+cs.length≤(b.row row).length
 HQ:∀ j v,cs[j]?=some v→(b'.row row)[cg+j]?=some v
 out:∀ j,(j < cg∨cg+cs.length≤j)→(b'.row row)[j]?=(b.row row)[j]?
 CG:∀ q,q≠row→b'.row q=b.row q
 pl:b.iR=true→∀ v∈cs,cO v=true
theorem Qh {b:ai} {row cg:Nat} {cs:List Value} {k:ai→Prop} (h:LD b row cg cs k):∃ b',xe b b' row cg cs∧k b':=by
 cases b with
 | aQ o ah rows =>
  cases o with
  | false=>exact h.elim
  | true =>
   obtain ⟨q,l',h1,⟨k1,k2,k3,k4⟩,h3⟩:=Jr h
   have ak:row < rows.length:=(List.getElem?_eq_some_iff.1 h1).1
   have e1:(ai.aQ true ah (rows.set row l')).row row=l':=by simp [ai.row,List.getD,ak]
   have e2:(ai.aQ true ah rows).row row=q:=by simp [ai.row,List.getD,h1]
   refine ⟨.aQ true ah (rows.set row l'),⟨rfl,rfl,by simp [ai.n],rfl,rfl,ak,by rw [e1,e2]; exact k1,by rw [e2]; exact k2,by rw [e1]; exact k3,by rw [e1,e2]; exact k4,fun p hp=>?_,fun h=>by simp [ai.iR] at h⟩,h3⟩
   simp [ai.row,List.getD,List.getElem?_set,Ne.symm hp]
 | flat o n ah get =>
  cases o with
  | false=>exact h.elim
  | true =>
   obtain ⟨ak,h⟩:=h
   split at h
   ·rename_i hs
    obtain ⟨l',h0,k1,k2,k3,k4⟩:=xJ h
    have e1:(ai.flat true n ah fun j=>if j=row then l' else get j).row row=l':=by simp [ai.row]
    exact ⟨.flat true n ah fun j=>if j=row then l' else get j,⟨rfl,rfl,rfl,rfl,rfl,ak,by rw [e1]; exact k1,k2,by rw [e1]; exact k3,by rw [e1]; exact k4,fun p hp=>by simp [ai.row,hp],fun _=>xx hs⟩,h0⟩
   ·exact h.elim
 | cm r=>exact h.elim
theorem xe.o {b b':ai} {row cg:Nat} {cs:List Value} (h:xe b b' row cg cs):b.own=true:=(ai.c5 h.own).1
theorem xe.o' {b b':ai} {row cg:Nat} {cs:List Value} (h:xe b b' row cg cs):b'.own=true:=(ai.c5 h.Oe).1
theorem oa (b:Nat):∀ (vs:List Value) (o:Nat) (w:World),(w.setCells b o vs).heap.size=w.heap.size
 | [],_,_=>rfl
 | v::r,o,w=>by rw [World.setCells,oa b r]; simp [World.setCell]
theorem qN (b:Nat):∀ (vs:List Value) (o:Nat) (w:World) (k:Nat),k≠b→(w.setCells b o vs).heap[k]?=w.heap[k]?
 | [],_,_,_,_=>rfl
 | v::r,o,w,k,hk=>by rw [World.setCells,qN b r _ _ k hk]; exact Below.heap_setCell _ _ _ _ hk
theorem z8 (b:Nat):∀ (vs:List Value) (o:Nat) (w:World) (cur:Array Value) (t:TypeId),w.heap[b]?=some (.cells cur t (0,0)) →
  ∃ oF,(w.setCells b o vs).heap[b]?=some (.cells oF t (0,0))∧oF.size=cur.size
 | [],_,w,cur,t,h=>⟨cur,h,rfl⟩
 | v::r,o,w,cur,t,h=>by
  rw [World.setCells]
  have h1:(w.setCell ⟨b,o,none⟩ v).heap[b]?=some (.cells (cur.setIfInBounds o v) t (0,0)):=by
   simp [World.setCell,Array.getElem?_modify,h]
  obtain ⟨oF,J,h3⟩:=z8 b r (o+1) _ _ t h1
  exact ⟨oF,J,by rw [h3]; simp⟩
theorem vg (b:Nat):∀ (vs:List Value) (o:Nat) (w:World),(w.setCells b o vs).os=w.os∧(w.setCells b o vs).tape=w.tape∧(w.setCells b o vs).output=w.output
 | [],_,_=>⟨rfl,rfl,rfl⟩
 | v::r,o,w=>by rw [World.setCells]; exact vg b r _ _
/-- Cells of one's own, written over. -/
theorem bT.store {ν:Nu} {H:ax} {w:World} (h:bT ν H w) {id:Nat} {b b':ai} {l:Loc} (hb:H[id]?=some (some b)) (hl:ν id=some l) {row cg:Nat} {cs eL:List Value}
  (hu:xe b b' row cg cs) (hr:bh ν cs eL) (h1:∀ v∈cs,v.oneCell'=true) :
  bT ν (H.set id (some b')) (w.setCells l.aH (l.base+row*l.ah+cg) eL):=by
 obtain ⟨l',cJ,hB⟩:=h.aH id b hb
 rw [hl] at cJ; cases cJ
 have bu:id < H.length:=(List.getElem?_eq_some_iff.1 hb).1
 have kI:∀ j c,(H.set id (some b'))[j]?=some (some c)→(j=id∧c=b')∨(j≠id∧H[j]?=some (some c)):=by
  intro j c hj
  by_cases e:j=id
  ·subst e; rw [List.getElem?_set_self bu] at hj; cases hj; exact .inl ⟨rfl,rfl⟩
  ·rw [List.getElem?_set_ne (Ne.symm e)] at hj; exact .inr ⟨e,hj⟩
 have G6:=hB.ah
 have hlen:=hB.len row hu.lt
 obtain ⟨cur,t,jR,fV,NH⟩:=hB.own hu.o (ai.c5 hu.own).2
 have eY:eL.length=cs.length:=hr.1.symm
 -- the cells of other places
 have wT:∀ r j,r < b.n→j < b.ah→(r≠row∨j < cg∨cg+cs.length≤j)→(w.setCells l.aH (l.base+row*l.ah+cg) eL).cell? (l.at r j)=w.cell? (l.at r j):=by
  intro r j iI hj aK
  refine World.cell?_setCells_out l.aH _ _ _ _ (fun _ _=>?_)
  have wU:=hu.fit
  rw [hlen] at wU
  simp only [Loc.at,G6,eY]
  rcases Nat.lt_trichotomy r row with h | h | h
  ·left
   have:(r+1)*b.ah≤row*b.ah:=Nat.mul_le_mul_right _ h
   rw [Nat.add_mul] at this
   omega
  ·subst h
   rcases aK with aK | aK | aK
   ·exact absurd rfl aK
   ·left; omega
   ·right; omega
  ·right
   have:(row+1)*b.ah≤r*b.ah:=Nat.mul_le_mul_right _ h
   rw [Nat.add_mul] at this
   omega
 have oO:∀ j v,eL[j]?=some v→(w.setCells l.aH (l.base+row*l.ah+cg) eL).cell? (l.at row (cg+j))=some v:=by
  intro j v hv
  have hj:j < eL.length:=(List.getElem?_eq_some_iff.1 hv).1
  have wU:=hu.fit
  have:=World.cell?_setCells_in l.aH eL (l.base+row*l.ah+cg) w (fun m hm=>by
   have HL:cg+m < (b.row row).length:=by omega
   obtain ⟨u,uF,_⟩:=hB.cell row hu.lt (cg+m) _ (List.getElem?_eq_getElem HL)
   simp only [Loc.at] at uF
   rw [show l.base+row*l.ah+cg+m=l.base+row*l.ah+(cg+m) by omega,uF]; rfl) j hj
  simp only [Loc.at]
  rw [show l.base+row*l.ah+(cg+j)=l.base+row*l.ah+cg+j by omega,this]
  rw [← hv]
  simp
 refine ⟨fun j c hj=>?_,fun i j bi bj li lj hi hj aK ho e1 e2=>?_⟩
 ·rcases kI j c hj with ⟨rfl,rfl⟩ | ⟨aK,gn⟩
  ·refine ⟨l,hl,⟨by rw [hu.ah]; exact hB.ah,fun q hq=>?_,fun q hq j v hv=>?_,fun hf q hq v hv=>?_,fun q hq v hv=>?_,fun _ _=>?_,(fun r h=>by rw [(ai.c5 hu.Oe).2] at h; cases h),?_⟩⟩
   ·rw [hu.n] at hq
    by_cases e:q=row
    ·subst e; rw [hu.len,hu.ah]; exact hlen
    ·rw [hu.CG q e,hu.ah]; exact hB.len q hq
   ·rw [hu.n] at hq
    by_cases e:q=row
    ·subst e
     by_cases hj:cg≤j∧j < cg+cs.length
     ·have CH:j - cg < cs.length:=by omega
      have:=hu.HQ (j - cg) _ (List.getElem?_eq_getElem CH)
      rw [show cg+(j - cg)=j by omega,hv] at this
      cases this
      obtain ⟨v',J,h3⟩:=hr.get (List.getElem?_eq_getElem CH)
      have:=oO (j - cg) v' J
      rw [show cg+(j - cg)=j by omega] at this
      exact ⟨v',this,h3⟩
     ·have uG:=hu.out j (by omega)
      rw [uG] at hv
      obtain ⟨v',J,h3⟩:=hB.cell q hq j v hv
      have gn:j < b.ah:=by rw [← hlen]; exact (List.getElem?_eq_some_iff.1 hv).1
      exact ⟨v',by rw [wT q j hq gn (.inr (by omega))]; exact J,h3⟩
    ·rw [hu.CG q e] at hv
     obtain ⟨v',J,h3⟩:=hB.cell q hq j v hv
     have gn:j < b.ah:=by rw [← hB.len q hq]; exact (List.getElem?_eq_some_iff.1 hv).1
     exact ⟨v',by rw [wT q j hq gn (.inl e)]; exact J,h3⟩
   ·rw [hu.n] at hq; rw [hu.flat] at hf
    by_cases e:q=row
    ·subst e
     obtain ⟨j,hj,rfl⟩:=List.getElem_of_mem hv
     by_cases CH:cg≤j∧j < cg+cs.length
     ·have:=hu.HQ (j - cg) _ (List.getElem?_eq_getElem (by omega:j - cg < cs.length))
      rw [show cg+(j - cg)=j by omega,List.getElem?_eq_getElem hj] at this
      injection this with this
      rw [this]
      exact hu.pl hf _ (List.getElem_mem _)
     ·have:=hu.out j (by omega)
      rw [List.getElem?_eq_getElem hj] at this
      exact hB.plain hf q hq _ (List.mem_of_getElem? this.symm)
    ·rw [hu.CG q e] at hv; exact hB.plain hf q hq v hv
   ·rw [hu.n] at hq
    by_cases e:q=row
    ·subst e
     obtain ⟨j,hj,rfl⟩:=List.getElem_of_mem hv
     by_cases CH:cg≤j∧j < cg+cs.length
     ·have:=hu.HQ (j - cg) _ (List.getElem?_eq_getElem (by omega:j - cg < cs.length))
      rw [show cg+(j - cg)=j by omega,List.getElem?_eq_getElem hj] at this
      injection this with this
      rw [this]
      exact h1 _ (List.getElem_mem _)
     ·have:=hu.out j (by omega)
      rw [List.getElem?_eq_getElem hj] at this
      exact hB.one q hq _ (List.mem_of_getElem? this.symm)
    ·rw [hu.CG q e] at hv; exact hB.one q hq v hv
   ·obtain ⟨oF,J,h3⟩:=z8 l.aH eL (l.base+row*l.ah+cg) w cur t jR
    exact ⟨oF,t,J,by rw [h3]; exact fV,by rw [hu.n]; exact NH⟩
   ·rw [oa]; exact hB.live
  ·obtain ⟨lj,c9,qe⟩:=h.aH j c gn
   have G8:=h.sep id j b c l lj hb gn (Ne.symm aK) hu.o hl c9
   exact ⟨lj,c9,qe.same (qN _ _ _ _ _ (Ne.symm G8)) (by rw [oa]; exact Nat.le_refl _)⟩
 ·rcases kI i bi hi with ⟨rfl,rfl⟩ | ⟨hni,aP⟩ <;> rcases kI j bj hj with ⟨rfl,rfl⟩ | ⟨hnj,gn⟩
  ·exact absurd rfl aK
  ·exact h.sep _ j b bj li lj hb gn aK hu.o e1 e2
  ·exact h.sep i _ bi b li lj aP hb aK ho e1 e2
  ·exact h.sep i j bi bj li lj aP gn aK ho e1 e2
/-- A store: what the machine does, from the operands alone. -/
theorem Kb (hE:EnvOk P E) {o:Oper} {t:TypeId} {x y:Operand} (ho:o.op=.store t x y) {ν:Nu} {tmps ts:List Value} {H:ax} {a b:Act} {w:World} (hi:bC F ν ts H b w) {k:SK}
  (hx:fk ν tmps a x) (hy:fk ν tmps a y) (h:Bw E tmps H t x y k):∃ w' H',(execOp a.eval o).run P w=.ok .skip w'∧bC F ν ts H' b w'∧k tmps H':=by
 obtain ⟨av,J,hv⟩:=kz h hx
 clear h
 split at J
 ·rename_i id row sp
  obtain ⟨v,h,hvv⟩:=kz J hy
  clear J
  have J:=Ai h
  clear h
  obtain ⟨ti,ht,h⟩:=cT J
  clear J
  split at h
  ·rename_i bg
   obtain ⟨hlen,pS⟩:=xw bg
   obtain ⟨bl,hb,J⟩:=gA h
   clear h
   obtain ⟨b',hu,h⟩:=Qh J
   clear J
   obtain ⟨ak,J⟩:=lW h
   clear h
   obtain ⟨l,hl,he⟩:=hv.om
   obtain ⟨l',cJ,hB⟩:=hi.hp.aH id bl hb
   rw [hl] at cJ; cases cJ
   have hc:=hvv.cells
   obtain ⟨cur,tt',jR,fV,NH⟩:=hB.own hu.o (ai.c5 hu.own).2
   obtain ⟨i,iG,gy,_⟩:=(hE.ty _ _ ht).info
   have aaC:∀ u∈(a.eval y).cells.toList,u.oneCell'=true:=by
    intro u ss
    obtain ⟨j,hj,rfl⟩:=List.getElem_of_mem ss
    have gn:j < v.cells.toList.length:=by rw [hc.1]; exact hj
    have:=hc.2 j _ _ (List.getElem?_eq_getElem gn) (List.getElem?_eq_getElem hj)
    rw [this.A7]; exact pS _ (List.getElem_mem _)
   have ao:(storeCells (l.at row (sp.getD 0)) (a.eval y).cells.toList).run P w=.ok () (w.setCells l.aH (l.base+row*l.ah+sp.getD 0) (a.eval y).cells.toList):=by
    have:=run_storeCells_cells (P:=P) l.aH (l.base+row*l.ah+sp.getD 0) (a.eval y).cells.toList 0 w (fun j hj=>by
     have wU:=hu.fit
     rw [hc.1] at wU
     obtain ⟨u,uF,_⟩:=hB.cell row hu.lt (sp.getD 0+j) _ (List.getElem?_eq_getElem (by omega))
     simp only [Loc.at] at uF
     rw [show l.base+row*l.ah+sp.getD 0+0+j=l.base+row*l.ah+(sp.getD 0+j) by omega,uF]; rfl) (fun j hj=>by
     simp [World.frozen?,jR]) aaC
    simpa [Loc.at] using this
   have bn:(a.eval y).cells.size=i.size:=by rw [gy,← hlen,hc.1]; simp
   have bF:(execOp a.eval o).run P w=.ok .skip (w.setCells l.aH (l.base+row*l.ah+sp.getD 0) (a.eval y).cells.toList):=by
    simp [execOp,ho,Instr.storeAt,he,Instr.sureAddr,storeVar,gr iG,bn,ao]
   have aP:bC F ν ts (H.set id (some b')) b (w.setCells l.aH (l.base+row*l.ah+sp.getD 0) (a.eval y).cells.toList):=by
    obtain ⟨o1,o2,o3⟩:=vg l.aH (a.eval y).cells.toList (l.base+row*l.ah+sp.getD 0) w
    refine ⟨hi.tm,hi.df.fJ jR (fun q hq=>qN _ _ _ _ _ hq),hi.hp.store hb hl hu hc pS,fun j hj=>hi.fr j (by simpa using hj),⟨o1.trans hi.kp.os,o2.trans hi.kp.tape,o3.trans hi.kp.output,by rw [oa]; exact hi.kp.size,fun q h1 J=>?_⟩,fun j c lc hj nO dK=>?_,hi.mono⟩
    ·rw [qN]
     ·exact hi.kp.aH q h1 J
     ·intro e
      subst e
      rcases hi.own id bl l hb hu.o hl with h | h
      ·exact J h
      ·omega
    ·by_cases e:j=id
     ·subst e
      rw [hl] at dK; cases dK
      exact hi.own j bl l hb hu.o hl
     ·rw [List.getElem?_set_ne (Ne.symm e)] at hj
      exact hi.own j c lc hj nO dK
   exact ⟨_,_,bF,aP,J⟩
  ·exact h.elim
 ·exact J.elim
/-- A store. -/
theorem QR (hE:EnvOk P E) {o:Oper} {t:TypeId} {x y:Operand} (ho:o.op=.store t x y) {ν:Nu} {tmps:List Value} {H:ax} {a:Act} {w:World} (hi:bC F ν tmps H a w) {k:SK}
  (h:Bw E tmps H t x y fun t' H'=>dw t' o.dst undef fun uH=>k uH H') {next:Act→World→Prop} {Q:Exit→Act→World→Prop}
  (hk:∀ ν t' H' a' w',bC F ν t' H' a' w'→k t' H'→next a' w'):o.wpIn (WF r) n P a w next Q:=by
 obtain ⟨w',H',bF,aP,J⟩:=Kb hE ho hi (hi.me x) (hi.me y) h
 obtain ⟨t',HR,ab6⟩:=aP.dst (.undef ν) J
 refine ⟨fun _ _=>trivial,?_⟩
 rw [Oper.semAt_eq _ _ _ (by simp [ho]),bF]
 exact hk _ _ _ _ _ ab6 HR
end
end Go.Ae
/- A block laid anew: what speaks of its old place is dead. -/
namespace Go.Ae
open Go Go.RowKit
/-- Whether a value speaks of a block. -/
def oz (id:Nat):Nat→Value→Bool
 | 0,_=>true
 | k+1,v=>match v with
  | .bool _ | .int _ _ | .string _ | .pointer none | .slice none _ _ | .nilFunc | .chan none=>false
  | .pointer (some ⟨j,_,_⟩)=>Nat.beq j id
  | .slice (some ⟨j,_,_⟩) _ _=>Nat.beq j id
  | .func _ ⟨l⟩ ⟨m⟩=>l.foldr (fun v acc=>oz id k v || acc) false || m.foldr (fun v acc=>oz id k v || acc) false
  | .agg ⟨l⟩=>l.foldr (fun v acc=>oz id k v || acc) false
  | .tuple ⟨l⟩=>l.foldr (fun v acc=>oz id k v || acc) false
  | _=>true
def rE (id k:Nat) (l:List Value):Bool:=l.foldr (fun v acc=>oz id k v || acc) false
theorem vk {id k:Nat}:∀ {l:List Value},rE id k l=false→∀ v∈l,oz id k v=false
 | [],_,v,hv=>by simp at hv
 | x::l,h,v,hv=>by
  simp only [rE,List.foldr_cons,Bool.or_eq_false_iff] at h
  rcases List.mem_cons.1 hv with e | e
  ·rw [e]; exact h.1
  ·exact vk (l:=l) h.2 v e
def Nu.off (ν aj:Nu) (id:Nat):Prop:=∀ j,j≠id→aj j=ν j
theorem bh.map {ν aj:Nu} {xs ys:List Value} (h:bh ν xs ys) (hm:∀ v∈xs,∀ r,an ν v r→an aj v r):bh aj xs ys :=
 ⟨h.1,fun i x y hx hy=>hm x (List.mem_of_getElem? hx) y (h.2 i x y hx hy)⟩
theorem Du {id:Nat} {ν aj:Nu} (gO:ν.off aj id):∀ (k:Nat) (v r:Value),oz id k v=false→an ν v r→an aj v r:=by
 intro k
 induction k with
 | zero=>intro v r h; simp [oz] at h
 | succ k ih =>
  intro v r h hr
  cases hr with
  | bool b=>exact .bool b
  | int q n=>exact .int q n
  | str s=>exact .str s
  | mg=>exact .mg
  | ptr j row sp l hl=>exact .ptr j row sp l (by rw [gO j (Nat.ne_of_beq_eq_false h)]; exact hl)
  | iF=>exact .iF
  | slice j row n c c' l hl hc hn hr=>exact .slice j row n c c' l (by rw [gO j (Nat.ne_of_beq_eq_false h)]; exact hl) hc hn hr
  | void j row c a hc=>exact .void j row c a hc
  | lK j row m n c' l hl hm hn hr=>exact .lK j row m n c' l (by rw [gO j (Nat.ne_of_beq_eq_false h)]; exact hl) hm hn hr
  | kG j row a=>exact .kG j row a
  | mh=>exact .mh
  | func fn xs ys mY dn h1 J h3 h4 =>
   have h:(rE id k xs || rE id k mY)=false:=h
   rw [Bool.or_eq_false_iff] at h
   have a1:=bh.map (aj:=aj) ⟨h1,J⟩ (fun v hv r hr=>ih v r (vk h.1 v hv) hr)
   have a2:=bh.map (aj:=aj) ⟨h3,h4⟩ (fun v hv r hr=>ih v r (vk h.2 v hv) hr)
   exact .func fn _ _ _ _ a1.1 a1.2 a2.1 a2.2
  | agg xs ys h1 J =>
   have h:rE id k xs=false:=h
   have a1:=bh.map (aj:=aj) ⟨h1,J⟩ (fun v hv r hr=>ih v r (vk h v hv) hr)
   exact .agg _ _ a1.1 a1.2
  | tuple xs ys h1 J =>
   have h:rE id k xs=false:=h
   have a1:=bh.map (aj:=aj) ⟨h1,J⟩ (fun v hv r hr=>ih v r (vk h v hv) hr)
   exact .tuple _ _ a1.1 a1.2
  | dead=>exact .dead _ (by assumption)
/-- The value without what speaks of the block. -/
def pJ (id:Nat):Nat→Value→Option Value
 | 0,_=>none
 | k+1,v=>match oz id 3 v with
  | false=>some v
  | true=>match v.oneCell' with
   | true=>some (.chan none)
   | false=>match v with
    | .agg ⟨l⟩=>match l.foldr (fun v acc=>match pJ id k v,acc with | some x,some xs=>some (x::xs) | _,_=>none) (some []) with | some l'=>some (.agg ⟨l'⟩) | none=>none
    | .tuple ⟨l⟩=>match l.foldr (fun v acc=>match pJ id k v,acc with | some x,some xs=>some (x::xs) | _,_=>none) (some []) with | some l'=>some (.tuple ⟨l'⟩) | none=>none
    | _=>none
def yx (id k:Nat) (l:List Value):Option (List Value):=l.foldr (fun v acc=>match pJ id k v,acc with | some x,some xs=>some (x::xs) | _,_=>none) (some [])
theorem Rm {id m:Nat} {x:Value} {xs l:List Value} (h:yx id m (x::xs)=some l):∃ y ys,l=y::ys∧pJ id m x=some y∧yx id m xs=some ys:=by
 unfold yx at h
 rw [List.foldr_cons] at h
 split at h
 ·rename_i y ys h1 J
  exact ⟨y,ys,(Option.some.inj h).symm,h1,J⟩
 ·cases h
theorem D1 {id m:Nat} {ν aj:Nu} (h:∀ v v2 r,pJ id m v=some v2→an ν v r→an aj v2 r):∀ {xs l rs:List Value},yx id m xs=some l→bh ν xs rs→bh aj l rs
 | [],l,rs,h1,J=>by
  have:l=[]:=by simp [yx] at h1; exact h1
  rw [this,J.iP]; exact .nil _
 | x::xs,l,rs,h1,J=>by
  obtain ⟨y,ys,rfl,e1,e2⟩:=Rm h1
  obtain ⟨r,cj,rfl,k1,k2⟩:=J.jg
  exact .cons (h _ _ _ e1 k1) (D1 h e2 k2)
theorem SM {id:Nat} {ν aj:Nu} (gO:ν.off aj id):∀ (m:Nat) (v v2 r:Value),pJ id m v=some v2→an ν v r→an aj v2 r:=by
 intro m
 induction m with
 | zero=>intro v v2 r h; simp [pJ] at h
 | succ m ih =>
  intro v v2 r h hr
  unfold pJ at h
  split at h
  ·rename_i hm
   cases h
   exact Du gO 3 v r hm hr
  ·split at h
   ·rename_i h1
    cases h
    exact .dead _ (by rw [hr.A7]; exact h1)
   ·split at h
    ·split at h
     ·rename_i l l' e
      cases h
      obtain ⟨ys,rfl,hy⟩:=hr.tB
      have:=D1 (ih) e hy
      exact .agg _ _ this.1 this.2
     ·cases h
    ·split at h
     ·rename_i l l' e
      cases h
      obtain ⟨ys,rfl,hy⟩:=hr.np
      have:=D1 (ih) e hy
      exact .tuple _ _ this.1 this.2
     ·cases h
    ·cases h
def yP {α:Type} (o:Option α) (k:α→Prop):Prop:=match o with | some a=>k a | none=>False
theorem D2 {α:Type} {o:Option α} {k:α→Prop} (h:yP o k):∃ a,o=some a∧k a:=by
 unfold yP at h; split at h
 ·exact ⟨_,rfl,h⟩
 ·exact h.elim
theorem Dv {P:Value→Value→Prop}:∀ {ys:List Value},(∀ y∈ys,∃ x,P x y)→∃ xs:List Value,xs.length=ys.length∧∀ (i:Nat) x y,xs[i]?=some x→ys[i]?=some y→P x y
 | [],_=>⟨[],rfl,fun i x y hx=>by simp at hx⟩
 | y::ys,h=>by
  obtain ⟨x,hx⟩:=h y (by simp)
  obtain ⟨xs,h1,J⟩:=Dv (ys:=ys) (fun z hz=>h z (by simp [hz]))
  refine ⟨x::xs,by simp [h1],fun i a b ha hb=>?_⟩
  cases i with
  | zero=>simp at ha hb; subst ha; subst hb; exact hx
  | succ i=>exact J i a b (by simpa using ha) (by simpa using hb)
/-- What stands for a value under any numbering. -/
theorem an.any {ν:Nu} {v r:Value} (h:an ν v r):∃ x,∀ aj,an aj x r:=by
 induction h with
 | agg xs ys h1 _ ih =>
  obtain ⟨zs,e1,e2⟩:=Dv (P:=fun x y=>∀ aj,an aj x y) (ys:=ys) (fun y hy=>by
   obtain ⟨i,hi,rfl⟩:=List.getElem_of_mem hy
   exact ih i _ _ (List.getElem?_eq_getElem (h1 ▸ hi)) (List.getElem?_eq_getElem hi))
  exact ⟨.agg ⟨zs⟩,fun aj=>.agg _ _ e1 (fun i x y hx hy=>e2 i x y hx hy aj)⟩
 | tuple xs ys h1 _ ih =>
  obtain ⟨zs,e1,e2⟩:=Dv (P:=fun x y=>∀ aj,an aj x y) (ys:=ys) (fun y hy=>by
   obtain ⟨i,hi,rfl⟩:=List.getElem_of_mem hy
   exact ih i _ _ (List.getElem?_eq_getElem (h1 ▸ hi)) (List.getElem?_eq_getElem hi))
  exact ⟨.tuple ⟨zs⟩,fun aj=>.tuple _ _ e1 (fun i x y hx hy=>e2 i x y hx hy aj)⟩
 | dead w hw=>exact ⟨.chan none,fun aj=>.dead w hw⟩
 | _=>exact ⟨.chan none,fun aj=>.dead _ rfl⟩
def HS (i:Nat):List Nat→Bool
 | []=>false
 | a::l=>match Nat.beq a i with
  | true=>true
  | false=>HS i l
/-- The slots: those that are kept, without what speaks of the block; the others hold what 'a' says. -/
def tO (a:Nat→Value) (id:Nat) (aa:List Nat):Nat→List Value→(List Value→Prop)→Prop
 | _,[],k=>k []
 | i,v::l,k=>match HS i aa with
  | true=>yP (pJ id 3 v) fun v'=>tO a id aa (i+1) l fun l'=>k (v'::l')
  | false=>tO a id aa (i+1) l fun l'=>k (a i::l')
theorem Ms {ν:Nu} {t r:List Value} (h:bh ν t r):∃ a:Nat→Value,∀ (j:Nat) (y:Value),r[j]?=some y→∀ aj,an aj (a j) y:=by
 have hx:∀ j:Nat,∃ x:Value,∀ y:Value,r[j]?=some y→∀ aj,an aj x y:=by
  intro j
  cases hj:r[j]? with
  | none=>exact ⟨undef,fun y hy=>by simp at hy⟩
  | some y =>
   have ak:j < t.length:=by
    rw [h.1]
    exact (List.getElem?_eq_some_iff.1 hj).1
   obtain ⟨x,hx⟩:=(h.2 j t[j] y (List.getElem?_eq_getElem ak) hj).any
   exact ⟨x,fun y' hy=>by cases hy; exact hx⟩
 exact ⟨fun j=>Classical.choose (hx j),fun j y hy=>Classical.choose_spec (hx j) y hy⟩
theorem LF {a:Nat→Value} {i:Nat} {y:Value} {ys:List Value} (h:∀ (j:Nat) (z:Value),(y::ys)[j]?=some z→∀ aj:Nu,an aj (a (i+j)) z) :
  (∀ aj:Nu,an aj (a i) y)∧∀ (j:Nat) (z:Value),ys[j]?=some z→∀ aj:Nu,an aj (a (i+1+j)) z:=by
 refine ⟨fun aj=>h 0 y rfl aj,fun j z hz aj=>?_⟩
 have:=h (j+1) z (by simpa using hz) aj
 rw [show i+1+j=i+(j+1) by omega]
 exact this
theorem DJ {a:Nat→Value} {id:Nat} {aa:List Nat}:∀ {t:List Value} {i:Nat} {k:List Value→Prop},tO a id aa i t k→∀ (ν:Nu) r,bh ν t r→(∀ (j:Nat) (y:Value),r[j]?=some y→∀ aj:Nu,an aj (a (i+j)) y)→∃ t',k t'∧∀ aj,ν.off aj id→bh aj t' r
 | [],i,k,h,ν,r,hr,ha=>⟨[],h,fun aj _=>by rw [hr.iP]; exact .nil _⟩
 | v::l,i,k,h,ν,r,hr,ha=>by
  obtain ⟨y,ys,rfl,h1,J⟩:=hr.jg
  obtain ⟨hx,ha⟩:=LF ha
  unfold tO at h
  split at h
  ·obtain ⟨v',e,h⟩:=D2 h
   obtain ⟨l',h3,h4⟩:=DJ h ν ys J ha
   exact ⟨_,h3,fun aj ho=>.cons (SM ho 3 _ _ _ e h1) (h4 aj ho)⟩
  ·obtain ⟨l',h3,h4⟩:=DJ h ν ys J ha
   exact ⟨_,h3,fun aj ho=>.cons (hx _) (h4 aj ho)⟩
/-- A cell of a row. -/
def tP (id:Nat) (v:Value):Value:=match oz id 3 v with | false=>v | true=>.chan none
def AS (id:Nat):List (List Value)→(List (List Value)→Prop)→Prop
 | [],k=>k []
 | r::l,k=>AS id l fun l'=>k (r.map (tP id)::l')
theorem Jl {id:Nat}:∀ {l:List (List Value)} {k:List (List Value)→Prop},AS id l k→k (l.map fun r=>r.map (tP id))
 | [],k,h=>h
 | r::l,k,h=>by have:=Jl (l:=l) h; simpa using this
def yy (id:Nat):List (List Value)→Bool
 | []=>false
 | r::l=>rE id 3 r || yy id l
theorem Kc {id:Nat}:∀ {l:List (List Value)},yy id l=false→∀ r∈l,rE id 3 r=false
 | [],_,v,hv=>by simp at hv
 | x::l,h,v,hv=>by
  simp only [yy,Bool.or_eq_false_iff] at h
  rcases List.mem_cons.1 hv with e | e
  ·rw [e]; exact h.1
  ·exact Kc (l:=l) h.2 v e
def yz (id:Nat) (b:ai) (k:ai→Prop):Prop :=
 match b with
 | .flat o n e g=>k (.flat o n e g)
 | .aQ o e rows=>match yy id rows with
  | false=>k (.aQ o e rows)
  | true=>AS id rows fun iT=>k (.aQ o e iT)
 | .cm r=>k (.cm r)
theorem Kd {id:Nat} {b:ai} {k:ai→Prop} (h:yz id b k):∃ b',k b'∧b'.own=b.own∧∀ (ν aj:Nu) (l:Loc) (w:World),ν.off aj id→bQ ν l b w→bQ aj l b' w:=by
 cases b with
 | flat o n e g =>
  exact ⟨_,h,rfl,fun ν aj l w ho hB=>⟨hB.ah,hB.len,fun r hr j v hv=>by
   obtain ⟨v',h1,J⟩:=hB.cell r hr j v hv
   have:=hB.plain rfl r hr v (List.mem_of_getElem? hv)
   rw [J.j4 this] at h1
   exact ⟨v,h1,an.j3 this⟩,hB.plain,hB.one,hB.own,hB.lr,hB.live⟩⟩
 | cm r =>
  exact ⟨_,h,rfl,fun ν aj l w ho hB=>⟨hB.ah,fun r hr=>absurd hr (Nat.not_lt_zero r),fun r hr=>absurd hr (Nat.not_lt_zero r),(fun h=>nomatch h),fun r hr=>absurd hr (Nat.not_lt_zero r),fun _ h=>(nomatch h),hB.lr,hB.live⟩⟩
 | aQ o e rows =>
  have h:(match yy id rows with
   | false=>k (.aQ o e rows)
   | true=>AS id rows fun iT=>k (.aQ o e iT)):=h
  split at h
  ·rename_i hm
   exact ⟨_,h,rfl,fun ν aj l w ho hB=>⟨hB.ah,hB.len,fun r hr j v hv=>by
    obtain ⟨v',h1,J⟩:=hB.cell r hr j v hv
    refine ⟨v',h1,Du ho 3 v v' ?_ J⟩
    have iI:r < rows.length:=hr
    simp only [ai.row,List.getD,List.getElem?_eq_getElem iI,Option.getD_some] at hv
    exact vk (Kc hm _ (List.getElem_mem _)) v (List.mem_of_getElem? hv),hB.plain,hB.one,hB.own,hB.lr,hB.live⟩⟩
  ·rename_i hm
   have h:=Jl h
   have a9:∀ r,(ai.aQ o e (rows.map fun r=>r.map (tP id))).row r=((ai.aQ o e rows).row r).map (tP id):=by
    intro r
    simp only [ai.row,List.getD,List.getElem?_map]
    cases rows[r]? <;> rfl
   have h1c:∀ v,v.oneCell'=true→(tP id v).oneCell'=true:=by
    intro v hv
    unfold tP
    split
    ·exact hv
    ·rfl
   refine ⟨_,h,rfl,fun ν aj l w ho hB=>⟨hB.ah,fun r hr=>?_,fun r hr j v hv=>?_,fun h=>by simp [ai.iR] at h,fun r hr v hv=>?_,fun h _=>?_,(fun r h=>nomatch h),hB.live⟩⟩
   ·have hr:r < (ai.aQ o e rows).n:=by simpa [ai.n] using hr
    rw [a9,List.length_map]; exact hB.len r hr
   ·have hr:r < (ai.aQ o e rows).n:=by simpa [ai.n] using hr
    rw [a9,List.getElem?_map] at hv
    cases hx:((ai.aQ o e rows).row r)[j]? with
    | none=>rw [hx] at hv; cases hv
    | some x =>
     rw [hx] at hv
     cases hv
     obtain ⟨v',h1,J⟩:=hB.cell r hr j x hx
     refine ⟨v',h1,?_⟩
     unfold tP
     split
     ·rename_i xf; exact Du ho 3 x v' xf J
     ·exact .dead _ (by rw [J.A7]; exact hB.one r hr x (List.mem_of_getElem? hx))
   ·have hr:r < (ai.aQ o e rows).n:=by simpa [ai.n] using hr
    rw [a9] at hv
    obtain ⟨x,hx,rfl⟩:=List.mem_map.1 hv
    exact h1c x (hB.one r hr x hx)
   ·obtain ⟨cur,t,q1,q2,q3⟩:=hB.own h rfl
    exact ⟨cur,t,q1,q2,by simpa [ai.n] using q3⟩
/-- The heap. -/
def wB (id:Nat):ax→(ax→Prop)→Prop
 | [],k=>k []
 | none::H,k=>wB id H fun H'=>k (none::H')
 | some b::H,k=>yz id b fun b'=>wB id H fun H'=>k (some b'::H')
theorem DK {id:Nat}:∀ {H:ax} {k:ax→Prop},wB id H k→∃ H',k H'∧H'.length=H.length∧∀ (j:Nat) (b':ai),H'[j]?=some (some b')→∃ b,H[j]?=some (some b)∧b'.own=b.own ∧
  ∀ (ν aj:Nu) (l:Loc) (w:World),ν.off aj id→bQ ν l b w→bQ aj l b' w
 | [],k,h=>⟨[],h,rfl,fun j b' hj=>by simp at hj⟩
 | none::H,k,h=>by
  obtain ⟨H',h1,J,h3⟩:=DK (H:=H) h
  refine ⟨_,h1,by simp [J],fun j b' hj=>?_⟩
  cases j with
  | zero=>simp at hj
  | succ j=>exact h3 j b' (by simpa using hj)
 | some b::H,k,h=>by
  obtain ⟨b1,h,hb⟩:=Kd h
  obtain ⟨H',h1,J,h3⟩:=DK (H:=H) h
  refine ⟨_,h1,by simp [J],fun j b' hj=>?_⟩
  cases j with
  | zero=>simp at hj; subst hj; exact ⟨b,rfl,hb⟩
  | succ j=>exact h3 j b' (by simpa using hj)
end Go.Ae
/- 'append' upon the abstract heap; functions that work upon the heap. -/
namespace Go.Ae
open Go Go.RowKit
/-- Rows g, m of them, and the real cells. -/
structure CR (ν:Nu) (ah:Nat) (g:Nat→List Value) (m:Nat) (L:List Value):Prop where
 len:L.length=m*ah
 row:∀ r,r < m→(g r).length=ah
 cell:∀ r,r < m→∀ (j:Nat) v,(g r)[j]?=some v→∃ v',L[r*ah+j]?=some v'∧an ν v v'
 one:∀ u∈L,u.oneCell'=true
 rS:∀ r,r < m→∀ v∈g r,v.oneCell'=true
def iB (g:Nat→List Value) (n:Nat) (h:Nat→List Value):Nat→List Value:=fun j=>bif Nat.blt j n then g j else h (j - n)
theorem jc {g h:Nat→List Value} {n j:Nat} (hj:j < n):iB g n h j=g j:=by
 have:Nat.blt j n=true:=by rw [Nat.blt_eq]; exact hj
 simp [iB,this]
theorem gu {g h:Nat→List Value} {n j:Nat} (hj:n≤j):iB g n h j=h (j - n):=by
 have:Nat.blt j n=false:=by
  cases h:Nat.blt j n with
  | false=>rfl
  | true=>rw [Nat.blt_eq] at h; omega
 simp [iB,this]
theorem CR.append {ν:Nu} {ah n m:Nat} {g h:Nat→List Value} {L M:List Value} (a:CR ν ah g n L) (b:CR ν ah h m M):CR ν ah (iB g n h) (n+m) (L++M):=by
 refine ⟨by rw [List.length_append,a.len,b.len,Nat.add_mul],fun r hr=>?_,fun r hr j v hv=>?_,fun u hu=>?_,fun r hr v hv=>?_⟩
 ·by_cases h:r < n
  ·rw [jc h]; exact a.row r h
  ·rw [gu (by omega)]; exact b.row _ (by omega)
 ·by_cases h:r < n
  ·rw [jc h] at hv
   obtain ⟨v',h1,J⟩:=a.cell r h j v hv
   exact ⟨v',by rw [List.getElem?_append_left (List.getElem?_eq_some_iff.1 h1).1]; exact h1,J⟩
  ·rw [gu (by omega)] at hv
   obtain ⟨v',h1,J⟩:=b.cell (r - n) (by omega) j v hv
   refine ⟨v',?_,J⟩
   have e:r*ah+j=L.length+((r - n)*ah+j):=by
    rw [a.len]
    have:r*ah=n*ah+(r - n)*ah:=by rw [← Nat.add_mul]; congr 1; omega
    omega
   rw [e,List.getElem?_append_right (by omega),Nat.add_sub_cancel_left]; exact h1
 ·rcases List.mem_append.1 hu with h | h
  ·exact a.one u h
  ·exact b.one u h
 ·by_cases h:r < n
  ·rw [jc h] at hv; exact a.rS r h v hv
  ·rw [gu (by omega)] at hv; exact b.rS _ (by omega) v hv
theorem CR.nil (ν:Nu) (ah:Nat) (g:Nat→List Value):CR ν ah g 0 [] :=
 ⟨by simp,fun r hr=>absurd hr (by omega),fun r hr=>absurd hr (by omega),fun u hu=>by simp at hu,fun r hr=>absurd hr (by omega)⟩
theorem CR.mono {ν aj:Nu} {ah m:Nat} {g:Nat→List Value} {L:List Value} (h:CR ν ah g m L) (hle:ν.le aj):CR aj ah g m L :=
 ⟨h.len,h.row,fun r hr j v hv=>let ⟨v',h1,J⟩:=h.cell r hr j v hv; ⟨v',h1,J.mono hle⟩,h.one,h.rS⟩
theorem CR.congr {ν:Nu} {ah m:Nat} {g g':Nat→List Value} {L:List Value} (h:CR ν ah g m L) (hg:∀ r,r < m→g' r=g r):CR ν ah g' m L :=
 ⟨h.len,fun r hr=>by rw [hg r hr]; exact h.row r hr,fun r hr j v hv=>h.cell r hr j v (by rw [← hg r hr]; exact hv),h.one,fun r hr v hv=>h.rS r hr v (by rw [← hg r hr]; exact hv)⟩
/-- A stretch of a block, read. -/
theorem CR.F1 {ν:Nu} {l:Loc} {b:ai} {w:World} (hB:bQ ν l b w) {row m:Nat} (hm:row+m≤b.n):∃ L,CR ν b.ah (fun j=>b.row (row+j)) m L∧∀ (j:Nat) u,L[j]?=some u→w.cell? ((l.at row 0).add j)=some u:=by
 have key:∀ q,q < m*b.ah→∃ r j v v',r < m∧j < b.ah∧q=r*b.ah+j∧(b.row (row+r))[j]?=some v∧w.cell? ((l.at row 0).add q)=some v'∧an ν v v'∧v'.oneCell'=true:=by
  intro q hq
  have he:0 < b.ah:=by
   rcases Nat.eq_zero_or_pos b.ah with h | h
   ·rw [h] at hq; omega
   ·exact h
  have hr:q / b.ah < m:=(Nat.div_lt_iff_lt_mul he).2 hq
  have hj:q % b.ah < b.ah:=Nat.mod_lt _ he
  have hlen:=hB.len (row+q / b.ah) (by omega)
  have hv:(b.row (row+q / b.ah))[q % b.ah]?=some _:=List.getElem?_eq_getElem (by omega)
  obtain ⟨v',h1,J⟩:=hB.cell (row+q / b.ah) (by omega) _ _ hv
  refine ⟨q / b.ah,q % b.ah,_,v',hr,hj,by rw [Nat.mul_comm,Nat.div_add_mod],hv,?_,J,by rw [J.A7]; exact hB.one _ (by omega) _ (List.getElem_mem _)⟩
  rw [Loc.jH,← h1]
  unfold Loc.at
  congr 2
  rw [hB.ah,Nat.add_mul]
  have:=Nat.div_add_mod q b.ah
  rw [Nat.mul_comm] at this
  omega
 let L:=(List.range (m*b.ah)).map fun q=>(w.cell? ((l.at row 0).add q)).getD undef
 have kI:∀ q,q < m*b.ah→L[q]?=some ((w.cell? ((l.at row 0).add q)).getD undef):=by
  intro q hq
  simp only [L,List.getElem?_map,List.getElem?_range hq,Option.map_some]
 have hL:L.length=m*b.ah:=by simp [L]
 refine ⟨L,⟨hL,fun r hr=>hB.len _ (by omega),fun r hr j v hv=>?_,fun u hu=>?_,fun r hr v hv=>hB.one _ (by omega) v hv⟩,fun j u hu=>?_⟩
 ·have hj:j < b.ah:=by rw [← hB.len (row+r) (by omega)]; exact (List.getElem?_eq_some_iff.1 hv).1
  have hq:r*b.ah+j < m*b.ah:=by
   have:(r+1)*b.ah≤m*b.ah:=Nat.mul_le_mul_right _ hr
   rw [Nat.add_mul] at this; omega
  obtain ⟨v',h1,J⟩:=hB.cell (row+r) (by omega) j v hv
  refine ⟨v',?_,J⟩
  have e:(l.at row 0).add (r*b.ah+j)=l.at (row+r) j:=by
   rw [Loc.jH]; unfold Loc.at; congr 1; rw [hB.ah,Nat.add_mul]; omega
  rw [kI _ hq,e,h1]; rfl
 ·obtain ⟨q,hq,rfl⟩:=List.getElem_of_mem hu
  rw [hL] at hq
  obtain ⟨r,j,v,v',_,_,_,_,h1,_,J⟩:=key q hq
  have:=kI q hq
  rw [h1] at this
  have e:=List.getElem?_eq_getElem (l:=L) (i:=q) (by omega)
  rw [this] at e
  rw [← Option.some.inj e]; exact J
 ·have hj:j < m*b.ah:=by rw [← hL]; exact (List.getElem?_eq_some_iff.1 hu).1
  obtain ⟨r,q,v,v',_,_,_,_,h1,_,J⟩:=key j hj
  rw [kI j hj,h1] at hu
  rw [h1,← hu]; rfl
/-- A block over cells that hold its rows. -/
theorem Vz {ν:Nu} {ah N cap aH:Nat} {g:Nat→List Value} {L:List Value} {b':ai} (hC:CR ν ah g N L) (a9:∀ r,r < N→b'.row r=g r) (hn:b'.n=N) (he:b'.ah=ah)
  (hf:b'.iR=true→∀ r,r < N→∀ v∈g r,cO v=true) {w':World} {C:Array Value} {t:TypeId} (hw:w'.heap[aH]?=some (.cells C t (0,0))) (hCL:∀ q,q < L.length→C[q]?=L[q]?)
  (fV:N≤cap) (bn:cap*ah≤C.size) (HM:b'.rc=none):bQ ν ⟨aH,0,ah,cap⟩ b' w':=by
 have Gt:aH < w'.heap.size:=(Array.getElem?_eq_some_iff.1 hw).1
 refine ⟨he.symm,fun r hr=>?_,fun r hr j v hv=>?_,fun h r hr v hv=>?_,fun r hr v hv=>?_,fun _ _=>⟨C,t,hw,by simpa using bn,by rw [hn]; exact fV⟩,(fun r h=>by rw [HM] at h; cases h),Gt⟩
 ·rw [hn] at hr; rw [a9 r hr,he]; exact hC.row r hr
 ·rw [hn] at hr; rw [a9 r hr] at hv
  obtain ⟨v',h1,J⟩:=hC.cell r hr j v hv
  refine ⟨v',?_,J⟩
  simp only [Loc.at,World.cell?,Nat.zero_add]
  rw [hw]
  simp only [Option.isSome_none,Bool.false_eq_true,if_false]
  rw [hCL _ (List.getElem?_eq_some_iff.1 h1).1]; exact h1
 ·rw [hn] at hr; rw [a9 r hr] at hv; exact hf h r hr v hv
 ·rw [hn] at hr; rw [a9 r hr] at hv; exact hC.rS r hr v hv
/-- One block turned, the others as they were. -/
theorem bT.fJ {ν aj:Nu} {H H':ax} {w w':World} (h:bT ν H w) {id:Nat} (gO:ν.off aj id)
  (ho:∀ (j:Nat) (b':ai),H'[j]?=some (some b')→j≠id→∃ b,H[j]?=some (some b)∧b'.own=b.own∧∀ l,ν j=some l→bQ ν l b w→bQ aj l b' w')
  (bu:∀ b',H'[id]?=some (some b')→∃ l,aj id=some l∧bQ aj l b' w'∧∀ j lj bj,j≠id→H[j]?=some (some bj)→ν j=some lj→lj.aH≠l.aH):bT aj H' w':=by
 refine ⟨fun j b' hj=>?_,fun i j bi bj li lj hi hj aK HT h1 J=>?_⟩
 ·by_cases e:j=id
  ·subst e; obtain ⟨l,h1,J,_⟩:=bu b' hj; exact ⟨l,h1,J⟩
  ·obtain ⟨b,h1,_,J⟩:=ho j b' hj e
   obtain ⟨l,h3,h4⟩:=h.aH j b h1
   exact ⟨l,by rw [gO j e]; exact h3,J l h3 h4⟩
 ·by_cases ei:i=id
  ·subst ei
   obtain ⟨l,e1,_,e2⟩:=bu bi hi
   rw [h1] at e1; cases e1
   obtain ⟨b,e3,_,_⟩:=ho j bj hj (Ne.symm aK)
   rw [gO j (Ne.symm aK)] at J
   exact Ne.symm (e2 j lj b (Ne.symm aK) e3 J)
  ·obtain ⟨b,e3,e4,_⟩:=ho i bi hi ei
   rw [gO i ei] at h1
   by_cases ej:j=id
   ·subst ej
    obtain ⟨l,e1,_,e2⟩:=bu bj hj
    rw [J] at e1; cases e1
    exact e2 i li b ei e3 h1
   ·obtain ⟨c,e5,_,_⟩:=ho j bj hj ej
    rw [gO j ej] at J
    exact h.sep i j b c li lj e3 e5 aK (by rw [← e4]; exact HT) h1 J
section
variable {P:Program} {w:World}
theorem qQ {t ty e:TypeId} {i:TypeInfo} (ht:P.underlying t=some (.slice e)) (hi:P.info? e=some i) {A oy:Option Addr} {n c m cy:Nat} {L:List Value} (hl:L.length=m*i.size)
  (hL:∀ a,oy=some a→∀ (j:Nat) u,L[j]?=some u→w.cell? (a.add j)=some u) (hn:oy=none→m=0) (cU:n+m≤c) {w2:World}
  (ao:∀ a,A=some a→(storeCells (a.add (n*i.size)) L).run P w=.ok () w2) (mN:A=none→w2=w) :
  (Builtin.append_ #[t,t] ty #[.slice A n c,.slice oy m cy]).run P w=.ok (.slice A (n+m) c) w2:=by
 have hf:(Builtin.firstCells i.size m (.slice oy m cy)).run P w=.ok L.toArray w:=by
  cases oy with
  | none =>
   have:=hn rfl
   subst this
   have:L=[]:=List.eq_nil_of_length_eq_zero (by simpa using hl)
   rw [this]
   exact run_firstCells_none (P:=P) (w:=w) i.size 0 0 cy
  | some a=>exact run_firstCells_some (P:=P) w i.size m a m cy L hl (hL a rfl)
 cases A with
 | none =>
  have:=mN rfl
  subst this
  simp [Builtin.append_,run_underlying ht,sizeOf,typeInfo,hi,Builtin.lenOf,cU,hf]
 | some a =>
  have:=ao a rfl
  simp [Builtin.append_,run_underlying ht,sizeOf,typeInfo,hi,Builtin.lenOf,cU,hf,this]
/-- What a growing slice lays. -/
def s7 (C:Array Value) (z:Value) (k:Nat) (e:TypeId):Obj:=.cells (C++Builtin.zeroCells z.cells k) e
theorem Ab {t ty e:TypeId} {i:TypeInfo} {z:Value} (ht:P.underlying t=some (.slice e)) (hi:P.info? e=some i) (hz:i.zero=some z) {A oy:Option Addr} {n c m cy:Nat} {O L:List Value}
  (gZ:O.length=n*i.size) (hO:∀ a,A=some a→∀ (j:Nat) u,O[j]?=some u→w.cell? (a.add j)=some u) (hA:A=none→n=0∧c=0)
  (hl:L.length=m*i.size) (hL:∀ a,oy=some a→∀ (j:Nat) u,L[j]?=some u→w.cell? (a.add j)=some u) (hn:oy=none→m=0) (CI:n≤c) (cU:c < n+m) (hB:(n+m)*i.bytes≤140737488355328) (hN:n+m≤140737488355328) :
  (Builtin.append_ #[t,t] ty #[.slice A n c,.slice oy m cy]).run P w=.ok (.slice (some ⟨w.heap.size,0,none⟩) (n+m) (grownCap w (n+m) c e)) (w.drew.alloc (s7 (O++L).toArray z (grownCap w (n+m) c e - (n+m)) e)):=by
 cases oy with
 | none=>have:=hn rfl; omega
 | some a =>
  cases A with
  | none =>
   obtain ⟨rfl,rfl⟩:=hA rfl
   have hO0:O=[]:=List.eq_nil_of_length_eq_zero (by simpa using gZ)
   subst hO0
   have:=run_append_nil (P:=P) (w:=w) t ty e i z ht hi hz a m cy L hl (hL a rfl) (by omega) (by omega) (by simp only [Nat.zero_add] at hB; omega)
   simp only [Nat.zero_add,List.nil_append]
   exact this
  | some b =>
   have:=run_append_grow (P:=P) (w:=w) t ty e i z ht hi hz b n c O gZ (hO b rfl) a m cy L hl (hL a rfl) cU (by omega) (growslice_fits cU hB)
   rw [this]
   simp [s7]
end
/-! ### What is appended -/
inductive Src where
 | fl (m:Nat) (g:Nat→List Value)
 | ex (L:List (List Value))
def Src.m:Src→Nat
 | .fl m _=>m
 | .ex L=>L.length
def Src.get:Src→Nat→List Value
 | .fl _ g=>g
 | .ex L=>fun j=>L.getD j []
def Src.kf:Src→Bool
 | .fl _ _=>true
 | .ex _=>false
def rF:List (List Value)→Nat→Nat→(List (List Value)→Prop)→Prop
 | _,0,0,k=>k []
 | [],0,_+1,_=>False
 | v::l,0,n+1,k=>rF l 0 n fun vs=>k (v::vs)
 | [],_+1,_,_=>False
 | _::l,o+1,n,k=>rF l o n k
theorem xF:∀ {l:List (List Value)} {o n:Nat} {k:List (List Value)→Prop},rF l o n k→∃ vs,k vs∧(vs.length=n∧o+n≤l.length)∧∀ (j:Nat) v,vs[j]?=some v→l[o+j]?=some v
 | l,0,0,k,h=>⟨[],by cases l <;> exact h,⟨rfl,by simp⟩,fun j v hv=>by simp at hv⟩
 | [],0,_+1,_,h=>h.elim
 | v::l,0,n+1,k,h=>by
  obtain ⟨vs,h1,⟨J,h4⟩,h3⟩:=xF (l:=l) h
  refine ⟨v::vs,h1,⟨by simp [J],by simp at h4 ⊢; omega⟩,fun j u hu=>?_⟩
  cases j with
  | zero=>simpa using hu
  | succ j=>have:=h3 j u (by simpa using hu); simpa using this
 | [],o+1,n,k,h=>by cases n <;> exact h.elim
 | x::l,o+1,n,k,h=>by
  have h':rF l o n k:=by cases n <;> exact h
  obtain ⟨vs,h1,⟨J,h4⟩,h3⟩:=xF (l:=l) h'
  exact ⟨vs,h1,⟨J,by simp; omega⟩,fun j v hv=>by have:=h3 j v hv; rwa [show o+1+j=(o+j)+1 by omega,List.getElem?_cons_succ]⟩
def BL:List (List Value)→Bool
 | []=>true
 | r::l=>mj r && BL l
theorem Ke:∀ {l:List (List Value)},BL l=true→∀ r∈l,∀ v∈r,cO v=true
 | [],_,r,hr=>by simp at hr
 | q::l,h,r,hr=>by
  simp only [BL,Bool.and_eq_true] at h
  rcases List.mem_cons.1 hr with e | e
  ·rw [e]; exact dG h.1
  ·exact Ke h.2 r e
def rT:List (List Value)→List (List Value)→(List (List Value)→Prop)→Prop
 | [],l,k=>k l
 | x::xs,l,k=>rT xs l fun r=>k (x::r)
theorem xK:∀ {xs l:List (List Value)} {k:List (List Value)→Prop},rT xs l k→k (xs++l)
 | [],_,_,h=>h
 | _::xs,l,k,h=>xK (xs:=xs) h
def wC (g:Nat→List Value):Nat→Nat→(List (List Value)→Prop)→Prop
 | _,0,k=>k []
 | i,m+1,k=>wC g (i+1) m fun l=>k (g i::l)
theorem DL {g:Nat→List Value}:∀ {m i:Nat} {k:List (List Value)→Prop},wC g i m k→∃ l,k l∧l.length=m∧∀ j,j < m→l.getD j []=g (i+j)
 | 0,i,k,h=>⟨[],h,rfl,fun j hj=>absurd hj (by omega)⟩
 | m+1,i,k,h=>by
  obtain ⟨l,h1,J,h3⟩:=DL (m:=m) h
  refine ⟨_,h1,by simp [J],fun j hj=>?_⟩
  cases j with
  | zero=>simp [List.getD]
  | succ j =>
   have:=h3 j (by omega)
   simp only [List.getD,List.getElem?_cons_succ] at this ⊢
   rw [this]; congr 1; omega
def yQ (H:ax) (ah:Nat) (yv:Value) (k:Src→Prop):Prop :=
 match yv with
 | .slice none 0 0=>k (.fl 0 fun _=>[])
 | .slice (some ⟨id,row,_⟩) m _=>gF H id fun b=>match Nat.beq b.ah ah with
  | true=>match b with
   | .flat _ n _ get=>row+m≤n∧k (.fl m fun j=>get (fe row j))
   | .aQ _ _ rows=>rF rows row m fun L=>match BL L with
    | true=>k (.fl m fun j=>L.getD j [])
    | false=>k (.ex L)
   | .cm _=>False
  | false=>False
 | _=>False
theorem D3 {H:ax} {ah:Nat} {yv:Value} {k:Src→Prop} (h:yQ H ah yv k):∃ s,k s∧(s.kf=true→∀ r,r < s.m→∀ (ν:Nu) w,bT ν H w→∀ v∈s.get r,cO v=true) ∧
  ∀ (ν:Nu) (w:World) (r:Value),bT ν H w→an ν yv r→∃ oy cy L,r=.slice oy s.m cy∧(oy=none→s.m=0)∧CR ν ah s.get s.m L∧∀ a,oy=some a→∀ (j:Nat) u,L[j]?=some u→w.cell? (a.add j)=some u:=by
 unfold yQ at h
 split at h
 ·refine ⟨_,h,fun _ r hr=>absurd hr (by simp [Src.m]),fun ν w r hH hr=>?_⟩
  have:=hr.o9
  subst this
  exact ⟨none,0,[],rfl,fun _=>rfl,CR.nil _ _ _,fun a ha=>by cases ha⟩
 ·rename_i id row sp m c
  obtain ⟨b,hb,h⟩:=gA h
  split at h
  ·rename_i he
   have he:b.ah=ah:=Nat.eq_of_beq_eq_true he
   -- a source whose rows are the block's
   have gen:∀ (s:Src),s.m=m→row+m≤b.n→(∀ j,j < m→s.get j=b.row (row+j))→∀ (ν:Nu) (w:World) (r:Value),bT ν H w→an ν (.slice (some ⟨id,row,sp⟩) m c) r →
     ∃ oy cy L,r=.slice oy s.m cy∧(oy=none→s.m=0)∧CR ν ah s.get s.m L∧∀ a,oy=some a→∀ (j:Nat) u,L[j]?=some u→w.cell? (a.add j)=some u:=by
    intro s hm hle a9 ν w r hH hr
    obtain ⟨l,hl,hB⟩:=hH.aH id b hb
    rcases hr.Br with ⟨l',c',cJ,_,_,rfl⟩ | ⟨km,bb,rfl⟩
    ·rw [hl] at cJ; cases cJ
     obtain ⟨L,h1,J⟩:=CR.F1 hB hle
     rw [he] at h1
     refine ⟨_,c',L,by rw [hm],(fun h=>by cases h),?_,(fun a ha=>by cases ha; exact J)⟩
     rw [hm]
     exact h1.congr a9
    ·refine ⟨some bb,0,[],by rw [hm,km],(fun h=>by cases h),?_,fun a ha j u hu=>by simp at hu⟩
     rw [hm,km]
     exact CR.nil _ _ _
   cases b with
   | flat o n e get =>
    obtain ⟨hle,h⟩:=h
    have a9:∀ j,j < m→(Src.fl m fun j=>get (fe row j)).get j=(ai.flat o n e get).row (row+j):=fun j _=>by simp [Src.get,ai.row,aq]
    refine ⟨_,h,fun _ r hr ν w hH v hv=>?_,gen _ rfl hle a9⟩
    obtain ⟨l,hl,hB⟩:=hH.aH id _ hb
    have hr:r < m:=hr
    rw [a9 r hr] at hv
    exact hB.plain rfl (row+r) (by simp only [ai.n]; omega) v hv
   | aQ o e rows =>
    obtain ⟨L,h,⟨hlen,hle⟩,kI⟩:=xF h
    have a9:∀ j,j < m→L.getD j []=(ai.aQ o e rows).row (row+j):=fun j hj=>by
     have ak:j < L.length:=by omega
     have:=kI j _ (List.getElem?_eq_getElem ak)
     simp [ai.row,List.getD,this,List.getElem?_eq_getElem ak]
    split at h
    ·rename_i hs
     refine ⟨_,h,fun _ r hr ν w hH v hv=>?_,gen _ rfl hle a9⟩
     have hr:r < m:=hr
     have ak:r < L.length:=by omega
     have hv:v∈L.getD r []:=hv
     simp only [List.getD,List.getElem?_eq_getElem ak,Option.getD_some] at hv
     exact Ke hs _ (List.getElem_mem _) v hv
    ·exact ⟨_,h,fun h=>by simp [Src.kf] at h,gen _ hlen hle a9⟩
   | cm r=>exact h.elim
  ·exact h.elim
 ·exact h.elim
end Go.Ae
