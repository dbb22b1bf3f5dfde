import Derived.OrdersIn
import Derived.CallsIn
import Derived.ControlIn
import Derived.Below
import Derived.Laws.IdiomCopy
import Derived.Laws.AppendOwn
import Derived.Laws.NewBlocks
import Derived.Laws.BytesString
import Derived.Laws.MakeOwn
import Derived.Laws.IdiomStrings
import Derived.RangeFuncSeq
set_option linter.unusedVariables false
set_option linter.unusedSimpArgs false
/- The frame of an abstract evaluator over the model's code: values with abstract blocks, how they stand for real ones, and the abstract evaluation of operands and slots. Plain definitions and lemmas; no program in sight. -/
namespace Go.Ae
open Go Go.RowKit
/-- Where an abstract block lies: real block, first cell, cells of a row, rows that there is room for. -/
structure Loc where
 blk:Nat
 base:Nat
 esz:Nat
 cap:Nat
def Loc.at (l:Loc) (row col:Nat):Addr:=⟨l.blk,l.base+row*l.esz+col,none⟩
abbrev Nu:=Nat→Option Loc
def Nu.le (ν ν':Nu):Prop:=∀ id l,ν id=some l→ν' id=some l
theorem Nu.le_refl (ν:Nu):ν.le ν:=fun _ _ h=>h
theorem Nu.le_trans {a b c:Nu} (h:a.le b) (k:b.le c):a.le c:=fun id l e=>k id l (h id l e)
def Nu.add (ν:Nu) (id:Nat) (l:Loc):Nu:=fun j=>if j=id then some l else ν j
theorem Nu.le_add {ν:Nu} {id:Nat} {l:Loc} (h:ν id=none):ν.le (ν.add id l):=by
 intro j k hj
 by_cases e:j=id
 ·subst e; rw [h] at hj; cases hj
 ·simp [Nu.add,e,hj]
theorem Nu.add_same {ν:Nu} {id:Nat} {l:Loc}:ν.add id l id=some l:=by simp [Nu.add]
theorem Nu.add_ne {ν:Nu} {id j:Nat} {l:Loc} (h:j≠id):ν.add id l j=ν j:=by simp [Nu.add,h]
/-- A value without addresses, of one cell. -/
def scal:Value→Bool
 | .bool _ | .int _ _ | .string _=>true
 | _=>false
/-- The capacity of which nothing is known. -/
def capU:Nat:=9223372036854775808
/-- The abstract value (left) stands for the real one. An abstract address: block, row, column in 'spot'. -/
inductive VRel (ν:Nu):Value→Value→Prop
 | bool (b:Bool):VRel ν (.bool b) (.bool b)
 | int (k:IntKind) (n:Int):VRel ν (.int k n) (.int k n)
 | str (s:ByteArray):VRel ν (.string s) (.string s)
 | pnil:VRel ν (.pointer none) (.pointer none)
 | ptr (id row:Nat) (sp:Option Nat) (l:Loc) (h:ν id=some l):VRel ν (.pointer (some ⟨id,row,sp⟩)) (.pointer (some (l.at row (sp.getD 0))))
 | snil:VRel ν (.slice none 0 0) (.slice none 0 0)
 | slice (id row n c c':Nat) (l:Loc) (h:ν id=some l) (hc:c'=c∨c=capU) (hn:n≤c') (hr:row+c'≤l.cap) :
   VRel ν (.slice (some ⟨id,row,none⟩) n c) (.slice (some (l.at row 0)) n c')
 | void (id row c:Nat) (a:Addr) (hc:0=c∨c=capU):VRel ν (.slice (some ⟨id,row,none⟩) 0 c) (.slice (some a) 0 0)
 | lim (id row m n c':Nat) (l:Loc) (h:ν id=some l) (hm:m≤c') (hn:n≤c') (hr:row+c'≤l.cap) :
   VRel ν (.slice (some ⟨id,row,some m⟩) n capU) (.slice (some (l.at row 0)) n c')
 | limz (id row:Nat) (a:Addr):VRel ν (.slice (some ⟨id,row,some 0⟩) 0 capU) (.slice (some a) 0 0)
 | fnil:VRel ν .nilFunc .nilFunc
 | func (fn:Fn) (xs ys xs' ys':List Value) (h1:xs.length=ys.length) (h2:∀ (i:Nat) (x y:Value),xs[i]?=some x→ys[i]?=some y→VRel ν x y)
   (h3:xs'.length=ys'.length) (h4:∀ (i:Nat) (x y:Value),xs'[i]?=some x→ys'[i]?=some y→VRel ν x y) :
   VRel ν (.func fn ⟨xs⟩ ⟨xs'⟩) (.func fn ⟨ys⟩ ⟨ys'⟩)
 | agg (xs ys:List Value) (h1:xs.length=ys.length) (h2:∀ (i:Nat) (x y:Value),xs[i]?=some x→ys[i]?=some y→VRel ν x y):VRel ν (.agg ⟨xs⟩) (.agg ⟨ys⟩)
 | tuple (xs ys:List Value) (h1:xs.length=ys.length) (h2:∀ (i:Nat) (x y:Value),xs[i]?=some x→ys[i]?=some y→VRel ν x y):VRel ν (.tuple ⟨xs⟩) (.tuple ⟨ys⟩)
 | dead (w:Value) (h:w.oneCell'=true):VRel ν (.chan none) w
/-- Element by element. -/
def LRel (ν:Nu) (xs ys:List Value):Prop:=xs.length=ys.length∧∀ (i:Nat) (x y:Value),xs[i]?=some x→ys[i]?=some y→VRel ν x y
theorem VRel.mono {ν ν':Nu} (hle:ν.le ν') {v w:Value} (h:VRel ν v w):VRel ν' v w:=by
 induction h with
 | bool b=>exact .bool b
 | int k n=>exact .int k n
 | str s=>exact .str s
 | pnil=>exact .pnil
 | ptr id row sp l h=>exact .ptr id row sp l (hle _ _ h)
 | snil=>exact .snil
 | slice id row n c c' l h hc hn hr=>exact .slice id row n c c' l (hle _ _ h) hc hn hr
 | void id row c a hc=>exact .void id row c a hc
 | lim id row m n c' l h hm hn hr=>exact .lim id row m n c' l (hle _ _ h) hm hn hr
 | limz id row a=>exact .limz id row a
 | fnil=>exact .fnil
 | func fn xs ys xs' ys' h1 _ h3 _ i2 i4=>exact .func fn xs ys xs' ys' h1 i2 h3 i4
 | agg xs ys h1 _ i2=>exact .agg xs ys h1 i2
 | tuple xs ys h1 _ i2=>exact .tuple xs ys h1 i2
 | dead w h=>exact .dead w h
theorem LRel.mono {ν ν':Nu} (hle:ν.le ν') {xs ys:List Value} (h:LRel ν xs ys):LRel ν' xs ys :=
 ⟨h.1,fun i x y hx hy=>(h.2 i x y hx hy).mono hle⟩
theorem LRel.nil (ν:Nu):LRel ν [] []:=⟨rfl,fun i x y hx _=>by simp at hx⟩
theorem LRel.cons {ν:Nu} {x y:Value} {xs ys:List Value} (h:VRel ν x y) (hs:LRel ν xs ys):LRel ν (x::xs) (y::ys):=by
 refine ⟨by simp [hs.1],fun i a b ha hb=>?_⟩
 cases i with
 | zero=>simp at ha hb; subst ha; subst hb; exact h
 | succ i=>exact hs.2 i a b (by simpa using ha) (by simpa using hb)
theorem LRel.head {ν:Nu} {x y:Value} {xs ys:List Value} (h:LRel ν (x::xs) (y::ys)):VRel ν x y:=h.2 0 x y rfl rfl
theorem LRel.tail {ν:Nu} {x y:Value} {xs ys:List Value} (h:LRel ν (x::xs) (y::ys)):LRel ν xs ys :=
 ⟨by have:=h.1; simpa using this,fun i a b ha hb=>h.2 (i+1) a b (by simpa using ha) (by simpa using hb)⟩
theorem LRel.uncons {ν:Nu} {x:Value} {xs zs:List Value} (h:LRel ν (x::xs) zs):∃ y ys,zs=y::ys∧VRel ν x y∧LRel ν xs ys:=by
 cases zs with
 | nil=>simp [LRel] at h
 | cons y ys=>exact ⟨y,ys,rfl,h.head,h.tail⟩
theorem LRel.nil_inv {ν:Nu} {zs:List Value} (h:LRel ν [] zs):zs=[]:=by
 cases zs with
 | nil=>rfl
 | cons y ys=>simp [LRel] at h
theorem LRel.append {ν:Nu} {a b c d:List Value} (h:LRel ν a b) (k:LRel ν c d):LRel ν (a++c) (b++d):=by
 induction a generalizing b with
 | nil=>rw [LRel.nil_inv h]; exact k
 | cons x xs ih=>obtain ⟨y,ys,rfl,h1,h2⟩:=h.uncons; exact .cons h1 (ih h2)
theorem LRel.get {ν:Nu} {xs ys:List Value} (h:LRel ν xs ys) {i:Nat} {x:Value} (hx:xs[i]?=some x):∃ y,ys[i]?=some y∧VRel ν x y:=by
 have hi:i < xs.length:=(List.getElem?_eq_some_iff.1 hx).1
 refine ⟨ys[i]'(h.1 ▸ hi),List.getElem?_eq_getElem _,h.2 i _ _ hx (List.getElem?_eq_getElem _)⟩
theorem LRel.set {ν:Nu} {xs ys:List Value} (h:LRel ν xs ys) {v w:Value} (hv:VRel ν v w) (i:Nat):LRel ν (xs.set i v) (ys.set i w):=by
 refine ⟨by simp [h.1],fun j x y hx hy=>?_⟩
 rw [List.getElem?_set] at hx hy
 by_cases e:i=j
 ·subst e
  rw [if_pos rfl] at hx hy
  split at hx
  ·split at hy
   ·cases hx; cases hy; exact hv
   ·cases hy
  ·cases hx
 ·rw [if_neg e] at hx hy
  exact h.2 j x y hx hy
theorem VRel.of_scal {ν:Nu} {v w:Value} (h:scal v=true) (hr:VRel ν v w):w=v:=by
 cases hr <;> simp_all [scal]
theorem VRel.scal_self {ν:Nu} {v:Value} (h:scal v=true):VRel ν v v:=by
 cases v <;> simp [scal] at h <;> constructor
theorem VRel.to_agg {ν:Nu} {xs:List Value} {r:Value} (h:VRel ν (.agg ⟨xs⟩) r):∃ ys,r=.agg ⟨ys⟩∧LRel ν xs ys:=by
 cases h with | agg _ ys h1 h2=>exact ⟨ys,rfl,h1,h2⟩
theorem VRel.to_tuple {ν:Nu} {xs:List Value} {r:Value} (h:VRel ν (.tuple ⟨xs⟩) r):∃ ys,r=.tuple ⟨ys⟩∧LRel ν xs ys:=by
 cases h with | tuple _ ys h1 h2=>exact ⟨ys,rfl,h1,h2⟩
theorem VRel.undef (ν:Nu):VRel ν undef undef:=.tuple [] [] rfl (fun i x y hx _=>by simp at hx)
/-- A cell: no aggregate, no tuple. -/
theorem VRel.oneCell {ν:Nu} {v w:Value} (h:VRel ν v w):w.oneCell'=v.oneCell':=by cases h <;> first | rfl | assumption
theorem VRel.cells {ν:Nu} {v w:Value} (h:VRel ν v w):LRel ν v.cells.toList w.cells.toList:=by
 cases h with
 | agg xs ys h1 h2=>exact ⟨h1,h2⟩
 | bool b=>exact .cons (.bool b) (.nil ν)
 | int k n=>exact .cons (.int k n) (.nil ν)
 | str s=>exact .cons (.str s) (.nil ν)
 | pnil=>exact .cons .pnil (.nil ν)
 | ptr id row sp l h=>exact .cons (.ptr id row sp l h) (.nil ν)
 | snil=>exact .cons .snil (.nil ν)
 | slice id row n c c' l h hc hn hr=>exact .cons (.slice id row n c c' l h hc hn hr) (.nil ν)
 | void id row c a hc=>exact .cons (.void id row c a hc) (.nil ν)
 | lim id row m n c' l h hm hn hr=>exact .cons (.lim id row m n c' l h hm hn hr) (.nil ν)
 | limz id row a=>exact .cons (.limz id row a) (.nil ν)
 | fnil=>exact .cons .fnil (.nil ν)
 | func fn xs ys xs' ys' h1 h2 h3 h4=>exact .cons (.func fn xs ys xs' ys' h1 h2 h3 h4) (.nil ν)
 | tuple xs ys h1 h2=>exact .cons (.tuple xs ys h1 h2) (.nil ν)
 | dead w h=>
  have e:w.cells=#[w]:=by cases w <;> first | rfl | simp [Value.oneCell'] at h
  rw [e]; exact .cons (.dead w h) (.nil ν)
/-- An abstract block: rows of cells. 'expl': the rows are written out (they may hold addresses); 'flat': a function that gives them, plain cells alone. 'own': may be written. -/
inductive Blk where
 | expl (own:Bool) (esz:Nat) (rows:List (List Value))
 | flat (own:Bool) (n esz:Nat) (get:Nat→List Value)
 | lrec (r:Loop)
def Blk.own:Blk→Bool
 | .expl o _ _ | .flat o _ _ _=>o
 | .lrec _=>true
def Blk.esz:Blk→Nat
 | .expl _ e _ | .flat _ _ e _=>e
 | .lrec _=>0
def Blk.n:Blk→Nat
 | .expl _ _ rows=>rows.length
 | .flat _ n _ _=>n
 | .lrec _=>0
def Blk.row:Blk→Nat→List Value
 | .expl _ _ rows=>fun r=>rows.getD r []
 | .flat _ _ _ get=>get
 | .lrec _=>fun _=>[]
def Blk.isFlat:Blk→Bool
 | .expl ..=>false
 | .flat ..=>true
 | .lrec _=>false
/-- Own, and made of cells. -/
def Blk.ownC:Blk→Bool
 | .expl o _ _ | .flat o _ _ _=>o
 | .lrec _=>false
/-- The record of a range over a function. -/
def Blk.rc:Blk→Option Loop
 | .lrec r=>some r
 | _=>none
abbrev Heap:=List (Option Blk)
theorem Blk.ownC_spec {b:Blk} (h:b.ownC=true):b.own=true∧b.rc=none:=by
 cases b with
 | expl o e r=>exact ⟨h,rfl⟩
 | flat o n e g=>exact ⟨h,rfl⟩
 | lrec r=>cases h
structure BRel (ν:Nu) (l:Loc) (b:Blk) (w:World):Prop where
 esz:l.esz=b.esz
 len:∀ r,r < b.n→(b.row r).length=b.esz
 cell:∀ r,r < b.n→∀ j v,(b.row r)[j]?=some v→∃ v',w.cell? (l.at r j)=some v'∧VRel ν v v'
 plain:b.isFlat=true→∀ r,r < b.n→∀ v∈b.row r,scal v=true
 one:∀ r,r < b.n→∀ v∈b.row r,v.oneCell'=true
 own:b.own=true→b.rc=none→∃ cur t,w.heap[l.blk]?=some (.cells cur t (0,0))∧l.base+l.cap*l.esz≤cur.size∧b.n≤l.cap
 lr:∀ r,b.rc=some r→w.heap[l.blk]?=some (.loop r)
 live:l.blk < w.heap.size
structure HRel (ν:Nu) (H:Heap) (w:World):Prop where
 blk:∀ id b,H[id]?=some (some b)→∃ l,ν id=some l∧BRel ν l b w
 sep:∀ i j bi bj li lj,H[i]?=some (some bi)→H[j]?=some (some bj)→i≠j→bi.own=true→ν i=some li→ν j=some lj→li.blk≠lj.blk
/-- The world has grown, what was there has not turned. -/
theorem below_cell {w w':World} (h:Below w.heap.size w w') {a:Addr} {v:Value} (hc:w.cell? a=some v):w'.cell? a=some v :=
 (World.cell?_of_block (h.block _ (World.block_lt_of_cell? w a hc))).trans hc
theorem BRel.below {ν:Nu} {l:Loc} {b:Blk} {w w':World} (h:BRel ν l b w) (hb:Below w.heap.size w w'):BRel ν l b w' :=
 ⟨h.esz,h.len,fun r hr j v hv=>let ⟨v',hc,hr'⟩:=h.cell r hr j v hv; ⟨v',below_cell hb hc,hr'⟩,h.plain,h.one,
   fun ho hc=>let ⟨cur,t,h1,h2⟩:=h.own ho hc; ⟨cur,t,by rw [hb.block _ h.live]; exact h1,h2⟩,fun r hr=>(hb.block _ h.live).trans (h.lr r hr),Nat.lt_of_lt_of_le h.live hb.size⟩
/-- The block itself has not turned. -/
theorem BRel.same {ν:Nu} {l:Loc} {b:Blk} {w w':World} (h:BRel ν l b w) (he:w'.heap[l.blk]?=w.heap[l.blk]?) (hs:w.heap.size≤w'.heap.size):BRel ν l b w' :=
 ⟨h.esz,h.len,fun r hr j v hv=>let ⟨v',hc,hr'⟩:=h.cell r hr j v hv; ⟨v',by rw [World.cell?_of_block (a:=l.at r j) he]; exact hc,hr'⟩,h.plain,h.one,
   fun ho hc=>let ⟨cur,t,h1,h2⟩:=h.own ho hc; ⟨cur,t,by rw [he]; exact h1,h2⟩,fun r hr=>he.trans (h.lr r hr),Nat.lt_of_lt_of_le h.live hs⟩
theorem BRel.mono {ν ν':Nu} (hle:ν.le ν') {l:Loc} {b:Blk} {w:World} (h:BRel ν l b w):BRel ν' l b w :=
 ⟨h.esz,h.len,fun r hr j v hv=>let ⟨v',hc,hr'⟩:=h.cell r hr j v hv; ⟨v',hc,hr'.mono hle⟩,h.plain,h.one,h.own,h.lr,h.live⟩
theorem HRel.below {ν:Nu} {H:Heap} {w w':World} (h:HRel ν H w) (hb:Below w.heap.size w w'):HRel ν H w' :=
 ⟨fun id b hi=>let ⟨l,h1,h2⟩:=h.blk id b hi; ⟨l,h1,h2.below hb⟩,h.sep⟩
theorem HRel.mono {ν ν':Nu} (hle:ν.le ν') {H:Heap} {w:World} (h:HRel ν H w):HRel ν' H w :=
 ⟨fun id b hi=>let ⟨l,h1,h2⟩:=h.blk id b hi; ⟨l,hle _ _ h1,h2.mono hle⟩,
   fun i j bi bj li lj hi hj hne ho h1 h2=>by
  obtain ⟨l1,e1,_⟩:=h.blk i bi hi
  obtain ⟨l2,e2,_⟩:=h.blk j bj hj
  have:=hle _ _ e1; rw [h1] at this; cases this
  have:=hle _ _ e2; rw [h2] at this; cases this
  exact h.sep i j bi bj _ _ hi hj hne ho e1 e2⟩
/-- Fewer blocks. -/
def Heap.le (H G:Heap):Prop:=∀ (id:Nat) (b:Blk),H[id]?=some (some b)→G[id]?=some (some b)
theorem HRel.fewer {ν:Nu} {H G:Heap} {w:World} (h:HRel ν G w) (hle:Heap.le H G):HRel ν H w :=
 ⟨fun id b hi=>h.blk id b (hle id b hi),fun i j bi bj li lj hi hj=>h.sep i j bi bj li lj (hle i bi hi) (hle j bj hj)⟩
/-- A new block beside the others. -/
theorem HRel.push {ν:Nu} {H:Heap} {w w':World} (h:HRel ν H w) (hb:Below w.heap.size w w') {id:Nat} (hn:ν id=none) {l:Loc} {b:Blk} (G:Heap)
  (hG:∀ j c,G[j]?=some (some c)→(j=id∧c=b)∨(j≠id∧H[j]?=some (some c))) (hl:w.heap.size≤l.blk)
  (hB:BRel (ν.add id l) l b w'):HRel (ν.add id l) G w':=by
 have hle:ν.le (ν.add id l):=Nu.le_add hn
 have h':=(h.mono hle).below hb
 refine ⟨fun j c hj=>?_,fun i j bi bj li lj hi hj hne ho h1 h2=>?_⟩
 ·rcases hG j c hj with ⟨rfl,rfl⟩ | ⟨_,hj'⟩
  ·exact ⟨l,Nu.add_same,hB⟩
  ·exact h'.blk j c hj'
 ·rcases hG i bi hi with ⟨rfl,rfl⟩ | ⟨_,hi'⟩ <;> rcases hG j bj hj with ⟨rfl,rfl⟩ | ⟨_,hj'⟩
  ·exact absurd rfl hne
  ·obtain ⟨l2,e2,hb2⟩:=h.blk j bj hj'
   have:=hle _ _ e2; rw [h2] at this; cases this
   rw [Nu.add_same] at h1; cases h1
   have:=hb2.live
   omega
  ·obtain ⟨l2,e2,hb2⟩:=h.blk i bi hi'
   have:=hle _ _ e2; rw [h1] at this; cases this
   rw [Nu.add_same] at h2; cases h2
   have:=hb2.live
   omega
  ·exact h'.sep i j bi bj li lj hi' hj' hne ho h1 h2
/-! ### Slots -/
def getT:List Value→Nat→(Value→Prop)→Prop
 | [],_,_=>False
 | v::_,0,k=>k v
 | _::l,n+1,k=>getT l n k
def setT:List Value→Nat→Value→(List Value→Prop)→Prop
 | [],_,_,_=>False
 | _::l,0,v,k=>k (v::l)
 | x::l,n+1,v,k=>setT l n v fun l'=>k (x::l')
theorem getT_spec:∀ {l:List Value} {n:Nat} {k:Value→Prop},getT l n k→∃ v,l[n]?=some v∧k v
 | [],_,_,h=>h.elim
 | v::_,0,_,h=>⟨v,rfl,h⟩
 | _::l,n+1,k,h=>by obtain ⟨v,h1,h2⟩:=getT_spec (l:=l) h; exact ⟨v,by simpa using h1,h2⟩
theorem setT_spec:∀ {l:List Value} {n:Nat} {v:Value} {k:List Value→Prop},setT l n v k→n < l.length∧k (l.set n v)
 | [],_,_,_,h=>h.elim
 | _::l,0,v,k,h=>⟨by simp,h⟩
 | x::l,n+1,v,k,h=>by
  obtain ⟨h1,h2⟩:=setT_spec (l:=l) h
  exact ⟨by simpa using h1,by simpa using h2⟩
/-- A constant that stands for itself. -/
def constK (v:Value) (k:Value→Prop):Prop :=
 match v with
 | .bool b=>k (.bool b)
 | .int q n=>k (.int q n)
 | .string s=>k (.string s)
 | .pointer none=>k (.pointer none)
 | .slice none 0 0=>k (.slice none 0 0)
 | .nilFunc=>k .nilFunc
 | _=>False
theorem constK_spec {v:Value} {k:Value→Prop} (h:constK v k):k v∧∀ ν,VRel ν v v:=by
 unfold constK at h
 split at h
 ·exact ⟨h,fun ν=>.bool _⟩
 ·exact ⟨h,fun ν=>.int _ _⟩
 ·exact ⟨h,fun ν=>.str _⟩
 ·exact ⟨h,fun ν=>.pnil⟩
 ·exact ⟨h,fun ν=>.snil⟩
 ·exact ⟨h,fun ν=>.fnil⟩
 ·exact h.elim
def evalK (tmps:List Value) (x:Operand) (k:Value→Prop):Prop :=
 match x with
 | .tmp t=>getT tmps t k
 | .const v=>constK v k
 | .func f=>k (.func (.func f) #[] #[])
 | .global _=>False
/-- The slots that an operand reads stand for the real ones. -/
def OpRel (ν:Nu) (tmps:List Value) (a:Act) (x:Operand):Prop :=
 ∀ t,x=.tmp t→∀ v,tmps[t]?=some v→∃ v',a.tmps[t]?=some v'∧VRel ν v v'
theorem evalK_spec {tmps:List Value} {x:Operand} {k:Value→Prop} (h:evalK tmps x k) {ν:Nu} {a:Act} (ha:OpRel ν tmps a x) :
  ∃ v,k v∧VRel ν v (a.eval x):=by
 cases x with
 | tmp t =>
  obtain ⟨v,h1,h2⟩:=getT_spec h
  obtain ⟨v',h3,h4⟩:=ha t rfl v h1
  exact ⟨v,h2,by simpa [Act.eval,h3] using h4⟩
 | const v=>obtain ⟨h1,h2⟩:=constK_spec h; exact ⟨v,h1,h2 ν⟩
 | func f=>exact ⟨_,h,.func _ [] [] [] [] rfl (fun i x y hx _=>by simp at hx) rfl (fun i x y hx _=>by simp at hx)⟩
 | global g=>exact h.elim
theorem evalK_all {tmps:List Value} {x:Operand} {k:Value→Prop} (h:evalK tmps x k) :
  ∃ v,k v∧∀ (ν:Nu) (a:Act),OpRel ν tmps a x→VRel ν v (a.eval x):=by
 cases x with
 | tmp t =>
  obtain ⟨v,h1,h2⟩:=getT_spec h
  refine ⟨v,h2,fun ν a ha=>?_⟩
  obtain ⟨v',h3,h4⟩:=ha t rfl v h1
  simpa [Act.eval,h3] using h4
 | const v=>obtain ⟨h1,h2⟩:=constK_spec h; exact ⟨v,h1,fun ν a _=>h2 ν⟩
 | func f=>exact ⟨_,h,fun ν a _=>.func _ [] [] [] [] rfl (fun i x y hx _=>by simp at hx) rfl (fun i x y hx _=>by simp at hx)⟩
 | global g=>exact h.elim
def evalsK (tmps:List Value):List Operand→(List Value→Prop)→Prop
 | [],k=>k []
 | x::xs,k=>evalK tmps x fun v=>evalsK tmps xs fun vs=>k (v::vs)
theorem evalsK_spec {tmps:List Value} {ν:Nu} {a:Act}:∀ {xs:List Operand} {k:List Value→Prop},evalsK tmps xs k→(∀ x∈xs,OpRel ν tmps a x) →
  ∃ vs,k vs∧LRel ν vs (xs.map a.eval)
 | [],k,h,_=>⟨[],h,.nil ν⟩
 | x::xs,k,h,ha=>by
  obtain ⟨v,h1,h2⟩:=evalK_spec h (ha x (by simp))
  obtain ⟨vs,h3,h4⟩:=evalsK_spec h1 (fun y hy=>ha y (by simp [hy]))
  exact ⟨v::vs,h3,.cons h2 h4⟩
theorem evalsK_all {tmps:List Value}:∀ {xs:List Operand} {k:List Value→Prop},evalsK tmps xs k →
  ∃ vs,k vs∧∀ (ν:Nu) (a:Act),(∀ x∈xs,OpRel ν tmps a x)→LRel ν vs (xs.map a.eval)
 | [],k,h=>⟨[],h,fun ν a _=>.nil ν⟩
 | x::xs,k,h=>by
  obtain ⟨v,h1,h2⟩:=evalK_all h
  obtain ⟨vs,h3,h4⟩:=evalsK_all h1
  exact ⟨v::vs,h3,fun ν a ha=>.cons (h2 ν a (ha x (by simp))) (h4 ν a (fun y hy=>ha y (by simp [hy])))⟩
/-! ### Pieces of a list -/
def takeK:List Value→Nat→Nat→(List Value→Prop)→Prop
 | _,0,0,k=>k []
 | [],0,_+1,_=>False
 | v::l,0,n+1,k=>takeK l 0 n fun vs=>k (v::vs)
 | [],_+1,_,_=>False
 | _::l,o+1,n,k=>takeK l o n k
theorem takeK_spec:∀ {l:List Value} {o n:Nat} {k:List Value→Prop},takeK l o n k→∃ vs,k vs∧vs.length=n∧∀ j v,vs[j]?=some v→l[o+j]?=some v
 | l,0,0,k,h=>⟨[],by cases l <;> exact h,rfl,fun j v hv=>by simp at hv⟩
 | [],0,_+1,_,h=>h.elim
 | v::l,0,n+1,k,h=>by
  obtain ⟨vs,h1,h2,h3⟩:=takeK_spec (l:=l) h
  refine ⟨v::vs,h1,by simp [h2],fun j u hu=>?_⟩
  cases j with
  | zero=>simpa using hu
  | succ j=>have:=h3 j u (by simpa using hu); simpa using this
 | [],o+1,n,k,h=>by cases n <;> exact h.elim
 | x::l,o+1,n,k,h=>by
  have h':takeK l o n k:=by cases n <;> exact h
  obtain ⟨vs,h1,h2,h3⟩:=takeK_spec (l:=l) h'
  exact ⟨vs,h1,h2,fun j v hv=>by have:=h3 j v hv; rwa [show o+1+j=(o+j)+1 by omega,List.getElem?_cons_succ]⟩
/-- Cells written over, from place o on. -/
def putK:List Value→Nat→List Value→(List Value→Prop)→Prop
 | l,0,[],k=>k l
 | [],0,_::_,_=>False
 | _::l,0,v::vs,k=>putK l 0 vs fun l'=>k (v::l')
 | [],_+1,_,_=>False
 | x::l,o+1,vs,k=>putK l o vs fun l'=>k (x::l')
theorem putK_spec:∀ {l:List Value} {o:Nat} {vs:List Value} {k:List Value→Prop},putK l o vs k →
  ∃ l',k l'∧l'.length=l.length∧o+vs.length≤l.length∧(∀ j v,vs[j]?=some v→l'[o+j]?=some v)∧∀ j,(j < o∨o+vs.length≤j)→l'[j]?=l[j]?
 | l,0,[],k,h=>⟨l,by cases l <;> exact h,rfl,by simp,fun j v hv=>by simp at hv,fun _ _=>rfl⟩
 | [],0,_::_,_,h=>h.elim
 | x::l,0,v::vs,k,h=>by
  obtain ⟨l',h1,h2,h3,h4,h5⟩:=putK_spec (l:=l) h
  refine ⟨v::l',h1,by simp [h2],by simp at h3 ⊢; omega,fun j u hu=>?_,fun j hj=>?_⟩
  ·cases j with
   | zero=>simpa using hu
   | succ j=>have:=h4 j u (by simpa using hu); simpa using this
  ·cases j with
   | zero=>simp at hj
   | succ j=>have:=h5 j (by simp at hj ⊢; omega); simpa using this
 | [],o+1,vs,k,h=>by cases vs <;> exact h.elim
 | x::l,o+1,vs,k,h=>by
  have h':putK l o vs fun l'=>k (x::l'):=by cases vs <;> exact h
  obtain ⟨l',h1,h2,h3,h4,h5⟩:=putK_spec (l:=l) h'
  refine ⟨x::l',h1,by simp [h2],by simp; omega,fun j u hu=>?_,fun j hj=>?_⟩
  ·have:=h4 j u hu; rwa [show o+1+j=(o+j)+1 by omega,List.getElem?_cons_succ]
  ·cases j with
   | zero=>simp
   | succ j=>have:=h5 j (by omega); simpa using this
/-- The abstract heap: a block. -/
def blkK:Heap→Nat→(Blk→Prop)→Prop
 | [],_,_=>False
 | b::_,0,k=>match b with | some b=>k b | none=>False
 | _::H,n+1,k=>blkK H n k
theorem blkK_spec:∀ {H:Heap} {id:Nat} {k:Blk→Prop},blkK H id k→∃ b,H[id]?=some (some b)∧k b
 | [],_,_,h=>h.elim
 | some b::_,0,_,h=>⟨b,rfl,h⟩
 | none::_,0,_,h=>h.elim
 | _::H,n+1,k,h=>by obtain ⟨b,h1,h2⟩:=blkK_spec (H:=H) h; exact ⟨b,by simpa using h1,h2⟩
/-- .. put in another's place. -/
def setB:Heap→Nat→Option Blk→(Heap→Prop)→Prop
 | [],_,_,_=>False
 | _::H,0,b,k=>k (b::H)
 | c::H,n+1,b,k=>setB H n b fun H'=>k (c::H')
theorem setB_spec:∀ {H:Heap} {id:Nat} {b:Option Blk} {k:Heap→Prop},setB H id b k→id < H.length∧k (H.set id b)
 | [],_,_,_,h=>h.elim
 | _::H,0,_,_,h=>⟨by simp,h⟩
 | c::H,n+1,b,k,h=>by obtain ⟨h1,h2⟩:=setB_spec (H:=H) h; exact ⟨by simpa using h1,by simpa using h2⟩
/-- .. laid behind the others. -/
def pushB:Heap→Option Blk→(Heap→Prop)→Prop
 | [],b,k=>k [b]
 | c::H,b,k=>pushB H b fun H'=>k (c::H')
theorem pushB_spec:∀ {H:Heap} {b:Option Blk} {k:Heap→Prop},pushB H b k→k (H++[b])
 | [],_,_,h=>h
 | _::H,b,k,h=>pushB_spec (H:=H) h
/-- How many there are. -/
def lenK:Heap→(Nat→Prop)→Prop
 | [],k=>k 0
 | _::H,k=>lenK H fun n=>k (n+1)
theorem lenK_spec:∀ {H:Heap} {k:Nat→Prop},lenK H k→k H.length
 | [],_,h=>h
 | _::H,k,h=>lenK_spec (H:=H) h
/-- A branch. -/
def br (b:Bool) (x y:Prop):Prop:=match b with | true=>x | false=>y
theorem br_intro {b:Bool} {x y:Prop} (h1:b=true→x) (h2:b=false→y):br b x y:=by cases b <;> simp_all [br]
theorem br_true {b:Bool} {x y:Prop} (h:br b x y) (hb:b=true):x:=by subst hb; exact h
theorem br_false {b:Bool} {x y:Prop} (h:br b x y) (hb:b=false):y:=by subst hb; exact h
theorem br_yes {b:Bool} {x y:Prop} (h:b=true) (hx:x):br b x y:=by subst h; exact hx
/-- What is asked, decided at once where it can be. -/
def need (p:Prop) [Decidable p] (k:Prop):Prop:=br (decide p) k False
theorem need_spec {p:Prop} [Decidable p] {k:Prop} (h:need p k):p∧k:=by
 unfold need br at h
 split at h
 ·rename_i hp; exact ⟨of_decide_eq_true hp,h⟩
 ·exact h.elim
end Go.Ae
/- The types that the abstract evaluation needs to know, and that a table of them is true of a program. -/
namespace Go.Ae
open Go Go.RowKit
inductive TK where
 | int (k:IntKind) | bool | str
 | struct (fs:List (Nat × Nat × Bool))      -- offset,size,is it a struct or an array
 | slice (e:TypeId)
 | array (n:Nat) (e:TypeId)
 | other
structure TI where
 size:Nat
 bytes:Nat
 kind:TK
 zero:List Value
def TI.agg (ti:TI):Bool:=match ti.kind with | .struct _ | .array _ _=>true | _=>false
abbrev TT:=TypeId→Option TI
def isAggD:TypeDesc→Bool
 | .struct _ | .array _ _=>true
 | _=>false
def FieldOk (P:Program) (f:Field) (x:Nat × Nat × Bool):Prop :=
 f.offset=x.1∧0 < x.2.1∧(∃ i,P.info? f.type=some i∧i.size=x.2.1)∧∃ d,P.underlying f.type=some d∧isAggD d=x.2.2
def KOk (P:Program) (k:TK) (d:TypeDesc):Prop :=
 match k with
 | .int q=>d=.int q
 | .bool=>d=.bool
 | .str=>d=.string
 | .struct fs=>∃ fields,d=.struct fields∧fields.size=fs.length∧∀ (i:Nat) f x,fields[i]?=some f→fs[i]?=some x→FieldOk P f x
 | .slice e=>d=.slice e
 | .array n e=>d=.array n e
 | .other=>isAggD d=false
structure TIok (P:Program) (t:TypeId) (ti:TI):Prop where
 info:∃ i,P.info? t=some i∧i.size=ti.size∧i.bytes=ti.bytes∧∃ z,i.zero=some z∧z.cells=⟨ti.zero⟩
 under:∃ d,P.underlying t=some d∧KOk P ti.kind d
 self:∀ ν,LRel ν ti.zero ti.zero
 len:ti.zero.length=ti.size
 one:∀ v∈ti.zero,v.oneCell'=true
 bit:0 < ti.size∧0 < ti.bytes
theorem TIok.aggD {P:Program} {t:TypeId} {ti:TI} (h:TIok P t ti):∃ d,P.underlying t=some d∧isAggD d=ti.agg:=by
 obtain ⟨d,h1,h2⟩:=h.under
 refine ⟨d,h1,?_⟩
 unfold KOk at h2
 unfold TI.agg
 split at h2 <;> rename_i hk <;> rw [hk] <;> first | (subst h2; rfl) | (obtain ⟨_,rfl,_⟩:=h2; rfl) | (simpa using h2)
theorem run_isAgg {P:Program} {t:TypeId} {d:TypeDesc} (h:P.underlying t=some d) (w:World):(isAgg t).run P w=.ok (isAggD d) w:=by
 unfold isAgg underlying
 simp [h]
 cases d <;> rfl
theorem run_sizeOf' {P:Program} {t:TypeId} {i:TypeInfo} (h:P.info? t=some i) (w:World):(sizeOf t).run P w=.ok i.size w:=by simp [sizeOf,typeInfo,h]
theorem run_zeroValue' {P:Program} {t:TypeId} {i:TypeInfo} {z:Value} (h:P.info? t=some i) (hz:i.zero=some z) (w:World):(zeroValue t).run P w=.ok z w:=by
 simp [zeroValue,typeInfo,h,hz]
theorem run_underlying' {P:Program} {t:TypeId} {d:TypeDesc} (h:P.underlying t=some d) (w:World):(underlying t).run P w=.ok d w:=by simp [underlying,h]
/-- A variable is read: its cells. -/
theorem run_loadVar' {P:Program} {t:TypeId} {ti:TI} (h:TIok P t ti) {w:World} {a:Addr} {cs:List Value} (hl:cs.length=ti.size)
  (hc:∀ j v,cs[j]?=some v→w.cell? (a.add j)=some v) :
  (loadVar t a).run P w=.ok (if ti.agg then .agg ⟨cs⟩ else cs.getD 0 undef) w:=by
 obtain ⟨d,h1,h2⟩:=h.aggD
 obtain ⟨i,hi,hs,_⟩:=h.info
 unfold loadVar
 simp only [Sem.run_bind,run_isAgg h1,Result.andThen_ok,Sem.run_ite]
 rw [h2]
 split
 ·simp only [Sem.run_bind,run_sizeOf' hi,Result.andThen_ok]
  rw [hs,← hl,run_loadCells_list w a cs hc]
  rfl
 ·have hp:=h.bit.1
  cases cs with
  | nil=>simp at hl; omega
  | cons v r =>
   have:=hc 0 v rfl
   simp only [Addr.add,if_true] at this
   simp [run_load,this]
theorem add_none (b o j:Nat):(⟨b,o,none⟩:Addr).add j=⟨b,o+j,none⟩:=by unfold Addr.add; split <;> simp_all
theorem Loc.at_add (l:Loc) (row col j:Nat):(l.at row col).add j=l.at row (col+j):=by
 unfold Loc.at; rw [add_none]; congr 1; omega
end Go.Ae
/- The abstract evaluation of one operation that writes nothing, and that it stands for the model's own. -/
namespace Go.Ae
open Go Go.RowKit
/-- A function without blocks among its arguments and results: how it may be called, and what it gives. -/
structure PSpec where
 ι:Type
 args:ι→List Value
 pre:ι→Prop
 val:ι→Value
/-- A function that reads the blocks of its arguments and gives at most one new one: the arguments' blocks have the numbers 0, 1, .., the new one the next. -/
structure QSpec where
 ι:Type
 args:ι→List Value
 blks:ι→List Blk
 pre:ι→Prop
 val:ι→Value
 new:ι→Option Blk
inductive FSpec where
 | p (S:PSpec)
 | q (S:QSpec)
abbrev Specs:=FuncId→Option FSpec
def WF (r:Option Nat):Fence:={ Fence.wide with round:=r }
structure Snd (P:Program) (f:FuncId) (S:PSpec):Prop where
 enters:∀ args w,(callFunc f args).run P w=.ok (.enter f args) w
 calls:∀ (i:S.ι),S.pre i→∀ (ν:Nu) (as:List Value) (w:World) (n:Nat),LRel ν (S.args i) as →
  CallsIn Fence.wide n P f ⟨as⟩ w fun e w'=>∃ v',e=.returned v'∧VRel ν (S.val i) v'∧Below w.heap.size w w'
structure QPost (ν ν':Nu) (nid:Nat) (w w':World) (v v':Value) (nb:Option Blk):Prop where
 le:ν.le ν'
 only:∀ id,id≠nid→ν' id=ν id
 val:VRel ν' v v'
 below:Below w.heap.size w w'
 isN:nb=none→ν'=ν
 isS:∀ b,nb=some b→∃ l,ν' nid=some l∧BRel ν' l b w'∧w.heap.size≤l.blk
structure QSnd (P:Program) (f:FuncId) (S:QSpec):Prop where
 enters:∀ args w,(callFunc f args).run P w=.ok (.enter f args) w
 ro:∀ i b,b∈S.blks i→b.own=false
 fl:∀ i b,S.new i=some b→b.isFlat=true
 calls:∀ (i:S.ι),S.pre i→∀ (ν:Nu) (as:List Value) (w:World) (n:Nat),LRel ν (S.args i) as→HRel ν ((S.blks i).map some) w→(∀ id,(S.blks i).length≤id→ν id=none) →
  CallsIn Fence.wide n P f ⟨as⟩ w fun e w'=>∃ v' ν',e=.returned v'∧QPost ν ν' (S.blks i).length w w' (S.val i) v' (S.new i)
def FSnd (P:Program) (f:FuncId):FSpec→Prop
 | .p S=>Snd P f S
 | .q S=>QSnd P f S
abbrev QK:=Value→Option Blk→Prop
def forceK (v:Value) (k:Value→Prop):Prop :=
 match v with
 | .bool b=>k (.bool b)
 | .int q n=>k (.int q n)
 | .string s=>k (.string s)
 | .agg cs=>k (.agg cs)
 | .tuple cs=>k (.tuple cs)
 | .pointer a=>k (.pointer a)
 | .slice a n c=>k (.slice a n c)
 | .func f a b=>k (.func f a b)
 | .nilFunc=>k .nilFunc
 | _=>False
theorem forceK_spec {v:Value} {k:Value→Prop} (h:forceK v k):k v:=by
 unfold forceK at h; split at h <;> first | exact h | exact h.elim
def appK:List Value→List Value→(List Value→Prop)→Prop
 | [],l,k=>k l
 | x::xs,l,k=>appK xs l fun r=>k (x::r)
theorem appK_spec:∀ {xs l:List Value} {k:List Value→Prop},appK xs l k→k (xs++l)
 | [],_,_,h=>h
 | _::xs,l,k,h=>appK_spec (xs:=xs) h
def okCells:List Value→Nat→Bool
 | [],0=>true
 | v::l,n+1=>v.oneCell' && okCells l n
 | _,_=>false
theorem okCells_spec:∀ {l:List Value} {n:Nat},okCells l n=true→l.length=n∧∀ v∈l,v.oneCell'=true
 | [],0,_=>⟨rfl,fun v hv=>by simp at hv⟩
 | v::l,n+1,h=>by
  simp only [okCells,Bool.and_eq_true] at h
  obtain ⟨h1,h2⟩:=okCells_spec h.2
  exact ⟨by simp [h1],fun u hu=>by
   rcases List.mem_cons.1 hu with e | e
   ·rw [e]; exact h.1
   ·exact h2 u e⟩
 | [],_+1,h=>by simp [okCells] at h
 | _::_,0,h=>by simp [okCells] at h
/-- A value's cells. -/
def cellsK (v:Value) (k:List Value→Prop):Prop :=
 match v with
 | .agg cs=>k cs.toList
 | .tuple _=>False
 | v=>k [v]
theorem cellsK_spec {v:Value} {k:List Value→Prop} (h:cellsK v k):k v.cells.toList:=by
 unfold cellsK at h
 split at h
 ·exact h
 ·exact h.elim
 ·rename_i h1 h2
  cases v <;> first | exact h | exact absurd rfl (h1 _)
def rowsK:List (List Value)→Nat→(List Value→Prop)→Prop
 | [],_,_=>False
 | r::_,0,k=>k r
 | _::rs,n+1,k=>rowsK rs n k
theorem rowsK_spec:∀ {rs:List (List Value)} {n:Nat} {k:List Value→Prop},rowsK rs n k→∃ r,rs[n]?=some r∧k r
 | [],_,_,h=>h.elim
 | r::_,0,_,h=>⟨r,rfl,h⟩
 | _::rs,n+1,k,h=>by obtain ⟨r,h1,h2⟩:=rowsK_spec (rs:=rs) h; exact ⟨r,by simpa using h1,h2⟩
def rowK (b:Blk) (row:Nat) (k:List Value→Prop):Prop :=
 match b with
 | .expl _ _ rows=>rowsK rows row k
 | .flat _ n _ get=>row < n∧k (get row)
 | .lrec _=>False
theorem rowK_spec {b:Blk} {row:Nat} {k:List Value→Prop} (h:rowK b row k):row < b.n∧k (b.row row):=by
 cases b with
 | expl o e rows =>
  obtain ⟨r,h1,h2⟩:=rowsK_spec h
  exact ⟨(List.getElem?_eq_some_iff.1 h1).1,by simpa [Blk.row,List.getD,h1] using h2⟩
 | flat o n e get=>exact h
 | lrec r=>exact h.elim
def fieldK:List (Nat × Nat × Bool)→Nat→(Nat→Nat→Bool→Prop)→Prop
 | [],_,_=>False
 | (a,b,c)::_,0,k=>k a b c
 | _::l,n+1,k=>fieldK l n k
theorem fieldK_spec:∀ {l:List (Nat × Nat × Bool)} {n:Nat} {k:Nat→Nat→Bool→Prop},fieldK l n k→∃ x,l[n]?=some x∧k x.1 x.2.1 x.2.2
 | [],_,_,h=>h.elim
 | x::_,0,_,h=>⟨x,rfl,h⟩
 | _::l,n+1,k,h=>by obtain ⟨r,h1,h2⟩:=fieldK_spec (l:=l) h; exact ⟨r,by simpa using h1,h2⟩
def rowAdd (a b:Nat):Nat:=match a with | 0=>b | a+1=>(a+1)+b
theorem rowAdd_eq (a b:Nat):rowAdd a b=a+b:=by cases a <;> simp [rowAdd]
def tyK (tt:TT) (t:TypeId) (k:TI→Prop):Prop:=match tt t with | some ti=>k ti | none=>False
theorem tyK_spec {tt:TT} {t:TypeId} {k:TI→Prop} (h:tyK tt t k):∃ ti,tt t=some ti∧k ti:=by
 unfold tyK at h; split at h
 ·exact ⟨_,by assumption,h⟩
 ·exact h.elim
def valOf (agg:Bool) (cs:List Value):Value:=match agg,cs with | true,cs=>.agg ⟨cs⟩ | false,v::_=>v | false,[]=>undef
/-- .. handed on, written out. -/
def valK (agg:Bool) (cs:List Value) (k:Value→Prop):Prop :=
 match agg,cs with
 | true,cs=>k (.agg ⟨cs⟩)
 | false,v::_=>forceK v k
 | false,[]=>k undef
def spK (sp:Option Nat) (k:Nat→Prop):Prop:=match sp with | none=>k 0 | some c=>k c
theorem spK_spec {sp:Option Nat} {k:Nat→Prop} (h:spK sp k):k (sp.getD 0):=by cases sp <;> exact h
def byteAt (s:ByteArray) (i:Nat):Nat:=(s.data.toList.getD i 0).toNat
def qMove (tmps:List Value) (x:Operand) (k:QK):Prop:=evalK tmps x fun v=>k v none
def qPick (tmps:List Value) (c a b:Operand) (k:QK):Prop :=
 evalK tmps c fun cv=>match cv with
  | .bool t=>evalK tmps a fun av=>evalK tmps b fun bv =>
   match av,bv with
   | .bool x,.bool y=>k (.bool (bif t then x else y)) none
   | av,bv=>br t (k av none) (k bv none)
  | _=>False
/-- Plain cells taken off the front of a list. -/
def stripV:List Value→List Value→Option (List Value)
 | [],l=>some l
 | .int q n::z,.int q' n'::l=>match decide (q=q') && decide (n=n') with | true=>stripV z l | false=>none
 | .bool b::z,.bool b'::l=>match b == b' with | true=>stripV z l | false=>none
 | .string s::z,.string s'::l=>match Nat.beq s.size 0 && Nat.beq s'.size 0 with | true=>stripV z l | false=>none
 | _,_=>none
/-- A list that is n times the same plain cells. -/
def zRows (z:List Value):Nat→List Value→Bool
 | 0,[]=>true
 | 0,_::_=>false
 | n+1,l=>match stripV z l with | some l'=>zRows z n l' | none=>false
def qAlloc (tt:TT) (t:TypeId) (nid:Nat) (k:QK):Prop :=
 tyK tt t fun ti=>match ti.kind with
  | .array n e=>tyK tt e fun te=>match Nat.beq te.size 1 && zRows te.zero n ti.zero with
   | true=>k (.pointer (some ⟨nid,0,none⟩)) (some (.flat true n te.size fun _=>te.zero))
   | false=>k (.pointer (some ⟨nid,0,none⟩)) (some (.expl true ti.size [ti.zero]))
  | _=>k (.pointer (some ⟨nid,0,none⟩)) (some (.expl true ti.size [ti.zero]))
def qBox (tt:TT) (tmps:List Value) (t:TypeId) (x:Operand) (nid:Nat) (k:QK):Prop :=
 tyK tt t fun ti=>evalK tmps x fun v=>cellsK v fun cs=>match okCells cs ti.size with
  | true=>k (.pointer (some ⟨nid,0,none⟩)) (some (.expl true ti.size [cs]))
  | false=>False
def qLoad (tt:TT) (tmps:List Value) (H:Heap) (t:TypeId) (a:Operand) (k:QK):Prop :=
 evalK tmps a fun av=>match av with
  | .pointer (some ⟨id,row,sp⟩)=>tyK tt t fun ti=>blkK H id fun b=>rowK b row fun cs=>spK sp fun c=>takeK cs c ti.size fun vs=>valK ti.agg vs fun v=>k v none
  | _=>False
def qFieldAddr (tt:TT) (tmps:List Value) (t:TypeId) (x:Operand) (f:Nat) (k:QK):Prop :=
 evalK tmps x fun av=>match av with
  | .pointer (some ⟨id,row,sp⟩)=>tyK tt t fun ti=>match ti.kind with
   | .struct fs=>fieldK fs f fun off _ _=>spK sp fun c=>k (.pointer (some ⟨id,row,some (c+off)⟩)) none
   | _=>False
  | _=>False
def qField (tt:TT) (tmps:List Value) (t:TypeId) (x:Operand) (f:Nat) (k:QK):Prop :=
 evalK tmps x fun av=>match av with
  | .agg cs=>tyK tt t fun ti=>match ti.kind with
   | .struct fs=>fieldK fs f fun off sz ag=>takeK cs.toList off sz fun vs=>valK ag vs fun v=>k v none
   | _=>False
  | _=>False
def qIndexAddr (tt:TT) (tmps:List Value) (H:Heap) (t:TypeId) (x ix:Operand) (k:QK):Prop :=
 evalK tmps x fun xv=>evalK tmps ix fun iv=>match iv with
  | .int _ i=>tyK tt t fun ti=>match ti.kind with
   | .slice e=>match xv with
    | .slice (some ⟨id,row,none⟩) n _=>tyK tt e fun te=>blkK H id fun b =>
     (0≤i∧i < (n:Int))∧match Nat.beq b.esz te.size with
      | true=>k (.pointer (some ⟨id,rowAdd row i.toNat,none⟩)) none
      | false=>False
    | _=>False
   | .array n e=>match xv with
    | .pointer (some ⟨id,row,none⟩)=>tyK tt e fun te=>blkK H id fun b=>(0≤i∧i < (n:Int))∧match Nat.beq b.esz te.size with
     | true=>k (.pointer (some ⟨id,rowAdd row i.toNat,none⟩)) none
     | false=>k (.pointer (some ⟨id,row,some (0+i.toNat*te.size)⟩)) none
    | .pointer (some ⟨id,row,some c⟩)=>tyK tt e fun te=>(0≤i∧i < (n:Int))∧k (.pointer (some ⟨id,row,some (c+i.toNat*te.size)⟩)) none
    | _=>False
   | _=>False
  | _=>False
def qIndex (tt:TT) (tmps:List Value) (t:TypeId) (x ix:Operand) (k:QK):Prop :=
 evalK tmps x fun xv=>evalK tmps ix fun iv=>match iv with
  | .int _ i=>tyK tt t fun ti=>match ti.kind with
   | .str=>match xv with
    | .string s=>(0≤i∧i < (s.size:Int))∧k (.int .u8 (byteAt s i.toNat)) none
    | _=>False
   | _=>False
  | _=>False
def qExtract (tmps:List Value) (x:Operand) (ix:Nat) (k:QK):Prop :=
 evalK tmps x fun xv=>match xv with
  | .tuple vs=>getT vs.toList ix fun v=>k v none
  | _=>False
def qMakeFunc (tmps:List Value) (fn:Fn) (first cap:List Operand) (k:QK):Prop :=
 evalsK tmps first fun a=>evalsK tmps cap fun b=>k (.func fn ⟨a⟩ ⟨b⟩) none
def qUn (tmps:List Value) (op:UnOp) (x:Operand) (k:QK):Prop :=
 evalK tmps x fun xv=>match op,xv with
  | .neg,.int q n=>k (.int q (q.wrap (0 - n))) none
  | .not,.bool b=>k (.bool !b) none
  | .xor,.int q n=>match Op.intBits .xor q (if q.signed then -1 else q.max) n with
   | .pure v=>forceK v fun v=>match scal v with | true=>k v none | false=>False
   | _=>False
  | _,_=>False
def eqCells:List Value→List Value→Bool
 | [],[]=>true
 | .bool a::l,.bool b::m=>(a == b) && eqCells l m
 | .int _ a::l,.int _ b::m=>(a == b) && eqCells l m
 | .string a::l,.string b::m=>(a.toList == b.toList) && eqCells l m
 | _,_=>false
def sameKinds:List Value→List Value→Bool
 | [],[]=>true
 | .bool _::l,.bool _::m=>sameKinds l m
 | .int q _::l,.int q' _::m=>decide (q=q') && sameKinds l m
 | .string _::l,.string _::m=>sameKinds l m
 | _,_=>false
/-- A struct type's '==' is that of its cells, where these have the kinds of the type's own zero value. -/
def EqTy (P:Program) (t:TypeId) (zero:List Value):Prop :=
 ∀ xs ys w,sameKinds xs zero=true→sameKinds ys zero=true→(Op.equal t (.agg ⟨xs⟩) (.agg ⟨ys⟩)).run P w=.ok (eqCells xs ys) w∧∀ x y op,(eqGuard op t x y (.agg ⟨xs⟩) (.agg ⟨ys⟩)).run P w=.ok () w
def qBits (op:BinOp) (q:IntKind) (a b:Int) (k:QK):Prop :=
 match op with
 | .and | .or | .xor | .andNot=>match Op.intBits op q a b with
  | .pure v=>forceK v fun v=>match scal v with | true=>k v none | false=>False
  | _=>False
 | _=>False
def qBinInt (op:BinOp) (q q':IntKind) (a b:Int) (k:QK):Prop :=
 match op with
 | .shl=>need (0≤b) <| k (.int q (q.wrap (a*2 ^ (min b.toNat q.bits)))) none
 | .shr=>need (0≤b) <| k (.int q (a.fdiv (2 ^ (min b.toNat q.bits)))) none
 | op=>match decide (q=q') with
  | true=>match op with
   | .add=>k (.int q (q.wrap (a+b))) none
   | .sub=>k (.int q (q.wrap (a - b))) none
   | .mul=>k (.int q (q.wrap (a*b))) none
   | .quo=>need (b≠0) <| k (.int q (q.wrap (a.tdiv b))) none
   | .rem=>need (b≠0) <| k (.int q (a.tmod b)) none
   | .eql=>k (.bool (a == b)) none
   | .neq=>k (.bool (a != b)) none
   | .lss=>k (.bool (decide (a < b))) none
   | .leq=>k (.bool (decide (a≤b))) none
   | .gtr=>k (.bool (decide (a > b))) none
   | .geq=>k (.bool (decide (a ≥ b))) none
   | op=>qBits op q a b k
  | false=>False
def qBinStr (op:BinOp) (a b:ByteArray) (k:QK):Prop :=
 match op with
 | .add=>(a.size+b.size < 9223372036854775808)∧k (.string (a++b)) none
 | .eql=>k (.bool (a.toList == b.toList)) none
 | .neq=>k (.bool !(a.toList == b.toList)) none
 | .lss=>k (.bool (Op.bytesLess a.toList b.toList)) none
 | .gtr=>k (.bool !(Op.bytesLess a.toList b.toList || a.toList == b.toList)) none
 | _=>False
def qBinBool (tk:TK) (op:BinOp) (a b:Bool) (k:QK):Prop :=
 match tk,op with
 | .bool,.eql=>k (.bool (a == b)) none
 | .bool,.neq=>k (.bool !(a == b)) none
 | _,_=>False
/-- '==' of structs of plain cells: which types it may be used at is told by a list that the caller bears a proof for. -/
def qBinAgg (eqs:List TypeId) (t:TypeId) (zero:List Value) (op:BinOp) (a b:List Value) (k:QK):Prop :=
 match eqs.contains t && sameKinds a zero && sameKinds b zero,op with
 | true,.eql=>k (.bool (eqCells a b)) none
 | true,.neq=>k (.bool !(eqCells a b)) none
 | _,_=>False
/-- A slice beside nil. -/
def qBinNil (tk:TK) (op:BinOp) (a:Option Addr) (k:QK):Prop :=
 match tk,op,a with
 | .slice _,.eql,none=>k (.bool true) none
 | .slice _,.eql,some _=>k (.bool false) none
 | .slice _,.neq,none=>k (.bool false) none
 | .slice _,.neq,some _=>k (.bool true) none
 | _,_,_=>False
def qBin (tt:TT) (eqs:List TypeId) (tmps:List Value) (op:BinOp) (t:TypeId) (x y:Operand) (k:QK):Prop :=
 evalK tmps x fun xv=>evalK tmps y fun yv=>match xv,yv with
  | .int q a,.int q' b=>qBinInt op q q' a b k
  | .string a,.string b=>qBinStr op a b k
  | .bool a,.bool b=>tyK tt t fun ti=>qBinBool ti.kind op a b k
  | .agg a,.agg b=>tyK tt t fun ti=>qBinAgg eqs t ti.zero op a.toList b.toList k
  | .slice a _ _,.slice none 0 0=>tyK tt t fun ti=>qBinNil ti.kind op a k
  | _,_=>False
/-- The bytes of n rows. -/
def bytesOf (get:Nat→List Value) (row n:Nat):List UInt8:=(List.range n).map fun r=>match get (row+r) with | .int _ x::_=>UInt8.ofNat x.toNat | _=>0
def qConvert (tt:TT) (tmps:List Value) (H:Heap) (src dst:TypeId) (x:Operand) (nid:Nat) (k:QK):Prop :=
 evalK tmps x fun xv=>tyK tt src fun ts=>tyK tt dst fun td=>match td.kind,xv with
  | .int q,.int _ n=>match ts.kind with
   | .int _=>k (.int q (q.wrap n)) none
   | _=>False
  | .str,.string s=>match ts.kind with
   | .str=>k (.string s) none
   | _=>False
  | .str,.slice (some ⟨id,row,none⟩) n _=>match ts.kind with
   | .slice e=>tyK tt e fun te=>match te.kind with
    | .int .u8=>match n with
     | 0=>k (.string ⟨#[]⟩) none
     | n+1=>blkK H id fun b=>match b.esz with
      | 1=>(row+(n+1)≤b.n∧∀ r,r < n+1→∃ x,b.row (row+r)=[.int .u8 x])∧k (.string ⟨⟨bytesOf b.row row (n+1)⟩⟩) none
      | _=>False
    | _=>False
   | _=>False
  | .str,.slice none 0 0=>match ts.kind with
   | .slice e=>tyK tt e fun te=>match te.kind with
    | .int .u8=>k (.string ⟨#[]⟩) none
    | _=>False
   | _=>False
  | .slice e,.string s=>match ts.kind with
   | .str=>tyK tt e fun te=>match te.kind with
    | .int .u8=>k (.slice (some ⟨nid,0,none⟩) s.size capU) (some (.flat false s.size 1 fun r=>[.int .u8 (byteAt s r)]))
    | _=>False
   | _=>False
  | _,_=>False
def qLen (tmps:List Value) (tt:TT) (t:TypeId) (x:Operand) (k:QK):Prop :=
 evalK tmps x fun xv=>tyK tt t fun ti=>match ti.kind,xv with
  | .str,.string s=>k (.int .i64 s.size) none
  | .slice _,.slice _ n _=>k (.int .i64 n) none
  | _,_=>False
def qMax (tmps:List Value) (x y:Operand) (k:QK):Prop :=
 evalK tmps x fun xv=>evalK tmps y fun yv=>match xv,yv with
  | .int q a,.int _ b=>k (.int q (if b > a then b else a)) none
  | _,_=>False
def qMin (tmps:List Value) (x y:Operand) (k:QK):Prop :=
 evalK tmps x fun xv=>evalK tmps y fun yv=>match xv,yv with
  | .int q a,.int _ b=>k (.int q (if b < a then b else a)) none
  | _,_=>False
def fillK (tmps:List Value) (fs:List (Nat × Nat × Bool)):List (Nat × Operand)→List Value→(List Value→Prop)→Prop
 | [],cs,k=>k cs
 | p::ps,cs,k=>evalK tmps p.2 fun v=>cellsK v fun vs=>fieldK fs p.1 fun off sz _=>match okCells vs sz with
  | true=>putK cs off vs fun cs'=>fillK tmps fs ps cs' k
  | false=>False
/-- The places of an array's elements. -/
def arrFs (sz:Nat):Nat→Nat→List (Nat × Nat × Bool)
 | _,0=>[]
 | off,n+1=>(off,sz,true)::arrFs sz (off+sz) n
def qBuild (tt:TT) (tmps:List Value) (t:TypeId) (parts:List (Nat × Operand)) (k:QK):Prop :=
 tyK tt t fun ti=>match ti.kind with
  | .struct fs=>fillK tmps fs parts ti.zero fun cs=>k (.agg ⟨cs⟩) none
  | .array n e=>tyK tt e fun te=>fillK tmps (arrFs te.size 0 n) parts ti.zero fun cs=>k (.agg ⟨cs⟩) none
  | _=>False
/-- Blocks renumbered: block id becomes τ[id]. -/
def renV (τ:List Nat):Nat→Value→Option Value
 | 0,_=>none
 | k+1,v=>match v with
  | .bool b=>some (.bool b)
  | .int q n=>some (.int q n)
  | .string s=>some (.string s)
  | .pointer none=>some (.pointer none)
  | .pointer (some ⟨id,row,sp⟩)=>match τ[id]? with | some id'=>some (.pointer (some ⟨id',row,sp⟩)) | none=>none
  | .slice none 0 0=>some (.slice none 0 0)
  | .slice (some ⟨id,row,none⟩) n c=>match τ[id]? with | some id'=>some (.slice (some ⟨id',row,none⟩) n c) | none=>none
  | .nilFunc=>some .nilFunc
  | .agg ⟨l⟩=>match l.foldr (fun v acc=>match renV τ k v,acc with | some x,some xs=>some (x::xs) | _,_=>none) (some []) with | some l'=>some (.agg ⟨l'⟩) | none=>none
  | .tuple ⟨l⟩=>match l.foldr (fun v acc=>match renV τ k v,acc with | some x,some xs=>some (x::xs) | _,_=>none) (some []) with | some l'=>some (.tuple ⟨l'⟩) | none=>none
  | .func fn ⟨l⟩ ⟨m⟩=>match l.foldr (fun v acc=>match renV τ k v,acc with | some x,some xs=>some (x::xs) | _,_=>none) (some []),m.foldr (fun v acc=>match renV τ k v,acc with | some x,some xs=>some (x::xs) | _,_=>none) (some []) with
   | some l',some m'=>some (.func fn ⟨l'⟩ ⟨m'⟩) | _,_=>none
  | _=>none
def renL (τ:List Nat) (k:Nat) (l:List Value):Option (List Value):=l.foldr (fun v acc=>match renV τ k v,acc with | some x,some xs=>some (x::xs) | _,_=>none) (some [])
def allS:List Value→Bool
 | []=>true
 | v::l=>scal v && allS l
theorem allS_spec:∀ {l:List Value},allS l=true→∀ v∈l,scal v=true
 | [],_,v,hv=>by simp at hv
 | v::l,h,u,hu=>by
  simp only [allS,Bool.and_eq_true] at h
  rcases List.mem_cons.1 hu with e | e
  ·rw [e]; exact h.1
  ·exact allS_spec h.2 u e
/-- What a contract asks of a block (left), and a block that serves. -/
structure BlkLe (b c:Blk):Prop where
 own:b.own=true→c.ownC=true∧c.n=b.n
 esz:c.esz=b.esz
 n:b.n≤c.n
 row:∀ r,r < b.n→b.row r=c.row r
 flat:∀ r,r < b.n→∀ v∈b.row r,scal v=true
theorem BlkLe.flat_flat {o o':Bool} {n e:Nat} {g:Nat→List Value} (h:o=true→o'=true) (hs:∀ r,r < n→allS (g r)=true):BlkLe (.flat o n e g) (.flat o' n e g) :=
 ⟨fun ho=>⟨h ho,rfl⟩,rfl,Nat.le_refl _,fun _ _=>rfl,fun r hr v hv=>allS_spec (hs r hr) v hv⟩
def blksK (H:Heap):List Nat→List Blk→Prop→Prop
 | [],[],k=>k
 | s::σ,b::bs,k=>match b with
  | .lrec _=>False
  | b=>blkK H s fun c=>BlkLe b c∧blksK H σ bs k
 | _,_,_=>False
/-- A call of a function that has a contract. -/
def qCall (Φ:Specs) (g:FuncId) (args:List Value) (H:Heap) (nid:Nat) (k:QK):Prop :=
 match Φ g with
 | some (.p S)=>∃ i:S.ι,S.args i=args∧S.pre i∧forceK (S.val i) fun v=>k v none
 | some (.q S)=>∃ (i:S.ι) (σ:List Nat),renL σ 3 (S.args i)=some args∧S.pre i∧blksK H σ (S.blks i) (∃ v,renV (σ++[nid]) 3 (S.val i)=some v∧forceK v fun v=>k v (S.new i))
 | none=>False
/-- What is left of a capacity. -/
def capSub (c l:Nat):Nat:=match decide (c=capU) with | true=>capU | false=>c - l
/-- A slice out of a literal. -/
def setRow:List (List Value)→Nat→List Value→(List (List Value)→Prop)→Prop
 | [],_,_,_=>False
 | _::rs,0,r,k=>k (r::rs)
 | q::rs,n+1,r,k=>setRow rs n r fun rs'=>k (q::rs')
def rowsOf (tmps:List Value) (sz:Nat):List (Nat × Operand)→List (List Value)→(List (List Value)→Prop)→Prop
 | [],rows,k=>k rows
 | p::ps,rows,k=>evalK tmps p.2 fun v=>cellsK v fun cs=>match okCells cs sz with
  | true=>setRow rows p.1 cs fun rows'=>rowsOf tmps sz ps rows' k
  | false=>False
def repK (n:Nat) (r:List Value) (k:List (List Value)→Prop):Prop:=match n with
 | 0=>k []
 | n+1=>repK n r fun l=>k (r::l)
/-- The block of a literal's rows; without any it is flat. -/
def litBlk (esz:Nat) (rows:List (List Value)) (k:Blk→Prop):Prop :=
 match rows with
 | []=>k (.flat true 0 esz fun _=>[])
 | r::rs=>k (.expl true esz (r::rs))
def qBuildSlice (tt:TT) (tmps:List Value) (t:TypeId) (n:Nat) (ps:List (Nat × Operand)) (nid:Nat) (k:QK):Prop :=
 tyK tt t fun ti=>match ti.kind with
  | .slice e=>tyK tt e fun te=>match Nat.ble (n*te.size) 16777216 with
   | true=>repK n te.zero fun rows0=>rowsOf tmps te.size ps rows0 fun rows=>litBlk te.size rows fun b=>k (.slice (some ⟨nid,0,none⟩) n n) (some b)
   | false=>False
  | _=>False
def qMakeSlice (tt:TT) (tmps:List Value) (t:TypeId) (x y:Operand) (nid:Nat) (k:QK):Prop :=
 evalK tmps x fun xv=>evalK tmps y fun yv=>tyK tt t fun ti=>match ti.kind with
  | .slice e=>tyK tt e fun te=>match allS te.zero,xv,yv with
   | true,.int _ n,.int _ m=>(0≤n∧n≤m∧m*te.bytes≤140737488355328)∧k (.slice (some ⟨nid,0,none⟩) n.toNat m.toNat) (some (.flat true n.toNat te.size fun _=>te.zero))
   | _,_,_=>False
  | _=>False
def optK (tmps:List Value) (x:Option Operand) (d:Int) (k:Int→Prop):Prop :=
 match x with
 | none=>k d
 | some x=>evalK tmps x fun v=>match v with | .int _ n=>k n | _=>False
def qSlice (tt:TT) (tmps:List Value) (H:Heap) (t:TypeId) (x:Operand) (lo hi mx:Option Operand) (k:QK):Prop :=
 evalK tmps x fun xv=>tyK tt t fun ti=>match ti.kind,xv with
  | .str,.string s=>match mx with
   | none=>optK tmps lo 0 fun l=>optK tmps hi s.size fun h=>(0≤l∧l≤h∧h≤s.size)∧k (.string (s.extract l.toNat h.toNat)) none
   | some _=>False
  | .slice e,.slice (some ⟨id,row,none⟩) n c=>tyK tt e fun te=>blkK H id fun b=>match Nat.beq b.esz te.size with
   | true=>match hi,mx with
    | hi,none=>optK tmps lo 0 fun l=>optK tmps hi n fun h=>(0≤l∧l≤h∧h≤n)∧k (.slice (some ⟨id,rowAdd row l.toNat,none⟩) (h.toNat - l.toNat) (capSub c l.toNat)) none
    | some h0,some m=>optK tmps lo 0 fun l=>evalK tmps h0 fun hv=>evalK tmps m fun mv=>match hv,mv with
     | .int _ h,.int _ m=>(0≤l∧l≤h∧h≤m∧m≤n)∧k (.slice (some ⟨id,rowAdd row l.toNat,none⟩) (h.toNat - l.toNat) (m.toNat - l.toNat)) none
     | _,_=>False
    | none,some _=>False
   | false=>False
  | .slice e,.slice (some ⟨id,row,some b0⟩) n _=>tyK tt e fun te=>blkK H id fun b=>match Nat.beq b.esz te.size with
   | true=>match hi,mx with
    | hi,none=>optK tmps lo 0 fun l=>optK tmps hi n fun h=>(0≤l∧l≤h∧h≤b0)∧k (.slice (some ⟨id,rowAdd row l.toNat,some (b0 - l.toNat)⟩) (h.toNat - l.toNat) capU) none
    | some h0,some m=>optK tmps lo 0 fun l=>evalK tmps h0 fun hv=>evalK tmps m fun mv=>match hv,mv with
     | .int _ h,.int _ m=>(0≤l∧l≤h∧h≤m∧m≤b0)∧k (.slice (some ⟨id,rowAdd row l.toNat,none⟩) (h.toNat - l.toNat) (m.toNat - l.toNat)) none
     | _,_=>False
    | none,some _=>False
   | false=>False
  | .array n e,.pointer (some ⟨id,row,none⟩)=>tyK tt e fun te=>blkK H id fun b=>match Nat.beq b.esz te.size with
   | true=>match mx with
    | none=>optK tmps lo 0 fun l=>optK tmps hi n fun h=>(0≤l∧l≤h∧h≤n∧row+n≤b.n∧b.ownC=true)∧k (.slice (some ⟨id,rowAdd row l.toNat,none⟩) (h.toNat - l.toNat) (n - l.toNat)) none
    | some _=>False
   | false=>False
  | .slice e,.slice none 0 0=>tyK tt e fun _=>match hi,mx with
   | hi,none=>optK tmps lo 0 fun l=>optK tmps hi 0 fun h=>(0≤l∧l≤h∧h≤0)∧k (.slice none 0 0) none
   | some h0,some m=>optK tmps lo 0 fun l=>evalK tmps h0 fun hv=>evalK tmps m fun mv=>match hv,mv with
    | .int _ h,.int _ m=>(0≤l∧l≤h∧h≤m∧m≤0)∧k (.slice none 0 0) none
    | _,_=>False
   | none,some _=>False
  | _,_=>False
def qCap (tmps:List Value) (tt:TT) (t:TypeId) (x:Operand) (k:QK):Prop :=
 evalK tmps x fun xv=>tyK tt t fun ti=>match ti.kind,xv with
  | .slice _,.slice none 0 0=>k (.int .i64 0) none
  | _,_=>False
/-- Empty rows, appended to nothing. -/
def qGrowMake (tt:TT) (tmps:List Value) (t u:TypeId) (x y:Operand) (nid:Nat) (k:QK):Prop :=
 evalK tmps x fun xv=>evalK tmps y fun yv=>tyK tt t fun ti=>match ti.kind with
  | .slice e=>tyK tt e fun te=>tyK tt u fun tu=>match tu.kind,allS te.zero,xv,yv with
   | .int _,true,.slice none 0 0,.int .i64 n=>(0 < n∧n*te.bytes≤140737488355328)∧k (.slice (some ⟨nid,0,none⟩) n.toNat capU) (some (.flat true n.toNat te.size fun _=>te.zero))
   | _,_,_,_=>False
  | _=>False
/-- A function as it works upon the abstract heap. -/
abbrev FT:=List Value→Heap→(Value→Heap→Prop)→Prop
structure Env where
 tt:TT
 eqs:List TypeId
 Φ:Specs
 Ψ:FuncId→Option FT:=fun _=>none
 base:Nat:=0
 /-- Appending to a slice of unknown capacity may write over rows of its block. -/
 over:Bool:=false
 /-- Yield values in sight: which, and what a round does. -/
 ys:List (Nat × FT):=[]
 /-- Within a round. -/
 rd:Bool:=false
 /-- The numbering that the rounds lean on. -/
 nu:Nu:=fun _=>none
 /-- Iterators, under a yield value. -/
 It:FuncId→Option (Nat→FT→Nu→FT):=fun _=>none
def opQ (E:Env) (op:Op) (tmps:List Value) (H:Heap) (nid:Nat) (k:QK):Prop :=
 match op with
 | .move x | .assign x=>qMove tmps x k
 | .pick c a b=>qPick tmps c a b k
 | .alloc t=>qAlloc E.tt t nid k
 | .box t x=>qBox E.tt tmps t x nid k
 | .build t ps=>qBuild E.tt tmps t ps.toList k
 | .load t a=>qLoad E.tt tmps H t a k
 | .buildSlice t n ps=>qBuildSlice E.tt tmps t n ps.toList nid k
 | .makeSlice t x y=>qMakeSlice E.tt tmps t x y nid k
 | .slice t x lo hi mx=>qSlice E.tt tmps H t x lo hi mx k
 | .fieldAddr t x f=>qFieldAddr E.tt tmps t x f k
 | .field t x f=>qField E.tt tmps t x f k
 | .indexAddr t x i=>qIndexAddr E.tt tmps H t x i k
 | .index t x i=>qIndex E.tt tmps t x i k
 | .extract x i=>qExtract tmps x i k
 | .makeFunc fn a b=>qMakeFunc tmps fn a.toList b.toList k
 | .unOp op _ x=>qUn tmps op x k
 | .binOp op t x y _=>qBin E.tt E.eqs tmps op t x y k
 | .convert s d x=>qConvert E.tt tmps H s d x nid k
 | .call c=>match c.callee with
  | .value f=>evalK tmps f fun fv=>match fv with
   | .func (.func g) a b=>evalsK tmps c.args.toList fun vs=>appK a.toList vs fun l=>appK l b.toList fun args=>qCall E.Φ g args H nid k
   | _=>False
  | .builtin .len=>match c.args.toList,c.argTypes.toList with
   | [x],[t]=>qLen tmps E.tt t x k
   | _,_=>False
  | .builtin .max=>match c.args.toList with
   | [x,y]=>qMax tmps x y k
   | _=>False
  | .builtin .cap=>match c.args.toList,c.argTypes.toList with
   | [x],[t]=>qCap tmps E.tt t x k
   | _,_=>False
  | .builtin .append=>match c.args.toList,c.argTypes.toList with
   | [x,y],[t,u]=>qGrowMake E.tt tmps t u x y nid k
   | _,_=>False
  | .builtin .min=>match c.args.toList with
   | [x,y]=>qMin tmps x y k
   | _=>False
  | _=>False
 | _=>False
/-- What is to be shown of an operation: a result that hangs on the abstract state alone, and that the machine comes to from whatever state this one stands for. -/
def QOk (P:Program) (op:Op) (tmps:List Value) (H:Heap) (nid:Nat) (k:QK):Prop :=
 ∃ v nb,k v nb∧∀ (o:Oper) (ν:Nu) (a:Act) (w:World) (r:Option Nat) (n:Nat),o.op=op→(∀ x∈op.operands,OpRel ν tmps a x)→HRel ν H w→ν nid=none →
  ∀ next Q,(∀ v' w' ν',QPost ν ν' nid w w' v v' nb→next (a.put o.dst v') w')→o.wpIn (WF r) n P a w next Q
/-- An operation that gives a value out of its operands alone. -/
def PureV (P:Program) (ν0:Nu) (op:Op) (tmps:List Value) (v:Value):Prop :=
 (∀ c,op≠.defer c)∧∀ (o:Oper) (ν:Nu) (a:Act) (w:World),ν0.le ν→o.op=op→(∀ x∈op.operands,OpRel ν tmps a x)→∃ v',VRel ν v v'∧(execOp a.eval o).run P w=.ok (.value v') w
theorem wpIn_of_run {P:Program} {r:Option Nat} {n:Nat} {o:Oper} {a:Act} {w w':World} {v':Value} (hd:∀ c,o.op≠.defer c)
  (h:(execOp a.eval o).run P w=.ok (.value v') w') (next:Act→World→Prop) (Q:Exit→Act→World→Prop) (hn:next (a.put o.dst v') w') :
  o.wpIn (WF r) n P a w next Q:=by
 refine ⟨fun _ _=>trivial,?_⟩
 rw [Oper.semAt_eq _ _ _ hd,h]
 exact hn
/-- An operation that gives a value out of its operands and a heap. -/
def HeapV (P:Program) (ν0:Nu) (G:Heap) (op:Op) (tmps:List Value) (v:Value):Prop :=
 (∀ c,op≠.defer c)∧∀ (o:Oper) (ν:Nu) (a:Act) (w:World),ν0.le ν→o.op=op→(∀ x∈op.operands,OpRel ν tmps a x)→HRel ν G w→∃ v',VRel ν v v'∧(execOp a.eval o).run P w=.ok (.value v') w
def QVal (P:Program) (op:Op) (tmps:List Value) (H:Heap) (k:QK):Prop:=∃ v,k v none∧∀ ν0,HeapV P ν0 H op tmps v
theorem QVal.value {P:Program} {op:Op} {tmps:List Value} {H:Heap} {k:QK} (hd:∀ c,op≠.defer c) {v:Value} (hk:k v none)
  (h:∀ (o:Oper) (ν:Nu) (a:Act) (w:World),o.op=op→(∀ x∈op.operands,OpRel ν tmps a x)→HRel ν H w→∃ v',VRel ν v v'∧(execOp a.eval o).run P w=.ok (.value v') w):QVal P op tmps H k :=
 ⟨v,hk,fun _=>⟨hd,fun o ν a w _ ho ha hH=>h o ν a w ho ha hH⟩⟩
/-- An operation that gives a value and does nothing else. -/
theorem QOk.value {P:Program} {op:Op} {tmps:List Value} {H:Heap} {nid:Nat} {k:QK} (hd:∀ c,op≠.defer c) {v:Value} (hk:k v none)
  (h:∀ (o:Oper) (ν:Nu) (a:Act) (w:World),o.op=op→(∀ x∈op.operands,OpRel ν tmps a x)→HRel ν H w→∃ v',VRel ν v v'∧(execOp a.eval o).run P w=.ok (.value v') w):QOk P op tmps H nid k :=
 ⟨v,none,hk,fun o ν a w r n ho ha hH _ next Q hn=>by
  obtain ⟨v',hv,hr⟩:=h o ν a w ho ha hH
  exact wpIn_of_run (by rw [ho]; exact hd) hr next Q (hn _ _ ν ⟨ν.le_refl,fun _ _=>rfl,hv,Below.refl _ _,fun _=>rfl,(fun b hb=>by cases hb)⟩)⟩
theorem QVal.ok {P:Program} {op:Op} {tmps:List Value} {H:Heap} {nid:Nat} {k:QK} (h:QVal P op tmps H k):QOk P op tmps H nid k :=
 let ⟨_,hk,hv⟩:=h
 .value (hv fun _=>none).1 hk fun o ν a w ho ha hH=>(hv ν).2 o ν a w ν.le_refl ho ha hH
end Go.Ae
/- The abstract operations stand for the model's: one lemma an operation. -/
namespace Go.Ae
open Go Go.RowKit
section
variable {P:Program} {tt:TT} {Φ:Specs} {w:World} {ν:Nu} {nid:Nat} {k:QK} {tmps:List Value} {H:Heap}
theorem q_move {x:Operand} (h:qMove tmps x k):QOk P (.move x) tmps H nid k:=by
 obtain ⟨v,hk,hv⟩:=evalK_all h
 exact .value (by simp) hk fun o ν a w ho ha _=>⟨_,hv ν a (ha x (by simp [Op.operands])),by simp [execOp,ho]⟩
theorem q_assign {x:Operand} (h:qMove tmps x k):QOk P (.assign x) tmps H nid k:=by
 obtain ⟨v,hk,hv⟩:=evalK_all h
 exact .value (by simp) hk fun o ν a w ho ha _=>⟨_,hv ν a (ha x (by simp [Op.operands])),by simp [execOp,ho]⟩
theorem VRel.to_bool {ν:Nu} {b:Bool} {r:Value} (h:VRel ν (.bool b) r):r=.bool b:=by cases h; rfl
theorem VRel.to_int {ν:Nu} {k:IntKind} {x:Int} {r:Value} (h:VRel ν (.int k x) r):r=.int k x:=by cases h; rfl
theorem VRel.to_str {ν:Nu} {x:ByteArray} {r:Value} (h:VRel ν (.string x) r):r=.string x:=by cases h; rfl
theorem VRel.to_ptr {ν:Nu} {id row:Nat} {sp:Option Nat} {r:Value} (h:VRel ν (.pointer (some ⟨id,row,sp⟩)) r):∃ l,ν id=some l∧r=.pointer (some (l.at row (sp.getD 0))):=by
 cases h with | ptr _ _ _ l h=>exact ⟨l,h,rfl⟩
theorem q_pick {c x y:Operand} (h:qPick tmps c x y k):QOk P (.pick c x y) tmps H nid k:=by
 obtain ⟨cv,h,hc⟩:=evalK_all h
 split at h
 ·rename_i t
  obtain ⟨av,h,hx⟩:=evalK_all h
  obtain ⟨bv,h,hy⟩:=evalK_all h
  split at h
  ·refine .value (by simp) h fun o ν a w ho ha _=>⟨_,.bool _,?_⟩
   have hc:=(hc ν a (ha c (by simp [Op.operands]))).to_bool
   have hx:=(hx ν a (ha x (by simp [Op.operands]))).to_bool
   have hy:=(hy ν a (ha y (by simp [Op.operands]))).to_bool
   cases t <;> simp [execOp,ho,hc,hx,hy,asBool]
  ·cases t with
   | true =>
    refine .value (by simp) h fun o ν a w ho ha _=>⟨_,hx ν a (ha x (by simp [Op.operands])),?_⟩
    have hc:=(hc ν a (ha c (by simp [Op.operands]))).to_bool
    simp [execOp,ho,hc,asBool]
   | false =>
    refine .value (by simp) h fun o ν a w ho ha _=>⟨_,hy ν a (ha y (by simp [Op.operands])),?_⟩
    have hc:=(hc ν a (ha c (by simp [Op.operands]))).to_bool
    simp [execOp,ho,hc,asBool]
 ·exact h.elim
/-- A new row of cells: what it is worth. -/
theorem brel_new {ν:Nu} {nid:Nat} (hn:ν nid=none) {esz:Nat} {cs:List Value} {cs':List Value} (hl:cs.length=esz) (hr:LRel ν cs cs')
  (h1:∀ v∈cs,v.oneCell'=true) (w:World) (t:TypeId) :
  BRel (ν.add nid ⟨w.heap.size,0,esz,1⟩) ⟨w.heap.size,0,esz,1⟩ (.expl true esz [cs]) { w with heap:=w.heap.push (.cells ⟨cs'⟩ t) }:=by
 have hnew:({ w with heap:=w.heap.push (.cells ⟨cs'⟩ t) }:World).heap[w.heap.size]?=some (.cells ⟨cs'⟩ t (0,0)):=by simp
 refine ⟨rfl,fun r hr'=>?_,fun r hr' j v hv=>?_,fun h=>by simp [Blk.isFlat] at h,fun r hr' v hv=>?_,fun _ _=>⟨_,_,hnew,?_,?_⟩,(fun r h=>nomatch h),?_⟩
 ·have:r=0:=by simp [Blk.n] at hr'; exact hr'
  subst this; simpa [Blk.row,Blk.esz] using hl
 ·have:r=0:=by simp [Blk.n] at hr'; exact hr'
  subst this
  have hv:cs[j]?=some v:=by simpa [Blk.row] using hv
  obtain ⟨v',h2,h3⟩:=hr.get hv
  refine ⟨v',?_,h3.mono (Nu.le_add hn)⟩
  simp only [Loc.at,World.cell?,Nat.zero_mul,Nat.zero_add]
  rw [hnew]
  simpa using h2
 ·have:r=0:=by simp [Blk.n] at hr'; exact hr'
  subst this; exact h1 v (by simpa [Blk.row] using hv)
 ·simp [← hl,hr.1]
 ·simp [Blk.n]
 ·simp
theorem qpost_new {ν:Nu} {nid:Nat} (hn:ν nid=none) {b:Blk} {w w':World} {l:Loc} {v v':Value} (hb:BRel (ν.add nid l) l b w') (hB:Below w.heap.size w w') (hl:w.heap.size≤l.blk)
  (hv:VRel (ν.add nid l) v v'):QPost ν (ν.add nid l) nid w w' v v' (some b) :=
 ⟨Nu.le_add hn,fun id hid=>Nu.add_ne hid,hv,hB,(fun h=>by cases h),(fun b' hb'=>by cases hb'; exact ⟨l,Nu.add_same,hb,hl⟩)⟩
theorem below_push (w:World) (o:Obj):Below w.heap.size w { w with heap:=w.heap.push o }:=(Below.refl _ w).alloc (Nat.le_refl _) o
theorem stripV_spec:∀ {z l l':List Value},stripV z l=some l'→l=z++l'∧∀ v∈z,scal v=true
 | [],l,l',h=>by simp [stripV] at h; exact ⟨by simp [h],fun v hv=>by cases hv⟩
 | .int q n::z,[],l',h=>by simp [stripV] at h
 | .int q n::z,x::l,l',h=>by
  cases x <;> simp only [stripV] at h <;> try (cases h)
  split at h
  ·rename_i hd
   simp only [Bool.and_eq_true,decide_eq_true_eq] at hd
   obtain ⟨rfl,rfl⟩:=hd
   obtain ⟨h1,h2⟩:=stripV_spec h
   exact ⟨by rw [h1]; rfl,fun v hv=>(List.mem_cons.1 hv).elim (fun e=>by rw [e]; rfl) (fun e=>h2 v e)⟩
  ·cases h
 | .bool b::z,[],l',h=>by simp [stripV] at h
 | .bool b::z,x::l,l',h=>by
  cases x <;> simp only [stripV] at h <;> try (cases h)
  split at h
  ·rename_i hd
   have hd:=eq_of_beq hd
   subst hd
   obtain ⟨h1,h2⟩:=stripV_spec h
   exact ⟨by rw [h1]; rfl,fun v hv=>(List.mem_cons.1 hv).elim (fun e=>by rw [e]; rfl) (fun e=>h2 v e)⟩
  ·cases h
 | .string s::z,[],l',h=>by simp [stripV] at h
 | .string s::z,x::l,l',h=>by
  cases x <;> simp only [stripV] at h <;> try (cases h)
  split at h
  ·rename_i s' _ hd
   simp only [Bool.and_eq_true] at hd
   have e1:=Nat.eq_of_beq_eq_true hd.1
   have e2:=Nat.eq_of_beq_eq_true hd.2
   have e:s=s':=by
    apply ByteArray.ext
    apply Array.ext
    ·show s.size=s'.size; omega
    ·intro i h1 h2
     have:i < s.size:=h1
     omega
   subst e
   obtain ⟨h1,h2⟩:=stripV_spec h
   exact ⟨by rw [h1]; rfl,fun v hv=>(List.mem_cons.1 hv).elim (fun e=>by rw [e]; rfl) (fun e=>h2 v e)⟩
  ·cases h
theorem zRows_spec {z:List Value}:∀ {n:Nat} {l:List Value},zRows z n l=true→l.length=n*z.length∧(∀ r,r < n→∀ (j:Nat) v,z[j]?=some v→l[r*z.length+j]?=some v)∧(0 < n→∀ v∈z,scal v=true)
 | 0,[],_=>⟨by simp,fun r hr=>absurd hr (by omega),fun h=>absurd h (by omega)⟩
 | 0,_::_,h=>by simp [zRows] at h
 | n+1,l,h=>by
  simp only [zRows] at h
  split at h
  ·rename_i l' he
   obtain ⟨h1,h2⟩:=stripV_spec he
   obtain ⟨h3,h4,_⟩:=zRows_spec h
   refine ⟨by rw [h1,List.length_append,h3,Nat.add_mul]; omega,fun r hr j v hv=>?_,fun _=>h2⟩
   have hj:j < z.length:=(List.getElem?_eq_some_iff.1 hv).1
   rw [h1]
   cases r with
   | zero=>rw [Nat.zero_mul,Nat.zero_add,List.getElem?_append_left hj]; exact hv
   | succ r =>
    rw [List.getElem?_append_right (by rw [Nat.add_mul]; omega),show (r+1)*z.length+j - z.length=r*z.length+j by rw [Nat.add_mul]; omega]
    exact h4 r (by omega) j v hv
  ·cases h
theorem q_alloc (hT:∀ t ti,tt t=some ti→TIok P t ti) {t:TypeId} (h:qAlloc tt t nid k):QOk P (.alloc t) tmps H nid k:=by
 obtain ⟨ti,ht,h⟩:=tyK_spec h
 have hok:=hT _ _ ht
 obtain ⟨i,hi,_,_,z,hz,hzc⟩:=hok.info
 have old:k (.pointer (some ⟨nid,0,none⟩)) (some (.expl true ti.size [ti.zero]))→QOk P (.alloc t) tmps H nid k:=fun h=>by
  refine ⟨_,_,h,fun o ν a w r n ho ha hH hn next Q hN=>wpIn_of_run (w':={ w with heap:=w.heap.push (.cells ⟨ti.zero⟩ t) }) (v':=.pointer (some ⟨w.heap.size,0,none⟩)) (by simp [ho]) ?_ next Q (hN _ _ (ν.add nid ⟨w.heap.size,0,ti.size,1⟩) (qpost_new hn (brel_new hn hok.len (hok.self ν) hok.one w t) (below_push _ _) (Nat.le_refl _) ?_))⟩
  ·simp [execOp,ho,Instr.alloc,run_zeroValue' hi hz,newVar,newRow,hzc]
  ·have:=VRel.ptr (ν:=ν.add nid ⟨w.heap.size,0,ti.size,1⟩) nid 0 none _ Nu.add_same
   simpa [Loc.at] using this
 split at h
 ·rename_i n e hk
  obtain ⟨te,he,h⟩:=tyK_spec h
  have hoke:=hT _ _ he
  split at h
  ·rename_i hz0
   rw [Bool.and_eq_true] at hz0
   obtain ⟨z1,z2,z3⟩:=zRows_spec hz0.2
   refine ⟨_,_,h,fun o ν a w r nn ho ha hH hn next Q hN=>wpIn_of_run (w':={ w with heap:=w.heap.push (.cells ⟨ti.zero⟩ t) }) (v':=.pointer (some ⟨w.heap.size,0,none⟩)) (by simp [ho]) ?_ next Q (hN _ _ (ν.add nid ⟨w.heap.size,0,te.size,n⟩) (qpost_new hn ?_ (below_push _ _) (Nat.le_refl _) ?_))⟩
   ·simp [execOp,ho,Instr.alloc,run_zeroValue' hi hz,newVar,newRow,hzc]
   ·have hnew:({ w with heap:=w.heap.push (.cells ⟨ti.zero⟩ t) }:World).heap[w.heap.size]?=some (.cells ⟨ti.zero⟩ t (0,0)):=by show (w.heap.push _)[w.heap.size]?=_; simp
    refine ⟨rfl,fun r hr=>hoke.len,fun r hr j v hv=>⟨v,?_,VRel.scal_self (z3 (by have:r < n:=hr; omega) v (List.mem_of_getElem? hv))⟩,fun _ r hr v hv=>z3 (by have:r < n:=hr; omega) v hv,fun r hr v hv=>hoke.one v hv,fun _ _=>⟨_,_,hnew,?_,Nat.le_refl _⟩,(fun r h=>nomatch h),?_⟩
    ·have hr:r < n:=hr
     have hv:te.zero[j]?=some v:=hv
     have h2:=z2 r hr j v hv
     simp only [Loc.at,World.cell?,Nat.zero_add]
     rw [hnew]
     simp only [Option.isSome_none,Bool.false_eq_true,if_false]
     rw [← hoke.len]
     simpa using h2
    ·simp [z1,hoke.len]
    ·show w.heap.size < (w.heap.push _).size
     simp
   ·have:=VRel.ptr (ν:=ν.add nid ⟨w.heap.size,0,te.size,n⟩) nid 0 none _ Nu.add_same
    simpa [Loc.at] using this
  ·exact old h
 ·exact old h
theorem q_box (hT:∀ t ti,tt t=some ti→TIok P t ti) {t:TypeId} {x:Operand} (h:qBox tt tmps t x nid k):QOk P (.box t x) tmps H nid k:=by
 obtain ⟨ti,ht,h⟩:=tyK_spec h
 obtain ⟨v,h,hv⟩:=evalK_all h
 have h:=cellsK_spec h
 have hok:=hT _ _ ht
 split at h
 ·rename_i he
  obtain ⟨h1,h2⟩:=okCells_spec he
  refine ⟨_,_,h,fun o ν a w r n ho ha hH hn next Q hN=>?_⟩
  have hc:=(hv ν a (ha x (by simp [Op.operands]))).cells
  refine wpIn_of_run (w':={ w with heap:=w.heap.push (.cells (a.eval x).cells t) }) (v':=.pointer (some ⟨w.heap.size,0,none⟩)) (by simp [ho]) ?_ next Q (hN _ _ (ν.add nid ⟨w.heap.size,0,ti.size,1⟩) (qpost_new hn (brel_new hn h1 hc h2 w t) (below_push _ _) (Nat.le_refl _) ?_))
  ·simp [execOp,ho,Instr.box,newVar,newRow]
  ·have:=VRel.ptr (ν:=ν.add nid ⟨w.heap.size,0,ti.size,1⟩) nid 0 none _ Nu.add_same
   simpa [Loc.at] using this
 ·exact h.elim
theorem valK_spec {ag:Bool} {cs:List Value} {k:Value→Prop} (h:valK ag cs k):k (valOf ag cs):=by
 unfold valK at h
 split at h
 ·exact h
 ·exact forceK_spec h
 ·exact h
theorem valOf_rel {ν:Nu} {ag:Bool} {cs cs':List Value} (h:LRel ν cs cs'):VRel ν (valOf ag cs) (if ag then .agg ⟨cs'⟩ else cs'.getD 0 undef):=by
 cases ag with
 | true=>exact .agg _ _ h.1 h.2
 | false =>
  cases cs with
  | nil=>rw [h.nil_inv]; exact .undef ν
  | cons v l=>obtain ⟨y,ys,rfl,h1,_⟩:=h.uncons; exact h1
/-- A stretch of a row, read in the real memory. -/
theorem take_cells {l:Loc} {b:Blk} (hb:BRel ν l b w) {row off sz:Nat} {vs:List Value} (hr:row < b.n) (hl:vs.length=sz) (hv:∀ j v,vs[j]?=some v→(b.row row)[off+j]?=some v) :
  ∃ vs',LRel ν vs vs'∧vs'.length=sz∧∀ j v,vs'[j]?=some v→w.cell? ((l.at row off).add j)=some v:=by
 have key:∀ (vs:List Value) (off:Nat),(∀ j v,vs[j]?=some v→(b.row row)[off+j]?=some v)→∃ vs',LRel ν vs vs'∧∀ j v,vs'[j]?=some v→w.cell? ((l.at row off).add j)=some v:=by
  intro vs
  induction vs with
  | nil=>exact fun _ _=>⟨[],.nil ν,fun j v hj=>by simp at hj⟩
  | cons v vs ih =>
   intro off hv
   obtain ⟨v',h1,h2⟩:=hb.cell row hr off v (by have:=hv 0 v rfl; simpa using this)
   obtain ⟨vs',h3,h4⟩:=ih (off+1) (fun j u hu=>by have:=hv (j+1) u (by simpa using hu); rwa [show off+(j+1)=off+1+j by omega] at this)
   refine ⟨v'::vs',.cons h2 h3,fun j u hu=>?_⟩
   cases j with
   | zero=>rw [Loc.at_add]; simp at hu; subst hu; simpa using h1
   | succ j=>have:=h4 j u (by simpa using hu); rw [Loc.at_add] at this ⊢; rwa [show off+(j+1)=off+1+j by omega]
 obtain ⟨vs',h1,h2⟩:=key vs off hv
 exact ⟨vs',h1,by rw [← h1.1,hl],h2⟩
theorem q_loadV (hT:∀ t ti,tt t=some ti→TIok P t ti) {t:TypeId} {x:Operand} (h:qLoad tt tmps H t x k):QVal P (.load t x) tmps H k:=by
 obtain ⟨av,h,hv⟩:=evalK_all h
 split at h
 ·rename_i id row sp
  obtain ⟨ti,ht,h⟩:=tyK_spec h
  obtain ⟨b,hb,h⟩:=blkK_spec h
  obtain ⟨hr,h⟩:=rowK_spec h
  have h:=spK_spec h
  obtain ⟨vs,h,hl,hvs⟩:=takeK_spec h
  have h:=valK_spec h
  refine .value (by simp) h fun o ν a w ho ha hH=>?_
  obtain ⟨l,hl1,hB⟩:=hH.blk id b hb
  obtain ⟨l',hl2,he⟩:=(hv ν a (ha x (by simp [Op.operands]))).to_ptr
  rw [hl1] at hl2; cases hl2
  obtain ⟨vs',h1,h2,h3⟩:=take_cells hB hr hl hvs
  exact ⟨_,valOf_rel h1,by simp [execOp,ho,Instr.loadAt,he,Instr.sureAddr,run_loadVar' (hT _ _ ht) h2 h3]⟩
 ·exact h.elim
theorem q_load (hT:∀ t ti,tt t=some ti→TIok P t ti) {t:TypeId} {x:Operand} (h:qLoad tt tmps H t x k):QOk P (.load t x) tmps H nid k:=(q_loadV hT h).ok
theorem q_fieldAddr (hT:∀ t ti,tt t=some ti→TIok P t ti) {t:TypeId} {x:Operand} {f:Nat} (h:qFieldAddr tt tmps t x f k):QOk P (.fieldAddr t x f) tmps H nid k:=by
 obtain ⟨av,h,hv⟩:=evalK_all h
 split at h
 ·rename_i id row sp
  obtain ⟨ti,ht,h⟩:=tyK_spec h
  split at h
  ·rename_i fs hk
   obtain ⟨x',hx',h⟩:=fieldK_spec h
   have h:=spK_spec h
   obtain ⟨d,hu,hd⟩:=(hT _ _ ht).under
   rw [hk] at hd
   obtain ⟨fields,rfl,hsz,hf⟩:=hd
   have hlt:f < fields.size:=by rw [hsz]; exact (List.getElem?_eq_some_iff.1 hx').1
   have hfe:fields[f]?=some fields[f]:=Array.getElem?_eq_getElem hlt
   obtain ⟨h1,h2,⟨i,h3,h4⟩,_⟩:=hf f _ _ hfe hx'
   refine .value (by simp) h fun o ν a w ho ha hH=>?_
   obtain ⟨l,hl,he⟩:=(hv ν a (ha x (by simp [Op.operands]))).to_ptr
   refine ⟨.pointer (some (l.at row (sp.getD 0+x'.1))),.ptr _ _ (some _) _ hl,?_⟩
   have hne:¬ (i.size=0):=by omega
   simp [execOp,ho,Instr.fieldAt,run_underlying' hu,hfe,he,Instr.sureAddr,fieldPlace,run_sizeOf' h3,hne,h1,Loc.at_add]
  ·exact h.elim
 ·exact h.elim
theorem run_part {P:Program} {f:Field} {x:Nat × Nat × Bool} (hf:FieldOk P f x) {cs vs:List Value} (hl:vs.length=x.2.1) (hv:∀ j v,vs[j]?=some v→cs[x.1+j]?=some v) (w:World) :
  (part f.type ⟨cs⟩ f.offset).run P w=.ok (if x.2.2 then .agg ⟨vs⟩ else vs.getD 0 undef) w:=by
 obtain ⟨h1,h2,⟨i,h3,h4⟩,d,h5,h6⟩:=hf
 unfold part
 simp only [Sem.run_bind,run_isAgg h5,Result.andThen_ok,Sem.run_ite,h6]
 split
 ·simp only [Sem.run_bind,run_sizeOf' h3,Result.andThen_ok,h1,h4,← hl,Sem.run_pure]
  congr 2
  apply Array.ext'
  simp only [Array.toList_extract]
  apply List.ext_getElem?
  intro j
  by_cases hj:j < vs.length
  ·have:=hv j vs[j] (List.getElem?_eq_getElem hj)
   simp [List.extract,List.getElem?_take,List.getElem?_drop,hj,this]
  ·rw [List.getElem?_eq_none (by omega:vs.length≤j)]
   simp [List.extract,List.getElem?_take,hj]
 ·cases vs with
  | nil=>simp at hl; omega
  | cons v l =>
   have:=hv 0 v rfl
   simp only [Nat.add_zero] at this
   simp [h1,this]
theorem q_field (hT:∀ t ti,tt t=some ti→TIok P t ti) {t:TypeId} {x:Operand} {f:Nat} (h:qField tt tmps t x f k):QOk P (.field t x f) tmps H nid k:=by
 obtain ⟨av,h,hv⟩:=evalK_all h
 split at h
 ·rename_i cs
  obtain ⟨ti,ht,h⟩:=tyK_spec h
  split at h
  ·rename_i fs hk
   obtain ⟨x',hx',h⟩:=fieldK_spec h
   obtain ⟨vs,h,hl,hvs⟩:=takeK_spec h
   have h:=valK_spec h
   obtain ⟨d,hu,hd⟩:=(hT _ _ ht).under
   rw [hk] at hd
   obtain ⟨fields,rfl,hsz,hf⟩:=hd
   have hlt:f < fields.size:=by rw [hsz]; exact (List.getElem?_eq_some_iff.1 hx').1
   have hfe:fields[f]?=some fields[f]:=Array.getElem?_eq_getElem hlt
   have hok:=hf f _ _ hfe hx'
   refine .value (by simp) h fun o ν a w ho ha hH=>?_
   obtain ⟨ys,he,hy⟩:=VRel.to_agg (xs:=cs.toList) (hv ν a (ha x (by simp [Op.operands])))
   -- the same stretch of the real cells
   have hstr:∃ vs',LRel ν vs vs'∧vs'.length=x'.2.1∧∀ j v,vs'[j]?=some v→ys[x'.1+j]?=some v:=by
    refine ⟨(ys.drop x'.1).take vs.length,⟨?_,fun j a b ha hb=>?_⟩,?_,fun j v hj=>?_⟩
    ·rw [List.length_take,List.length_drop]
     have:∀ m,m < vs.length→x'.1+m < cs.toList.length:=fun m hm=>(List.getElem?_eq_some_iff.1 (hvs m _ (List.getElem?_eq_getElem hm))).1
     have h0:=hy.1
     by_cases h0':vs.length=0
     ·omega
     ·have:=this (vs.length - 1) (by omega); omega
    ·rw [List.getElem?_take,List.getElem?_drop] at hb
     split at hb
     ·exact hy.2 _ a b (hvs j a ha) hb
     ·cases hb
    ·rw [List.length_take,List.length_drop,hl]
     have:∀ m,m < vs.length→x'.1+m < cs.toList.length:=fun m hm=>(List.getElem?_eq_some_iff.1 (hvs m _ (List.getElem?_eq_getElem hm))).1
     have h0:=hy.1
     have hp:=hok.2.1
     have:=this (vs.length - 1) (by omega); omega
    ·rw [List.getElem?_take,List.getElem?_drop] at hj
     split at hj
     ·exact hj
     ·cases hj
   obtain ⟨vs',h1,h2,h3⟩:=hstr
   exact ⟨_,valOf_rel h1,by simp [execOp,ho,Instr.field,run_underlying' hu,hfe,he,asAgg,run_part hok h2 h3]⟩
  ·exact h.elim
 ·exact h.elim
theorem q_extract {x:Operand} {ix:Nat} (h:qExtract tmps x ix k):QOk P (.extract x ix) tmps H nid k:=by
 obtain ⟨v,h,hv⟩:=evalK_all h
 split at h
 ·rename_i vs
  obtain ⟨u,h1,h2⟩:=getT_spec h
  refine .value (by simp) h2 fun o ν a w ho ha hH=>?_
  obtain ⟨ys,he,hy⟩:=VRel.to_tuple (xs:=vs.toList) (hv ν a (ha x (by simp [Op.operands])))
  obtain ⟨u',h3,h4⟩:=hy.get h1
  exact ⟨_,h4,by simp [execOp,ho,he,Instr.extract,h3]⟩
 ·exact h.elim
theorem q_makeFunc {fn:Fn} {f c:Array Operand} (h:qMakeFunc tmps fn f.toList c.toList k):QOk P (.makeFunc fn f c) tmps H nid k:=by
 obtain ⟨vs,h,h1⟩:=evalsK_all h
 obtain ⟨us,h,h2⟩:=evalsK_all h
 refine .value (by simp) h fun o ν a w ho ha hH=>?_
 have h1:=h1 ν a (fun x hx=>ha x (by simp [Op.operands]; exact .inl (by simpa using hx)))
 have h2:=h2 ν a (fun x hx=>ha x (by simp [Op.operands]; exact .inr (by simpa using hx)))
 refine ⟨.func fn ⟨f.toList.map a.eval⟩ ⟨c.toList.map a.eval⟩,.func fn _ _ _ _ h1.1 h1.2 h2.1 h2.2,?_⟩
 simp only [execOp,ho,Instr.makeFunc]
 have e1:f.map a.eval=⟨f.toList.map a.eval⟩:=by apply Array.ext'; simp
 have e2:c.map a.eval=⟨c.toList.map a.eval⟩:=by apply Array.ext'; simp
 rw [e1,e2]; rfl
theorem q_un {op:UnOp} {t:TypeId} {x:Operand} (h:qUn tmps op x k):QOk P (.unOp op t x) tmps H nid k:=by
 obtain ⟨v,h,hv⟩:=evalK_all h
 split at h
 ·refine .value (by simp) h fun o ν a w ho ha hH=>⟨_,.int _ _,?_⟩
  have hv:=(hv ν a (ha x (by simp [Op.operands]))).to_int
  simp [execOp,ho,hv,Op.unary,Op.intArith]
 ·refine .value (by simp) h fun o ν a w ho ha hH=>⟨_,.bool _,?_⟩
  have hv:=(hv ν a (ha x (by simp [Op.operands]))).to_bool
  simp [execOp,ho,hv,Op.unary]
 ·rename_i q m
  split at h
  ·rename_i u hu
   have h:=forceK_spec h
   split at h
   ·rename_i hs
    refine .value (by simp) h fun o ν a w ho ha hH=>⟨_,VRel.scal_self hs,?_⟩
    have hv:=(hv ν a (ha x (by simp [Op.operands]))).to_int
    simp [execOp,ho,hv,Op.unary,hu]
   ·exact h.elim
  ·exact h.elim
 ·exact h.elim
end
end Go.Ae
/- The abstract operations stand for the model's: slices that are made and cut, strings and bytes. -/
namespace Go.Ae
open Go Go.RowKit
section
variable {P:Program} {tt:TT} {w:World} {ν:Nu} {nid:Nat} {k:QK} {tmps:List Value} {H:Heap}
theorem VRel.to_slice {ν:Nu} {id row m c:Nat} {x:Value} (h:VRel ν (.slice (some ⟨id,row,none⟩) m c) x) :
  (∃ l c',ν id=some l∧(c'=c∨c=capU)∧m≤c'∧row+c'≤l.cap∧x=.slice (some (l.at row 0)) m c')∨(m=0∧(0=c∨c=capU)∧∃ b,x=.slice (some b) 0 0):=by
 cases h with
 | slice _ _ _ _ c' l h hc hn hr=>exact .inl ⟨l,c',h,hc,hn,hr,rfl⟩
 | void _ _ _ b hc=>exact .inr ⟨rfl,hc,b,rfl⟩
theorem VRel.to_lim {ν:Nu} {id row b0 m c:Nat} {x:Value} (h:VRel ν (.slice (some ⟨id,row,some b0⟩) m c) x) :
  (∃ l c',ν id=some l∧b0≤c'∧m≤c'∧row+c'≤l.cap∧x=.slice (some (l.at row 0)) m c')∨(m=0∧b0=0∧∃ b,x=.slice (some b) 0 0):=by
 cases h with
 | lim _ _ _ _ c' l h hm hn hr=>exact .inl ⟨l,c',h,hm,hn,hr,rfl⟩
 | limz _ _ a=>exact .inr ⟨rfl,rfl,a,rfl⟩
theorem VRel.to_lim' {ν:Nu} {id row b0 m c:Nat} {x:Value} (h:VRel ν (.slice (some ⟨id,row,some b0⟩) m c) x) :
  (∃ l c',ν id=some l∧b0≤c'∧m≤c'∧row+c'≤l.cap∧c=capU∧x=.slice (some (l.at row 0)) m c')∨(m=0∧b0=0∧c=capU∧∃ b,x=.slice (some b) 0 0):=by
 cases h with
 | lim _ _ _ _ c' l h hm hn hr=>exact .inl ⟨l,c',h,hm,hn,hr,rfl,rfl⟩
 | limz _ _ a=>exact .inr ⟨rfl,rfl,rfl,a,rfl⟩
theorem VRel.to_any {ν:Nu} {id row m c:Nat} {sp:Option Nat} {x:Value} (h:VRel ν (.slice (some ⟨id,row,sp⟩) m c) x) :
  (∃ l c',ν id=some l∧m≤c'∧row+c'≤l.cap∧x=.slice (some (l.at row 0)) m c')∨(m=0∧∃ b,x=.slice (some b) 0 0):=by
 cases h with
 | slice _ _ _ _ c' l h hc hn hr=>exact .inl ⟨l,c',h,hn,hr,rfl⟩
 | void _ _ _ b hc=>exact .inr ⟨rfl,b,rfl⟩
 | lim _ _ _ _ c' l h hm hn hr=>exact .inl ⟨l,c',h,hn,hr,rfl⟩
 | limz _ _ a=>exact .inr ⟨rfl,a,rfl⟩
theorem VRel.to_snil {ν:Nu} {x:Value} (h:VRel ν (.slice none 0 0) x):x=.slice none 0 0:=by cases h; rfl
theorem optK_spec {x:Option Operand} {d:Int} {k:Int→Prop} (h:optK tmps x d k):∃ n,k n∧∀ (ν:Nu) (a:Act),(∀ y∈x.toArray,OpRel ν tmps a y)→(x=none∧n=d)∨∃ q,x.map a.eval=some (.int q n):=by
 cases x with
 | none=>exact ⟨d,h,fun ν a _=>.inl ⟨rfl,rfl⟩⟩
 | some x =>
  obtain ⟨v,h,hv⟩:=evalK_all h
  split at h
  ·rename_i q n
   exact ⟨n,h,fun ν a ha=>.inr ⟨q,by simp [(hv ν a (ha x (by simp))).to_int]⟩⟩
  ·exact h.elim
theorem run_bound {q:IntKind} {n:Int} {y:Nat} {code:BoundsCode} (h0:0≤n) (h1:n≤y) (w:World):(Instr.sliceBound (.int q n) y code).run P w=.ok n.toNat w:=by
 simp [Instr.sliceBound,asIntOf,h0,h1]
/-- The three bounds of a slice expression. -/
theorem run_bounds {len cap:Nat} {lo hi mx:Option Value} {l h m:Int} (hl:(lo=none∧l=0)∨∃ q,lo=some (.int q l)) (hh:(hi=none∧h=(len:Int))∨∃ q,hi=some (.int q h))
  (hm:(mx=none∧m=(cap:Int))∨((∃ q,mx=some (.int q m))∧∃ v,hi=some v)) (b0:0≤l) (b1:l≤h) (b2:h≤m) (b3:m≤cap) (isS:Bool) (w:World) :
  (Instr.sliceBounds isS len cap lo hi mx).run P w=.ok (l.toNat,h.toNat,m.toNat) w:=by
 unfold Instr.sliceBounds
 rcases hm with ⟨rfl,rfl⟩ | ⟨⟨q,rfl⟩,v,rfl⟩
 ·rcases hh with ⟨rfl,rfl⟩ | ⟨q,rfl⟩
  ·rcases hl with ⟨rfl,rfl⟩ | ⟨q,rfl⟩
   ·simp
   ·simp [run_bound (P:=P) (q:=q) (n:=l) (y:=len) b0 (by omega)]
  ·have e:=run_bound (P:=P) (q:=q) (n:=h) (y:=cap) (code:=if isS then .sliceAcap else .sliceAlen) (by omega) (by omega) w
   rcases hl with ⟨rfl,rfl⟩ | ⟨q',rfl⟩
   ·simp [e]
   ·simp [e,run_bound (P:=P) (q:=q') (n:=l) (y:=h.toNat) b0 (by omega)]
 ·rcases hh with ⟨h',_⟩ | ⟨q',h'⟩
  ·cases h'
  ·cases h'
   have e0:=run_bound (P:=P) (q:=q) (n:=m) (y:=cap) (code:=if isS then .slice3Acap else .slice3Alen) (by omega) (by omega) w
   have e:=run_bound (P:=P) (q:=q') (n:=h) (y:=m.toNat) (code:=.slice3B) (by omega) (by omega) w
   rcases hl with ⟨rfl,rfl⟩ | ⟨q',rfl⟩
   ·simp [e0,e]
   ·simp [e0,e,run_bound (P:=P) (q:=q') (n:=l) (y:=h.toNat) b0 (by omega)]
theorem q_slice_core (hT:∀ t ti,tt t=some ti→TIok P t ti) {t:TypeId} {x:Operand} {lo hi mx:Option Operand} (h:qSlice tt tmps H t x lo hi mx k):∃ v,k v none∧∀ (ν0:Nu) (w0:World),HRel ν0 H w0→PureV P ν0 (.slice t x lo hi mx) tmps v:=by
 obtain ⟨xv,h2,hx⟩:=evalK_all h
 clear h
 obtain ⟨ti,ht,h⟩:=tyK_spec h2
 clear h2
 obtain ⟨d,hu,hd⟩:=(hT _ _ ht).under
 have mem:∀ (o:Option Operand) y,(o=lo∨o=hi∨o=mx)→y∈o.toArray→y∈(Op.slice t x lo hi mx).operands:=by
  intro o y ho hy
  simp only [Op.operands,Array.mem_append]
  rcases ho with rfl | rfl | rfl
  ·exact .inl (.inl (.inr hy))
  ·exact .inl (.inr hy)
  ·exact .inr hy
 have memx:x∈(Op.slice t x lo hi mx).operands:=by simp [Op.operands]
 split at h
 ·rename_i s hk
  rw [hk] at hd
  have hd:d=.string:=hd
  subst hd
  split at h
  ·obtain ⟨l,h,hl⟩:=optK_spec h
   obtain ⟨hh,h,hhi⟩:=optK_spec h
   obtain ⟨⟨b0,b1,b2⟩,h⟩:=h
   refine ⟨_,h,fun ν0 w0 hH=>⟨by simp,fun o ν a w hle ho ha=>⟨_,.str _,?_⟩⟩⟩
   have hx:=(hx ν a (ha x memx)).to_str
   have e1:=hl ν a (fun y hy=>ha y (mem _ y (.inl rfl) hy))
   have e2:=hhi ν a (fun y hy=>ha y (mem _ y (.inr (.inl rfl)) hy))
   have:=run_bounds (P:=P) (len:=s.size) (cap:=s.size) (lo:=lo.map a.eval) (hi:=hi.map a.eval) (mx:=none) (l:=l) (h:=hh) (m:=s.size) (e1.imp (fun ⟨p,q⟩=>⟨by rw [p]; rfl,q⟩) (fun x=>x)) (e2.imp (fun ⟨p,q⟩=>⟨by rw [p]; rfl,q⟩) (fun x=>x)) (.inl ⟨rfl,rfl⟩) b0 b1 b2 (Int.le_refl _) false w
   simp [execOp,ho,Instr.sliceAt,run_underlying' hu,Instr.slice,hx,this]
  ·exact h.elim
 ·rename_i e id row n c hk
  rw [hk] at hd
  have hd:d=.slice e:=hd
  subst hd
  obtain ⟨te,he,h2⟩:=tyK_spec h
  clear h
  obtain ⟨b,hb,h⟩:=blkK_spec h2
  clear h2
  obtain ⟨ei,hei,hes,_⟩:=(hT _ _ he).info
  split at h
  ·rename_i hq
   have hq:b.esz=te.size:=Nat.eq_of_beq_eq_true hq
   -- what both forms come to
   have fin:∀ (o:Oper) (ν:Nu) (a:Act) (w:World) (l hh m:Int) (c1:Nat),o.op=.slice t x lo hi mx→(∀ x'∈(Op.slice t x lo hi mx).operands,OpRel ν tmps a x')→∀ (ν0:Nu) (w0:World),HRel ν0 H w0→ν0.le ν →
     (∀ (lv hv:Nat) (c':Nat),n≤c'→(c'=c∨c=capU)→∃ mm:Int,(Instr.sliceBounds true n c' (lo.map a.eval) (hi.map a.eval) (mx.map a.eval)).run P w=.ok (l.toNat,hh.toNat,mm.toNat) w∧hh.toNat≤mm.toNat∧mm.toNat≤c'∧(mm.toNat - l.toNat=c1∨c1=capU)) →
     0≤l→l≤hh→hh≤n →
     ∃ v',VRel ν (.slice (some ⟨id,rowAdd row l.toNat,none⟩) (hh.toNat - l.toNat) c1) v'∧(execOp a.eval o).run P w=.ok (.value v') w:=by
    intro o ν a w l hh m c1 ho ha ν0 w0 hH hle hbd b0 b1 b2
    obtain ⟨l0,hl0,hB⟩:=hH.blk id b hb
    have hl0:=hle _ _ hl0
    rcases (hx ν a (ha x memx)).to_slice with ⟨lc,c',hlc,hc,hn,hr,hxe⟩ | ⟨hn,hc,bb,hxe⟩
    ·rw [hl0] at hlc; cases hlc
     obtain ⟨mm,hrun,m1,m2,m3⟩:=hbd 0 0 c' hn hc
     by_cases hz:mm.toNat=l.toNat
     ·have e0:hh.toNat - l.toNat=0:=by omega
      refine ⟨.slice (some (l0.at row 0)) 0 0,?_,?_⟩
      ·rw [e0]; exact .void _ _ _ _ (m3.imp (fun h=>by omega) (fun h=>h))
      ·simp [execOp,ho,Instr.sliceAt,run_underlying' hu,Instr.slice,hxe,hrun,run_sizeOf' hei,hz,e0]
     ·refine ⟨.slice (some (l0.at (row+l.toNat) 0)) (hh.toNat - l.toNat) (mm.toNat - l.toNat),?_,?_⟩
      ·rw [rowAdd_eq]; exact .slice _ _ _ _ _ l0 hl0 m3 (by omega) (by omega)
      ·have hadd:(l0.at row 0).add (l.toNat*ei.size)=l0.at (row+l.toNat) 0:=by
        rw [Loc.at_add]
        unfold Loc.at
        congr 1
        rw [hes,← hq,← hB.esz,Nat.add_mul]; omega
       simp [execOp,ho,Instr.sliceAt,run_underlying' hu,Instr.slice,hxe,hrun,run_sizeOf' hei,hz,hadd]
    ·obtain ⟨mm,hrun,m1,m2,m3⟩:=hbd 0 0 0 (by omega) (hc.imp (fun h=>h) (fun h=>h))
     have e0:hh.toNat - l.toNat=0:=by omega
     have e1:mm.toNat - l.toNat=0:=by omega
     have e2:l.toNat=0:=by omega
     have e3:mm.toNat=0:=by omega
     have e4:hh.toNat=0:=by omega
     refine ⟨.slice (some bb) 0 0,?_,?_⟩
     ·rw [e0]; exact .void _ _ _ _ (m3.imp (fun h=>by omega) (fun h=>h))
     ·rw [e2,e3,e4] at hrun
      subst hn
      simp [execOp,ho,Instr.sliceAt,run_underlying' hu,Instr.slice,hxe,hrun,run_sizeOf' hei]
   split at h
   ·obtain ⟨l,h,hl⟩:=optK_spec h
    obtain ⟨hh,h,hhi⟩:=optK_spec h
    obtain ⟨⟨b0,b1,b2⟩,h⟩:=h
    refine ⟨_,h,fun ν0 w0 hH=>⟨by simp,fun o ν a w hle ho ha=>fin o ν a w l hh 0 _ ho ha ν0 w0 hH hle (fun _ _ c' hn hc=>⟨c',?_,by omega,by omega,?_⟩) b0 b1 b2⟩⟩
    ·have e1:=hl ν a (fun y hy=>ha y (mem _ y (.inl rfl) hy))
     have e2:=hhi ν a (fun y hy=>ha y (mem _ y (.inr (.inl rfl)) hy))
     exact run_bounds (P:=P) (e1.imp (fun ⟨p,q⟩=>⟨by rw [p]; rfl,q⟩) (fun x=>x)) (e2.imp (fun ⟨p,q⟩=>⟨by rw [p]; rfl,q⟩) (fun x=>x)) (.inl ⟨rfl,rfl⟩) b0 b1 (by omega) (Int.le_refl _) true w
    ·unfold capSub
     by_cases hcu:c=capU
     ·right; simp [hcu]
     ·left
      have:c'=c:=hc.resolve_right hcu
      simp [hcu,this]
   ·rename_i h0 m0
    obtain ⟨l,h2,hl⟩:=optK_spec h
    clear h
    obtain ⟨hv,h,hhi⟩:=evalK_all h2
    clear h2
    obtain ⟨mv,h2,hm⟩:=evalK_all h
    clear h
    have h:=h2
    clear h2
    split at h
    ·rename_i q1 hh q2 m
     obtain ⟨⟨b0,b1,b2,b3⟩,h⟩:=h
     refine ⟨_,h,fun ν0 w0 hH=>⟨by simp,fun o ν a w hle ho ha=>fin o ν a w l hh m _ ho ha ν0 w0 hH hle (fun _ _ c' hn hc=>⟨m,?_,by omega,by omega,.inl rfl⟩) b0 b1 (by omega)⟩⟩
     have e1:=hl ν a (fun y hy=>ha y (mem _ y (.inl rfl) hy))
     have e2:=(hhi ν a (ha h0 (mem _ h0 (.inr (.inl rfl)) (by simp)))).to_int
     have e3:=(hm ν a (ha m0 (mem _ m0 (.inr (.inr rfl)) (by simp)))).to_int
     exact run_bounds (P:=P) (e1.imp (fun ⟨p,q⟩=>⟨by rw [p]; rfl,q⟩) (fun x=>x)) (.inr ⟨q1,by simp [e2]⟩)
      (.inr ⟨⟨q2,by simp [e3]⟩,_,rfl⟩) b0 b1 (by omega) (by omega) true w
    ·exact h.elim
   ·exact h.elim
  ·exact h.elim
 ·rename_i e id row b0 n c hk
  rw [hk] at hd
  have hd:d=.slice e:=hd
  subst hd
  obtain ⟨te,he,h2⟩:=tyK_spec h
  clear h
  obtain ⟨b,hb,h⟩:=blkK_spec h2
  clear h2
  obtain ⟨ei,hei,hes,_⟩:=(hT _ _ he).info
  split at h
  ·rename_i hq
   have hq:b.esz=te.size:=Nat.eq_of_beq_eq_true hq
   split at h
   ·obtain ⟨l,h,hl⟩:=optK_spec h
    obtain ⟨hh,h,hhi⟩:=optK_spec h
    obtain ⟨⟨k0,k1,k2⟩,h⟩:=h
    refine ⟨_,h,fun ν0 w0 hH=>⟨by simp,fun o ν a w hle ho ha=>?_⟩⟩
    obtain ⟨l0,hl0,hB⟩:=hH.blk id b hb
    have hl0:=hle _ _ hl0
    have e1:=hl ν a (fun y hy=>ha y (mem _ y (.inl rfl) hy))
    have e2:=hhi ν a (fun y hy=>ha y (mem _ y (.inr (.inl rfl)) hy))
    rcases (hx ν a (ha x memx)).to_lim with ⟨lc,c',hlc,hbc,hn,hr,hxe⟩ | ⟨hn,hb0,bb,hxe⟩
    ·rw [hl0] at hlc; cases hlc
     have hrun:=run_bounds (P:=P) (len:=n) (cap:=c') (lo:=lo.map a.eval) (hi:=hi.map a.eval) (mx:=none) (l:=l) (h:=hh) (m:=c') (e1.imp (fun ⟨p,q⟩=>⟨by rw [p]; rfl,q⟩) (fun x=>x)) (e2.imp (fun ⟨p,q⟩=>⟨by rw [p]; rfl,q⟩) (fun x=>x)) (.inl ⟨rfl,rfl⟩) k0 k1 (by omega) (Int.le_refl _) true w
     rw [Int.toNat_natCast] at hrun
     by_cases hz:c'=l.toNat
     ·have e0:hh.toNat - l.toNat=0:=by omega
      have e3:b0 - l.toNat=0:=by omega
      refine ⟨.slice (some (l0.at row 0)) 0 0,?_,?_⟩
      ·rw [e0,e3]; exact .limz _ _ _
      ·simp [execOp,ho,Instr.sliceAt,run_underlying' hu,Instr.slice,hxe,hrun,run_sizeOf' hei,hz.symm,← hz]
       first | done | omega
     ·refine ⟨.slice (some (l0.at (row+l.toNat) 0)) (hh.toNat - l.toNat) (c' - l.toNat),?_,?_⟩
      ·rw [rowAdd_eq]; exact .lim _ _ _ _ _ l0 hl0 (by omega) (by omega) (by omega)
      ·have hadd:(l0.at row 0).add (l.toNat*ei.size)=l0.at (row+l.toNat) 0:=by
        rw [Loc.at_add]
        unfold Loc.at
        congr 1
        rw [hes,← hq,← hB.esz,Nat.add_mul]; omega
       simp [execOp,ho,Instr.sliceAt,run_underlying' hu,Instr.slice,hxe,hrun,run_sizeOf' hei,hz,hadd]
    ·have hrun:=run_bounds (P:=P) (len:=n) (cap:=0) (lo:=lo.map a.eval) (hi:=hi.map a.eval) (mx:=none) (l:=l) (h:=hh) (m:=(0:Nat)) (e1.imp (fun ⟨p,q⟩=>⟨by rw [p]; rfl,q⟩) (fun x=>x)) (e2.imp (fun ⟨p,q⟩=>⟨by rw [p]; rfl,q⟩) (fun x=>x)) (.inl ⟨rfl,rfl⟩) k0 k1 (by omega) (Int.le_refl _) true w
     have e2:l.toNat=0:=by omega
     have e4:hh.toNat=0:=by omega
     refine ⟨.slice (some bb) 0 0,?_,?_⟩
     ·rw [e4,e2,hb0]; exact .limz _ _ _
     ·rw [e2,e4] at hrun
      subst hn
      simp [execOp,ho,Instr.sliceAt,run_underlying' hu,Instr.slice,hxe,hrun,run_sizeOf' hei]
   ·rename_i h0 m0
    obtain ⟨l,h2,hl⟩:=optK_spec h
    clear h
    obtain ⟨hv,h,hhi⟩:=evalK_all h2
    clear h2
    obtain ⟨mv,h2,hm⟩:=evalK_all h
    clear h
    have h:=h2
    clear h2
    split at h
    ·rename_i q1 hh q2 m
     obtain ⟨⟨k0,k1,k2,k3⟩,h⟩:=h
     refine ⟨_,h,fun ν0 w0 hH=>⟨by simp,fun o ν a w hle ho ha=>?_⟩⟩
     obtain ⟨l0,hl0,hB⟩:=hH.blk id b hb
     have hl0:=hle _ _ hl0
     have e1:=hl ν a (fun y hy=>ha y (mem _ y (.inl rfl) hy))
     have e2:=(hhi ν a (ha h0 (mem _ h0 (.inr (.inl rfl)) (by simp)))).to_int
     have e3:=(hm ν a (ha m0 (mem _ m0 (.inr (.inr rfl)) (by simp)))).to_int
     rcases (hx ν a (ha x memx)).to_lim with ⟨lc,c',hlc,hbc,hn,hr,hxe⟩ | ⟨hn,hb0,bb,hxe⟩
     ·rw [hl0] at hlc; cases hlc
      have hrun:=run_bounds (P:=P) (len:=n) (cap:=c') (lo:=lo.map a.eval) (hi:=some (a.eval h0)) (mx:=some (a.eval m0)) (l:=l) (h:=hh) (m:=m) (e1.imp (fun ⟨p,q⟩=>⟨by rw [p]; rfl,q⟩) (fun x=>x)) (.inr ⟨q1,by rw [e2]⟩) (.inr ⟨⟨q2,by rw [e3]⟩,_,rfl⟩) k0 k1 (by omega) (by omega) true w
      by_cases hz:m.toNat=l.toNat
      ·have e0:hh.toNat - l.toNat=0:=by omega
       have e4:m.toNat - l.toNat=0:=by omega
       refine ⟨.slice (some (l0.at row 0)) 0 0,?_,?_⟩
       ·rw [e0,e4]; exact .void _ _ _ _ (.inl rfl)
       ·simp [execOp,ho,Instr.sliceAt,run_underlying' hu,Instr.slice,hxe,hrun,run_sizeOf' hei,hz,e0]
      ·refine ⟨.slice (some (l0.at (row+l.toNat) 0)) (hh.toNat - l.toNat) (m.toNat - l.toNat),?_,?_⟩
       ·rw [rowAdd_eq]; exact .slice _ _ _ _ _ l0 hl0 (.inl rfl) (by omega) (by omega)
       ·have hadd:(l0.at row 0).add (l.toNat*ei.size)=l0.at (row+l.toNat) 0:=by
         rw [Loc.at_add]
         unfold Loc.at
         congr 1
         rw [hes,← hq,← hB.esz,Nat.add_mul]; omega
        simp [execOp,ho,Instr.sliceAt,run_underlying' hu,Instr.slice,hxe,hrun,run_sizeOf' hei,hz,hadd]
     ·have hrun:=run_bounds (P:=P) (len:=n) (cap:=0) (lo:=lo.map a.eval) (hi:=some (a.eval h0)) (mx:=some (a.eval m0)) (l:=l) (h:=hh) (m:=m) (e1.imp (fun ⟨p,q⟩=>⟨by rw [p]; rfl,q⟩) (fun x=>x)) (.inr ⟨q1,by rw [e2]⟩) (.inr ⟨⟨q2,by rw [e3]⟩,_,rfl⟩) k0 k1 (by omega) (by omega) true w
      have e5:l.toNat=0:=by omega
      have e6:hh.toNat=0:=by omega
      have e7:m.toNat=0:=by omega
      refine ⟨.slice (some bb) 0 0,?_,?_⟩
      ·rw [e5,e6,e7]; exact .void _ _ _ _ (.inl rfl)
      ·rw [e5,e6,e7] at hrun
       subst hn
       simp [execOp,ho,Instr.sliceAt,run_underlying' hu,Instr.slice,hxe,hrun,run_sizeOf' hei]
    ·exact h.elim
   ·exact h.elim
  ·exact h.elim
 ·rename_i n e id row hk
  rw [hk] at hd
  have hd:d=.array n e:=hd
  subst hd
  obtain ⟨te,he,h2⟩:=tyK_spec h
  clear h
  obtain ⟨b,hb,h⟩:=blkK_spec h2
  clear h2
  obtain ⟨ei,hei,hes,_⟩:=(hT _ _ he).info
  split at h
  ·rename_i hq
   have hq:b.esz=te.size:=Nat.eq_of_beq_eq_true hq
   split at h
   ·obtain ⟨l,h,hl⟩:=optK_spec h
    obtain ⟨hh,h,hhi⟩:=optK_spec h
    obtain ⟨⟨b0,b1,b2,b3,b4⟩,h⟩:=h
    refine ⟨_,h,fun ν0 w0 hH=>⟨by simp,fun o ν a w hle ho ha=>?_⟩⟩
    obtain ⟨l0,hl0,hB⟩:=hH.blk id b hb
    have hl0:=hle _ _ hl0
    obtain ⟨lp,hlp,hxe⟩:=(hx ν a (ha x memx)).to_ptr
    rw [hl0] at hlp; cases hlp
    have hxe:a.eval x=.pointer (some (l0.at row 0)):=hxe
    obtain ⟨_,_,_,_,hcap⟩:=hB.own (Blk.ownC_spec b4).1 (Blk.ownC_spec b4).2
    have e1:=hl ν a (fun y hy=>ha y (mem _ y (.inl rfl) hy))
    have e2:=hhi ν a (fun y hy=>ha y (mem _ y (.inr (.inl rfl)) hy))
    have hrun:=run_bounds (P:=P) (len:=n) (cap:=n) (lo:=lo.map a.eval) (hi:=hi.map a.eval) (mx:=none) (l:=l) (h:=hh) (m:=n) (e1.imp (fun ⟨p,q⟩=>⟨by rw [p]; rfl,q⟩) (fun x=>x)) (e2.imp (fun ⟨p,q⟩=>⟨by rw [p]; rfl,q⟩) (fun x=>x)) (.inl ⟨rfl,rfl⟩) b0 b1 b2 (Int.le_refl _) false w
    rw [Int.toNat_natCast] at hrun
    by_cases hz:n=l.toNat
    ·have e0:hh.toNat - l.toNat=0:=by omega
     have e3:n - l.toNat=0:=by omega
     refine ⟨.slice (some (l0.at row 0)) 0 0,?_,?_⟩
     ·rw [e0,e3]; exact .void _ _ _ _ (.inl rfl)
     ·simp [execOp,ho,Instr.sliceAt,run_underlying' hu,Instr.sureAddr,hxe,hrun,run_sizeOf' hei,hz.symm,← hz,e0]
      first | done | omega
    ·refine ⟨.slice (some (l0.at (row+l.toNat) 0)) (hh.toNat - l.toNat) (n - l.toNat),?_,?_⟩
     ·rw [rowAdd_eq]; exact .slice _ _ _ _ _ l0 hl0 (.inl rfl) (by omega) (by omega)
     ·have hadd:(l0.at row 0).add (l.toNat*ei.size)=l0.at (row+l.toNat) 0:=by
       rw [Loc.at_add]
       unfold Loc.at
       congr 1
       rw [hes,← hq,← hB.esz,Nat.add_mul]; omega
      simp [execOp,ho,Instr.sliceAt,run_underlying' hu,Instr.sureAddr,hxe,hrun,run_sizeOf' hei,hz,hadd]
   ·exact h.elim
  ·exact h.elim
 ·rename_i e hk
  rw [hk] at hd
  have hd:d=.slice e:=hd
  subst hd
  obtain ⟨te,he,h2⟩:=tyK_spec h
  clear h
  obtain ⟨ei,hei,hes,_⟩:=(hT _ _ he).info
  split at h2
  ·obtain ⟨l,h,hl⟩:=optK_spec h2
   obtain ⟨hh,h,hhi⟩:=optK_spec h
   obtain ⟨⟨b0,b1,b2⟩,h⟩:=h
   refine ⟨_,h,fun ν0 w0 hH=>⟨by simp,fun o ν a w hle ho ha=>⟨_,.snil,?_⟩⟩⟩
   have hx:=(hx ν a (ha x memx)).to_snil
   have e1:=hl ν a (fun y hy=>ha y (mem _ y (.inl rfl) hy))
   have e2:=hhi ν a (fun y hy=>ha y (mem _ y (.inr (.inl rfl)) hy))
   have:=run_bounds (P:=P) (len:=0) (cap:=0) (lo:=lo.map a.eval) (hi:=hi.map a.eval) (mx:=none) (l:=l) (h:=hh) (m:=0) (e1.imp (fun ⟨p,q⟩=>⟨by rw [p]; rfl,q⟩) (fun x=>x)) (e2.imp (fun ⟨p,q⟩=>⟨by rw [p]; rfl,q⟩) (fun x=>x)) (.inl ⟨rfl,rfl⟩) b0 b1 b2 (by omega) true w
   rw [show l.toNat=0 by omega,show hh.toNat=0 by omega] at this
   simp [execOp,ho,Instr.sliceAt,run_underlying' hu,Instr.slice,hx,this,run_sizeOf' hei]
  ·rename_i h0 m0
   obtain ⟨l,h,hl⟩:=optK_spec h2
   clear h2
   obtain ⟨hv,h2,hhi⟩:=evalK_all h
   clear h
   obtain ⟨mv,h,hm⟩:=evalK_all h2
   clear h2
   split at h
   ·rename_i q1 hh q2 m
    obtain ⟨⟨b0,b1,b2,b3⟩,h⟩:=h
    refine ⟨_,h,fun ν0 w0 hH=>⟨by simp,fun o ν a w hle ho ha=>⟨_,.snil,?_⟩⟩⟩
    have hx:=(hx ν a (ha x memx)).to_snil
    have e1:=hl ν a (fun y hy=>ha y (mem _ y (.inl rfl) hy))
    have e2:=(hhi ν a (ha h0 (mem _ h0 (.inr (.inl rfl)) (by simp)))).to_int
    have e3:=(hm ν a (ha m0 (mem _ m0 (.inr (.inr rfl)) (by simp)))).to_int
    have:=run_bounds (P:=P) (len:=0) (cap:=0) (lo:=lo.map a.eval) (hi:=some (a.eval h0)) (mx:=some (a.eval m0)) (l:=l) (h:=hh) (m:=m) (e1.imp (fun ⟨p,q⟩=>⟨by rw [p]; rfl,q⟩) (fun x=>x)) (.inr ⟨q1,by rw [e2]⟩)
     (.inr ⟨⟨q2,by rw [e3]⟩,_,rfl⟩) b0 b1 b2 (by omega) true w
    rw [show l.toNat=0 by omega,show hh.toNat=0 by omega,show m.toNat=0 by omega] at this
    simp [execOp,ho,Instr.sliceAt,run_underlying' hu,Instr.slice,hx,this,run_sizeOf' hei]
   ·exact h.elim
  ·exact h2.elim
 ·exact h.elim
theorem q_slice (hT:∀ t ti,tt t=some ti→TIok P t ti) {t:TypeId} {x:Operand} {lo hi mx:Option Operand} (h:qSlice tt tmps H t x lo hi mx k):QOk P (.slice t x lo hi mx) tmps H nid k:=by
 obtain ⟨v,hk,hp⟩:=q_slice_core hT h
 exact .value (by simp) hk fun o ν a w ho ha hH=>(hp ν w hH).2 o ν a w ν.le_refl ho ha
end
end Go.Ae
/- The abstract operations stand for the model's, continued: indexes, arithmetic, conversions, lengths, structs, calls; and all of them together. -/
namespace Go.Ae
open Go Go.RowKit
section
variable {P:Program} {tt:TT} {Φ:Specs} {o:Oper} {a:Act} {w:World} {ν:Nu} {nid:Nat} {k:QK} {tmps:List Value} {H:Heap}
theorem VRel.to_sl {ν:Nu} {b:Option Addr} {m c:Nat} {z:Value} (h:VRel ν (.slice b m c) z):∃ b' c',z=.slice b' m c':=by cases h <;> exact ⟨_,_,rfl⟩
theorem VRel.to_func {ν:Nu} {fn:Fn} {x y:Array Value} {z:Value} (h:VRel ν (.func fn x y) z):∃ ys ys',z=.func fn ⟨ys⟩ ⟨ys'⟩∧LRel ν x.toList ys∧LRel ν y.toList ys':=by
 cases h with | func _ xs ys xs' ys' h1 h2 h3 h4=>exact ⟨ys,ys',rfl,⟨h1,h2⟩,⟨h3,h4⟩⟩
theorem q_indexAddrV (hT:∀ t ti,tt t=some ti→TIok P t ti) {t:TypeId} {x ix:Operand} (h:qIndexAddr tt tmps H t x ix k):QVal P (.indexAddr t x ix) tmps H k:=by
 obtain ⟨xv,h2,hx⟩:=evalK_all h
 clear h
 obtain ⟨iv,h,hi⟩:=evalK_all h2
 clear h2
 split at h
 ·rename_i q i
  obtain ⟨ti,ht,h2⟩:=tyK_spec h
  clear h
  have h:=h2
  clear h2
  obtain ⟨d,hu,hd⟩:=(hT _ _ ht).under
  split at h
  ·rename_i e hk
   rw [hk] at hd
   have hd:d=.slice e:=hd
   subst hd
   split at h
   ·rename_i id row m c
    obtain ⟨te,he,h⟩:=tyK_spec h
    obtain ⟨b,hb,h⟩:=blkK_spec h
    obtain ⟨⟨h0,h1⟩,h⟩:=h
    split at h
    ·rename_i hq
     have hq:b.esz=te.size:=Nat.eq_of_beq_eq_true hq
     obtain ⟨ei,hei,hes,_⟩:=(hT _ _ he).info
     rw [rowAdd_eq] at h
     refine .value (by simp) h fun o ν a w ho ha hH=>?_
     have hi:=(hi ν a (ha ix (by simp [Op.operands]))).to_int
     obtain ⟨l0,hl0,hB⟩:=hH.blk id b hb
     rcases (hx ν a (ha x (by simp [Op.operands]))).to_slice with ⟨l,c',hl,hc,hm,hr,hxe⟩ | ⟨hm,_⟩
     ·rw [hl0] at hl; cases hl
      refine ⟨.pointer (some (l0.at (row+i.toNat) 0)),.ptr _ _ none _ hl0,?_⟩
      have hlt:i < (m:Int):=h1
      have hadd:(l0.at row 0).add (i.toNat*ei.size)=l0.at (row+i.toNat) 0:=by
       rw [Loc.at_add]
       unfold Loc.at
       congr 1
       rw [hes,← hq,← hB.esz,Nat.add_mul]; omega
      simp [execOp,ho,Instr.indexAt,hi,asIntOf,run_underlying' hu,hxe,h0,hlt,run_sizeOf' hei,hadd]
     ·omega
    ·exact h.elim
   ·exact h.elim
  ·rename_i m e hk
   rw [hk] at hd
   have hd:d=.array m e:=hd
   subst hd
   split at h
   ·rename_i id row
    obtain ⟨te,he,h⟩:=tyK_spec h
    obtain ⟨b,hb,h⟩:=blkK_spec h
    obtain ⟨⟨h0,h1⟩,h⟩:=h
    obtain ⟨ei,hei,hes,_⟩:=(hT _ _ he).info
    split at h
    ·rename_i hq
     have hq:b.esz=te.size:=Nat.eq_of_beq_eq_true hq
     rw [rowAdd_eq] at h
     refine .value (by simp) h fun o ν a w ho ha hH=>?_
     have hi:=(hi ν a (ha ix (by simp [Op.operands]))).to_int
     obtain ⟨l0,hl0,hB⟩:=hH.blk id b hb
     obtain ⟨l,hl,hxe⟩:=(hx ν a (ha x (by simp [Op.operands]))).to_ptr
     rw [hl0] at hl; cases hl
     refine ⟨.pointer (some (l0.at (row+i.toNat) 0)),.ptr _ _ none _ hl0,?_⟩
     have hadd:(l0.at row 0).add (i.toNat*ei.size)=l0.at (row+i.toNat) 0:=by
      rw [Loc.at_add]
      unfold Loc.at
      congr 1
      rw [hes,← hq,← hB.esz,Nat.add_mul]; omega
     have hxe:a.eval x=.pointer (some (l0.at row 0)):=hxe
     simp [execOp,ho,Instr.indexAt,hi,asIntOf,run_underlying' hu,hxe,Instr.sureAddr,h0,h1,run_sizeOf' hei,hadd]
    ·refine .value (by simp) h fun o ν a w ho ha hH=>?_
     have hi:=(hi ν a (ha ix (by simp [Op.operands]))).to_int
     obtain ⟨l,hl,hxe⟩:=(hx ν a (ha x (by simp [Op.operands]))).to_ptr
     have hxe:a.eval x=.pointer (some (l.at row 0)):=hxe
     refine ⟨.pointer (some (l.at row (0+i.toNat*te.size))),.ptr _ _ (some _) _ hl,?_⟩
     simp [execOp,ho,Instr.indexAt,hi,asIntOf,run_underlying' hu,hxe,Instr.sureAddr,h0,h1,run_sizeOf' hei,Loc.at_add,hes]
   ·rename_i id row c
    obtain ⟨te,he,h⟩:=tyK_spec h
    obtain ⟨⟨h0,h1⟩,h⟩:=h
    obtain ⟨ei,hei,hes,_⟩:=(hT _ _ he).info
    refine .value (by simp) h fun o ν a w ho ha hH=>?_
    have hi:=(hi ν a (ha ix (by simp [Op.operands]))).to_int
    obtain ⟨l,hl,hxe⟩:=(hx ν a (ha x (by simp [Op.operands]))).to_ptr
    have hxe:a.eval x=.pointer (some (l.at row c)):=hxe
    refine ⟨.pointer (some (l.at row (c+i.toNat*te.size))),.ptr _ _ (some _) _ hl,?_⟩
    simp [execOp,ho,Instr.indexAt,hi,asIntOf,run_underlying' hu,hxe,Instr.sureAddr,h0,h1,run_sizeOf' hei,Loc.at_add,hes]
   ·exact h.elim
  ·exact h.elim
 ·exact h.elim
theorem q_indexAddr (hT:∀ t ti,tt t=some ti→TIok P t ti) {t:TypeId} {x ix:Operand} (h:qIndexAddr tt tmps H t x ix k):QOk P (.indexAddr t x ix) tmps H nid k:=(q_indexAddrV hT h).ok
theorem byteAt_get (s:ByteArray) (i:Nat) (h:i < s.size):s[i]?=some (s[i]'h)∧((s[i]'h).toNat=byteAt s i):=by
 refine ⟨by simp [h],?_⟩
 unfold byteAt
 rw [List.getD_eq_getElem?_getD,Array.getElem?_toList]
 have:s.data[i]?=some (s[i]'h):=by rw [Array.getElem?_eq_getElem (by simpa using h)]; rfl
 rw [this]; rfl
theorem q_index (hT:∀ t ti,tt t=some ti→TIok P t ti) {t:TypeId} {x ix:Operand} (h:qIndex tt tmps t x ix k):QOk P (.index t x ix) tmps H nid k:=by
 obtain ⟨xv,h2,hx⟩:=evalK_all h
 clear h
 obtain ⟨iv,h,hi⟩:=evalK_all h2
 clear h2
 split at h
 ·rename_i q i
  obtain ⟨ti,ht,h2⟩:=tyK_spec h
  clear h
  have h:=h2
  clear h2
  obtain ⟨d,hu,hd⟩:=(hT _ _ ht).under
  split at h
  ·rename_i hk
   rw [hk] at hd
   have hd:d=.string:=hd
   subst hd
   split at h
   ·rename_i s
    obtain ⟨⟨h0,h1⟩,h⟩:=h
    have hlt:i.toNat < s.size:=by omega
    obtain ⟨h2,h3⟩:=byteAt_get s i.toNat hlt
    refine .value (by simp) h fun o ν a w ho ha hH=>⟨_,.int _ _,?_⟩
    have hi:=(hi ν a (ha ix (by simp [Op.operands]))).to_int
    have hx:=(hx ν a (ha x (by simp [Op.operands]))).to_str
    simp [execOp,ho,Instr.index,hi,asIntOf,run_underlying' hu,hx,h0,h2,h3]
   ·exact h.elim
  ·exact h.elim
 ·exact h.elim
def intAny (op:BinOp) (q:IntKind) (a b:Int):Sem Value :=
 match op with
 | .add | .sub | .mul=>Op.intArith op q a b
 | .quo | .rem=>Op.intDiv op q a b
 | .and | .or | .xor | .andNot=>Op.intBits op q a b
 | _=>Op.intCmp op a b
theorem binOp_int (op:BinOp) (t:TypeId) (q:IntKind) (a b:Int) (h1:op≠.shl) (h2:op≠.shr):binOp op t (.int q a) (.int q b)=intAny op q a b:=by
 cases op <;> first | exact absurd rfl h1 | exact absurd rfl h2 | (cases q <;> rfl)
theorem binOp_shl (t:TypeId) (q q':IntKind) (a b:Int):binOp .shl t (.int q a) (.int q' b)=Op.shift .shl q a q' b:=rfl
theorem binOp_shr (t:TypeId) (q q':IntKind) (a b:Int):binOp .shr t (.int q a) (.int q' b)=Op.shift .shr q a q' b:=rfl
theorem guard_int (op:BinOp) (t:TypeId) (x y:Operand) (q q':IntKind) (a b:Int) (w:World):(eqGuard op t x y (.int q a) (.int q' b)).run P w=.ok () w:=by cases op <;> rfl
theorem guard_str (op:BinOp) (t:TypeId) (x y:Operand) (a b:ByteArray) (w:World):(eqGuard op t x y (.string a) (.string b)).run P w=.ok () w:=by cases op <;> rfl
theorem guard_bool (op:BinOp) (t:TypeId) (x y:Operand) (a b:Bool) (w:World):(eqGuard op t x y (.bool a) (.bool b)).run P w=.ok () w:=by cases op <;> rfl
/-- The run of a binary operation out of its parts. -/
theorem run_bin {op:BinOp} {t ty:TypeId} {x y:Operand} (ho:o.op=.binOp op t x y ty) {u v z:Value} (hx:a.eval x=u) (hy:a.eval y=v) (hg:(eqGuard op t x y u v).run P w=.ok () w)
  (hb:(binOp op t u v).run P w=.ok z w):(execOp a.eval o).run P w=.ok (.value z) w:=by
 simp only [execOp,ho,hx,hy,Sem.run_bind,hg,hb,Result.andThen_ok,Sem.run_pure]
theorem q_bits {op:BinOp} {t:TypeId} {q:IntKind} {x y:Int} (h:qBits op q x y k):∃ z,k z none∧scal z=true∧∀ w,(intAny op q x y).run P w=.ok z w:=by
 cases op <;> first | exact h.elim | skip
 case and=>exact ⟨.int q (q.wrap (BitVec.ofInt q.bits x &&& BitVec.ofInt q.bits y).toNat),h,rfl,fun w=>rfl⟩
 case or=>exact ⟨.int q (q.wrap (BitVec.ofInt q.bits x ||| BitVec.ofInt q.bits y).toNat),h,rfl,fun w=>rfl⟩
 case xor=>exact ⟨.int q (q.wrap (BitVec.ofInt q.bits x ^^^ BitVec.ofInt q.bits y).toNat),h,rfl,fun w=>rfl⟩
 case andNot=>exact ⟨.int q (q.wrap (BitVec.ofInt q.bits x &&& ~~~(BitVec.ofInt q.bits y)).toNat),h,rfl,fun w=>rfl⟩
theorem q_binInt {op:BinOp} {t:TypeId} {q q':IntKind} {x y:Int} (h:qBinInt op q q' x y k):∃ z,k z none∧scal z=true∧∀ w,(binOp op t (.int q x) (.int q' y)).run P w=.ok z w:=by
 by_cases hsl:op=.shl
 ·subst hsl
  obtain ⟨h0,h⟩:=need_spec h
  exact ⟨_,h,rfl,fun w=>by rw [binOp_shl]; simp [Op.shift,show ¬ y < 0 by omega]⟩
 by_cases hsr:op=.shr
 ·subst hsr
  obtain ⟨h0,h⟩:=need_spec h
  exact ⟨_,h,rfl,fun w=>by rw [binOp_shr]; simp [Op.shift,show ¬ y < 0 by omega]⟩
 by_cases hq:q=q'
 ·subst hq
  have e:=binOp_int op t q x y hsl hsr
  rw [e]
  have hd:decide (q=q)=true:=by simp
  cases op <;> first | exact absurd rfl hsl | exact absurd rfl hsr | skip
  all_goals (unfold qBinInt at h; rw [hd] at h; dsimp only at h)
  case quo=>obtain ⟨h0,h⟩:=need_spec h; exact ⟨_,h,rfl,fun w=>by simp [intAny,Op.intDiv,h0]⟩
  case rem=>obtain ⟨h0,h⟩:=need_spec h; exact ⟨_,h,rfl,fun w=>by simp [intAny,Op.intDiv,h0]⟩
  case and=>exact q_bits (t:=t) h
  case or=>exact q_bits (t:=t) h
  case xor=>exact q_bits (t:=t) h
  case andNot=>exact q_bits (t:=t) h
  all_goals exact ⟨_,h,rfl,fun w=>rfl⟩
 ·have hd:decide (q=q')=false:=by simp [hq]
  cases op <;> first | exact absurd rfl hsl | exact absurd rfl hsr | (unfold qBinInt at h; rw [hd] at h; exact h.elim)
theorem q_binStr {op:BinOp} {t:TypeId} {x y:ByteArray} (h:qBinStr op x y k):∃ z,k z none∧scal z=true∧∀ w,(binOp op t (.string x) (.string y)).run P w=.ok z w:=by
 cases op <;> first | exact h.elim | exact ⟨_,h,rfl,fun w=>rfl⟩ | skip
 obtain ⟨h0,h⟩:=h
 refine ⟨_,h,rfl,fun w=>?_⟩
 have:¬ (((x.size+y.size:Nat):Int) > IntKind.i64.max):=by
  have:IntKind.i64.max=9223372036854775807:=by decide
  rw [this]; omega
 show (Op.stringOp .add x y).run P w=_
 unfold Op.stringOp
 dsimp only
 rw [if_neg this]
 rfl
theorem run_eql {t:TypeId} {x y:Value} {b:Bool} (hs:∀ q a,x≠.int q a) (hst:∀ s,x≠.string s) (hf:∀ q a,x≠.float q a) (hc:∀ q a b,x≠.complex q a b) (hp:∀ a,x≠.pointer a)
  (h:(Op.equal t x y).run P w=.ok b w):(binOp .eql t x y).run P w=.ok (.bool b) w∧(binOp .neq t x y).run P w=.ok (.bool !b) w:=by
 have e1:binOp .eql t x y=(do pure (.bool (← Op.equal t x y)):Sem Value):=by
  cases x <;> first | exact absurd rfl (hs _ _) | exact absurd rfl (hst _) | exact absurd rfl (hf _ _) | exact absurd rfl (hc _ _ _) | exact absurd rfl (hp _) | rfl
 have e2:binOp .neq t x y=(do pure (.bool (!(← Op.equal t x y))):Sem Value):=by
  cases x <;> first | exact absurd rfl (hs _ _) | exact absurd rfl (hst _) | exact absurd rfl (hf _ _) | exact absurd rfl (hc _ _ _) | exact absurd rfl (hp _) | rfl
 rw [e1,e2]
 simp only [Sem.run_bind,h,Result.andThen_ok]
 exact ⟨rfl,rfl⟩
theorem run_equal_bool {t:TypeId} (hu:P.underlying t=some .bool) (b b':Bool) (w:World):(Op.equal t (.bool b) (.bool b')).run P w=.ok (b == b') w:=by
 show (Op.equalIn (9999+1) t (.bool b) (.bool b')).run P w=_
 rw [Op.equalIn]
 simp only [Sem.run_bind,run_underlying' hu,Result.andThen_ok]
 rfl
theorem q_binBool {ti:TI} {op:BinOp} {t:TypeId} {x y:Bool} (hu:ti.kind=.bool→P.underlying t=some .bool) (h:qBinBool ti.kind op x y k):∃ z,k z none∧scal z=true∧∀ w,(binOp op t (.bool x) (.bool y)).run P w=.ok z w:=by
 unfold qBinBool at h
 split at h
 ·rename_i hk
  exact ⟨_,h,rfl,fun w=>(run_eql (by simp) (by simp) (by simp) (by simp) (by simp) (run_equal_bool (hu hk) x y w)).1⟩
 ·rename_i hk
  exact ⟨_,h,rfl,fun w=>(run_eql (by simp) (by simp) (by simp) (by simp) (by simp) (run_equal_bool (hu hk) x y w)).2⟩
 ·exact h.elim
theorem sameKinds_scal:∀ {l m:List Value},sameKinds l m=true→∀ v∈l,scal v=true
 | [],[],_=>fun v hv=>by simp at hv
 | .bool _::l,.bool _::m,h=>fun v hv=>by
  rcases List.mem_cons.1 hv with e | e
  ·rw [e]; rfl
  ·exact sameKinds_scal (l:=l) (m:=m) h v e
 | .int q _::l,.int q' _::m,h=>fun v hv=>by
  rcases List.mem_cons.1 hv with e | e
  ·rw [e]; rfl
  ·exact sameKinds_scal (l:=l) (m:=m) (by simp only [sameKinds,Bool.and_eq_true] at h; exact h.2) v e
 | .string _::l,.string _::m,h=>fun v hv=>by
  rcases List.mem_cons.1 hv with e | e
  ·rw [e]; rfl
  ·exact sameKinds_scal (l:=l) (m:=m) h v e
theorem LRel.of_scal {ν:Nu}:∀ {l m:List Value},(∀ v∈l,scal v=true)→LRel ν l m→m=l
 | [],m,_,h=>h.nil_inv
 | v::l,m,hs,h=>by
  obtain ⟨y,ys,rfl,h1,h2⟩:=h.uncons
  rw [h1.of_scal (hs v (by simp)),LRel.of_scal (fun u hu=>hs u (by simp [hu])) h2]
theorem q_binAgg {eqs:List TypeId} {zero:List Value} {op:BinOp} {t:TypeId} {xs ys:List Value} (hE:∀ t∈eqs,∀ ti,tt t=some ti→EqTy P t ti.zero) {ti:TI} (ht:tt t=some ti) (h:qBinAgg eqs t ti.zero op xs ys k) :
  ∃ z,k z none∧scal z=true∧(∀ v∈xs,scal v=true)∧(∀ v∈ys,scal v=true)∧∀ w,(binOp op t (.agg ⟨xs⟩) (.agg ⟨ys⟩)).run P w=.ok z w∧∀ x y,(eqGuard op t x y (.agg ⟨xs⟩) (.agg ⟨ys⟩)).run P w=.ok () w:=by
 unfold qBinAgg at h
 split at h
 ·rename_i hb
  simp only [Bool.and_eq_true] at hb
  obtain ⟨⟨h1,h2⟩,h3⟩:=hb
  have hq:=hE t (by simpa using h1) ti ht
  exact ⟨_,h,rfl,sameKinds_scal h2,sameKinds_scal h3,fun w=>⟨(run_eql (by simp) (by simp) (by simp) (by simp) (by simp) (hq xs ys w h2 h3).1).1,fun x y=>(hq xs ys w h2 h3).2 x y _⟩⟩
 ·rename_i hb
  simp only [Bool.and_eq_true] at hb
  obtain ⟨⟨h1,h2⟩,h3⟩:=hb
  have hq:=hE t (by simpa using h1) ti ht
  exact ⟨_,h,rfl,sameKinds_scal h2,sameKinds_scal h3,fun w=>⟨(run_eql (by simp) (by simp) (by simp) (by simp) (by simp) (hq xs ys w h2 h3).1).2,fun x y=>(hq xs ys w h2 h3).2 x y _⟩⟩
 ·exact h.elim
theorem guard_slice (op:BinOp) (t:TypeId) (x y:Operand) (a b:Option Addr) (n c n' c':Nat) (w:World):(eqGuard op t x y (.slice a n c) (.slice b n' c')).run P w=.ok () w:=by cases op <;> rfl
theorem VRel.to_slice' {ν:Nu} {a:Option Addr} {n c:Nat} {z:Value} (h:VRel ν (.slice a n c) z):∃ a' n' c',z=.slice a' n' c'∧a'.isNone=a.isNone:=by
 cases h with
 | snil=>exact ⟨none,0,0,rfl,rfl⟩
 | slice id row n c c' l h hc hn hr=>exact ⟨_,_,_,rfl,rfl⟩
 | void id row c a hc=>exact ⟨_,_,_,rfl,rfl⟩
 | lim id row m n c' l h hm hn hr=>exact ⟨_,_,_,rfl,rfl⟩
 | limz id row a=>exact ⟨_,_,_,rfl,rfl⟩
theorem run_equal_nil {t e:TypeId} (hu:P.underlying t=some (.slice e)) (a:Option Addr) (n c:Nat) (w:World):(Op.equal t (.slice a n c) (.slice none 0 0)).run P w=.ok a.isNone w:=by
 show (Op.equalIn (9999+1) t (.slice a n c) (.slice none 0 0)).run P w=_
 rw [Op.equalIn]
 simp only [Sem.run_bind,run_underlying' hu,Result.andThen_ok]
 cases a <;> rfl
theorem q_binNil {ti:TI} {op:BinOp} {t:TypeId} {a:Option Addr} (hu:∀ e,ti.kind=.slice e→P.underlying t=some (.slice e)) (h:qBinNil ti.kind op a k) :
  ∃ z,k z none∧scal z=true∧∀ (a':Option Addr) (n c:Nat) w,a'.isNone=a.isNone→(binOp op t (.slice a' n c) (.slice none 0 0)).run P w=.ok z w:=by
 unfold qBinNil at h
 split at h
 ·rename_i e hk
  refine ⟨_,h,rfl,fun a' n c w ha=>?_⟩
  rw [(run_eql (by simp) (by simp) (by simp) (by simp) (by simp) (run_equal_nil (hu _ hk) a' n c w)).1,ha]; rfl
 ·rename_i e b hk
  refine ⟨_,h,rfl,fun a' n c w ha=>?_⟩
  rw [(run_eql (by simp) (by simp) (by simp) (by simp) (by simp) (run_equal_nil (hu _ hk) a' n c w)).1,ha]; rfl
 ·rename_i e hk
  refine ⟨_,h,rfl,fun a' n c w ha=>?_⟩
  rw [(run_eql (by simp) (by simp) (by simp) (by simp) (by simp) (run_equal_nil (hu _ hk) a' n c w)).2,ha]; rfl
 ·rename_i e b hk
  refine ⟨_,h,rfl,fun a' n c w ha=>?_⟩
  rw [(run_eql (by simp) (by simp) (by simp) (by simp) (by simp) (run_equal_nil (hu _ hk) a' n c w)).2,ha]; rfl
 ·exact h.elim
theorem q_bin_core (hT:∀ t ti,tt t=some ti→TIok P t ti) {eqs:List TypeId} (hE:∀ t∈eqs,∀ ti,tt t=some ti→EqTy P t ti.zero) {op:BinOp} {t ty:TypeId} {x y:Operand} (h:qBin tt eqs tmps op t x y k):∃ v,k v none∧∀ ν0,PureV P ν0 (.binOp op t x y ty) tmps v:=by
 obtain ⟨xv,h2,hx⟩:=evalK_all h
 clear h
 obtain ⟨yv,h,hy⟩:=evalK_all h2
 clear h2
 split at h
 ·obtain ⟨z,hk,hs,hr⟩:=q_binInt (P:=P) (t:=t) h
  refine ⟨_,hk,fun ν0=>⟨by simp,fun o ν a w hle ho ha=>⟨_,VRel.scal_self hs,?_⟩⟩⟩
  exact run_bin ho (hx ν a (ha x (by simp [Op.operands]))).to_int (hy ν a (ha y (by simp [Op.operands]))).to_int (guard_int ..) (hr w)
 ·obtain ⟨z,hk,hs,hr⟩:=q_binStr (P:=P) (t:=t) h
  refine ⟨_,hk,fun ν0=>⟨by simp,fun o ν a w hle ho ha=>⟨_,VRel.scal_self hs,?_⟩⟩⟩
  exact run_bin ho (hx ν a (ha x (by simp [Op.operands]))).to_str (hy ν a (ha y (by simp [Op.operands]))).to_str (guard_str ..) (hr w)
 ·obtain ⟨ti,ht,h⟩:=tyK_spec h
  obtain ⟨d,hu,hd⟩:=(hT _ _ ht).under
  obtain ⟨z,hk,hs,hr⟩:=q_binBool (P:=P) (t:=t) (fun hk=>by rw [hk] at hd; have hd:d=.bool:=hd; rw [hu,hd]) h
  refine ⟨_,hk,fun ν0=>⟨by simp,fun o ν a w hle ho ha=>⟨_,VRel.scal_self hs,?_⟩⟩⟩
  exact run_bin ho (hx ν a (ha x (by simp [Op.operands]))).to_bool (hy ν a (ha y (by simp [Op.operands]))).to_bool (guard_bool ..) (hr w)
 ·rename_i xs ys
  obtain ⟨ti,ht,h⟩:=tyK_spec h
  obtain ⟨z,hk,hs,h1,h2,hr⟩:=q_binAgg (xs:=xs.toList) (ys:=ys.toList) (zero:=[]) hE ht h
  refine ⟨_,hk,fun ν0=>⟨by simp,fun o ν a w hle ho ha=>⟨_,VRel.scal_self hs,?_⟩⟩⟩
  obtain ⟨xs',hx1,hx2⟩:=VRel.to_agg (xs:=xs.toList) (hx ν a (ha x (by simp [Op.operands])))
  obtain ⟨ys',hy1,hy2⟩:=VRel.to_agg (xs:=ys.toList) (hy ν a (ha y (by simp [Op.operands])))
  rw [LRel.of_scal h1 hx2] at hx1
  rw [LRel.of_scal h2 hy2] at hy1
  exact run_bin ho hx1 hy1 ((hr w).2 x y) (hr w).1
 ·rename_i b n c
  obtain ⟨ti,ht,h⟩:=tyK_spec h
  obtain ⟨d,hu,hd⟩:=(hT _ _ ht).under
  obtain ⟨z,hk,hs,hr⟩:=q_binNil (P:=P) (t:=t) (fun e hk=>by rw [hk] at hd; have hd:d=.slice e:=hd; rw [hu,hd]) h
  refine ⟨_,hk,fun ν0=>⟨by simp,fun o ν a w hle ho ha=>⟨_,VRel.scal_self hs,?_⟩⟩⟩
  obtain ⟨a1,n1,c1,e1,h1⟩:=(hx ν a (ha x (by simp [Op.operands]))).to_slice'
  have e2:a.eval y=.slice none 0 0:=by
   have h2:=hy ν a (ha y (by simp [Op.operands]))
   generalize a.eval y=z at h2
   cases h2
   rfl
  exact run_bin ho e1 e2 (guard_slice ..) (hr a1 n1 c1 w h1)
 ·exact h.elim
theorem q_bin (hT:∀ t ti,tt t=some ti→TIok P t ti) {eqs:List TypeId} (hE:∀ t∈eqs,∀ ti,tt t=some ti→EqTy P t ti.zero) {op:BinOp} {t ty:TypeId} {x y:Operand} (h:qBin tt eqs tmps op t x y k):QOk P (.binOp op t x y ty) tmps H nid k:=by
 obtain ⟨v,hk,hp⟩:=q_bin_core hT hE (ty:=ty) h
 exact .value (by simp) hk fun o ν a w ho ha hH=>(hp ν).2 o ν a w ν.le_refl ho ha
theorem run_len {P:Program} {t:TypeId} {ty:TypeId} {d:TypeDesc} (hu:P.underlying t=some d) {x:Value} {m:Int} (w:World)
  (h:(∃ s,d=.string∧x=.string s∧m=s.size)∨(∃ e b n c,d=.slice e∧x=.slice b n c∧m=(n:Int))) :
  (Builtin.len_ #[t] ty #[x]).run P w=.ok (.int .i64 m) w:=by
 rcases h with ⟨s,rfl,rfl,rfl⟩ | ⟨e,b,n,c,rfl,rfl,rfl⟩ <;> simp [Builtin.len_,run_underlying' hu,goInt]
theorem q_lenV (hT:∀ t ti,tt t=some ti→TIok P t ti) {c:Call} (hc:c.callee=.builtin .len) {t:TypeId} {x:Operand} (hx:c.args=#[x]) (ht:c.argTypes=#[t]) (h:qLen tmps tt t x k):QVal P (.call c) tmps H k:=by
 obtain ⟨xv,h2,hv⟩:=evalK_all h
 clear h
 obtain ⟨ti,hti,h⟩:=tyK_spec h2
 clear h2
 obtain ⟨d,hu,hd⟩:=(hT _ _ hti).under
 split at h
 ·rename_i s hk
  rw [hk] at hd
  refine .value (by simp) h fun o ν a w ho ha hH=>⟨_,.int _ _,?_⟩
  have hv:=hv ν a (ha x (by simp [Op.operands,Call.operands,hc,hx]))
  have hr:=run_len (P:=P) (ty:=o.type) hu w (.inl ⟨_,hd,hv.to_str,rfl⟩)
  simp [execOp,ho,resolve,hc,hx,ht,invoke,builtin,hr]
 ·rename_i e b m c hk
  rw [hk] at hd
  refine .value (by simp) h fun o ν a w ho ha hH=>⟨_,.int _ _,?_⟩
  obtain ⟨b',c',he⟩:=(hv ν a (ha x (by simp [Op.operands,Call.operands,hc,hx]))).to_sl
  have hr:=run_len (P:=P) (ty:=o.type) hu w (.inr ⟨_,_,_,_,hd,he,rfl⟩)
  simp [execOp,ho,resolve,hc,hx,ht,invoke,builtin,hr]
 ·exact h.elim
theorem q_len (hT:∀ t ti,tt t=some ti→TIok P t ti) {c:Call} (hc:c.callee=.builtin .len) {t:TypeId} {x:Operand} (hx:c.args=#[x]) (ht:c.argTypes=#[t]) (h:qLen tmps tt t x k):QOk P (.call c) tmps H nid k:=(q_lenV hT hc hx ht h).ok
theorem q_max {c:Call} (hc:c.callee=.builtin .max) {x y:Operand} (hx:c.args=#[x,y]) (h:qMax tmps x y k):QOk P (.call c) tmps H nid k:=by
 obtain ⟨xv,h2,h1⟩:=evalK_all h
 clear h
 obtain ⟨yv,h,h2⟩:=evalK_all h2
 split at h
 ·refine .value (by simp) h fun o ν a w ho ha hH=>⟨_,.int _ _,?_⟩
  have h1:=(h1 ν a (ha x (by simp [Op.operands,Call.operands,hc,hx]))).to_int
  have h2:=(h2 ν a (ha y (by simp [Op.operands,Call.operands,hc,hx]))).to_int
  simp [execOp,ho,resolve,hc,hx,invoke,builtin,Builtin.max_,h1,h2,Builtin.max2]
 ·exact h.elim
theorem q_min {c:Call} (hc:c.callee=.builtin .min) {x y:Operand} (hx:c.args=#[x,y]) (h:qMin tmps x y k):QOk P (.call c) tmps H nid k:=by
 obtain ⟨xv,h2,h1⟩:=evalK_all h
 clear h
 obtain ⟨yv,h,h2⟩:=evalK_all h2
 split at h
 ·refine .value (by simp) h fun o ν a w ho ha hH=>⟨_,.int _ _,?_⟩
  have h1:=(h1 ν a (ha x (by simp [Op.operands,Call.operands,hc,hx]))).to_int
  have h2:=(h2 ν a (ha y (by simp [Op.operands,Call.operands,hc,hx]))).to_int
  simp [execOp,ho,resolve,hc,hx,invoke,builtin,Builtin.min_,h1,h2,Builtin.min2]
 ·exact h.elim
/-- A struct laid out of its fields. -/
theorem fill_spec {fs:List (Nat × Nat × Bool)}
  {places:Nat→Option (Nat × Nat)} (hp:∀ (i:Nat) x,fs[i]?=some x→places i=some (x.1,x.2.1)) :
  ∀ {ps:List (Nat × Operand)} {cs:List Value} {k:List Value→Prop},fillK tmps fs ps cs k →
  ∃ ds,k ds∧∀ (ν:Nu) (a:Act),(∀ p∈ps,OpRel ν tmps a p.2)→∀ (cs':List Value),LRel ν cs cs'→∃ ds',LRel ν ds ds'∧Instr.fill places ⟨cs'⟩ (ps.map fun p=>(p.1,a.eval p.2))=some ⟨ds'⟩
 | [],cs,k,h=>⟨cs,h,fun ν a _ cs' hc=>⟨cs',hc,rfl⟩⟩
 | p::ps,cs,k,h=>by
  obtain ⟨v,h2,hv⟩:=evalK_all h
  clear h
  have h:=cellsK_spec h2
  clear h2
  obtain ⟨x,hx,h2⟩:=fieldK_spec h
  clear h
  split at h2
  ·rename_i hok
   obtain ⟨hl,h1⟩:=okCells_spec hok
   obtain ⟨cs2,h3,hl2,hle,hin,hout⟩:=putK_spec h2
   obtain ⟨ds,k1,k0⟩:=fill_spec hp h3
   refine ⟨ds,k1,fun ν a ha cs' hc=>?_⟩
   have hvc:=(hv ν a (ha p (by simp))).cells
   -- the same cells written over in the real struct
   have hfold:∀ (us:List Value) (o:Nat) (acc:List Value) (m:Nat),((us.zipIdx m).foldl (fun cs (c,j)=>cs.setIfInBounds (o+j) c) (⟨acc⟩:Array Value)).size=acc.length ∧
     ∀ j,((us.zipIdx m).foldl (fun cs (c,j)=>cs.setIfInBounds (o+j) c) (⟨acc⟩:Array Value))[j]?=if j < acc.length∧o+m≤j∧j < o+m+us.length then us[j - (o+m)]? else acc[j]?:=by
    intro us
    induction us with
    | nil =>
     intro o acc m
     refine ⟨by simp,fun j=>?_⟩
     simp
     intros
     omega
    | cons u us ih =>
     intro o acc m
     simp only [List.zipIdx_cons,List.foldl_cons]
     have e:(⟨acc⟩:Array Value).setIfInBounds (o+m) u=⟨acc.set (o+m) u⟩:=by apply Array.ext'; simp
     rw [e]
     obtain ⟨i1,i2⟩:=ih o (acc.set (o+m) u) (m+1)
     refine ⟨by rw [i1]; simp,fun j=>?_⟩
     rw [i2 j]
     simp only [List.length_set,List.length_cons]
     by_cases hj:j < acc.length
     ·by_cases h1:o+(m+1)≤j∧j < o+(m+1)+us.length
      ·rw [if_pos ⟨hj,h1⟩,if_pos ⟨hj,by omega,by omega⟩]
       rw [show j - (o+m)=(j - (o+(m+1)))+1 by omega]; simp
      ·rw [if_neg (by omega)]
       by_cases h2:j=o+m
       ·subst h2
        rw [if_pos ⟨hj,by omega,by omega⟩]
        simp [List.getElem?_set,hj]
       ·rw [if_neg (by omega),List.getElem?_set_ne (by omega)]
     ·rw [if_neg (by omega),if_neg (by omega)]
      rw [List.getElem?_eq_none (by simp; omega),List.getElem?_eq_none (by omega)]
   obtain ⟨f1,f2⟩:=hfold (a.eval p.2).cells.toList x.1 cs' 0
   generalize hgen:(((a.eval p.2).cells.toList.zipIdx 0).foldl (fun cs (c,j)=>cs.setIfInBounds (x.1+j) c) (⟨cs'⟩:Array Value))=G at f1 f2
   have hrel:LRel ν cs2 G.toList:=by
    refine ⟨by rw [hl2,hc.1]; simpa using f1.symm,fun j y z hy hz=>?_⟩
    rw [Array.getElem?_toList,f2 j] at hz
    split at hz
    ·rename_i hj
     have hlt:j - (x.1+0) < v.cells.toList.length:=by rw [hvc.1]; omega
     have:=hin (j - (x.1+0)) _ (List.getElem?_eq_getElem hlt)
     rw [show x.1+(j - (x.1+0))=j by omega] at this
     rw [this] at hy; cases hy
     exact hvc.2 _ _ _ (List.getElem?_eq_getElem hlt) hz
    ·rename_i hj
     have hout':=hout j (by
      have hjl:j < cs'.length:=(List.getElem?_eq_some_iff.1 hz).1
      have:=hvc.1
      omega)
     rw [hout'] at hy
     exact hc.2 _ _ _ hy hz
   obtain ⟨ds',k2,k3⟩:=k0 ν a (fun q hq=>ha q (by simp [hq])) _ hrel
   refine ⟨ds',k2,?_⟩
   have hsize:(a.eval p.2).cells.size=x.2.1:=by rw [← Array.length_toList,← hvc.1,hl]
   simp only [List.map_cons,Instr.fill,hp p.1 x hx]
   rw [if_neg]
   ·have:(((a.eval p.2).cells.zipIdx).foldl (fun cs (c,j)=>cs.setIfInBounds (x.1+j) c) (⟨cs'⟩:Array Value))=⟨G.toList⟩:=by
     rw [← hgen,← Array.foldl_toList]
     simp
    rw [this]
    exact k3
   ·have:((⟨cs'⟩:Array Value).size)=cs.length:=by simp [hc.1]
    simp only [hsize,this]
    simp
    omega
  ·exact h2.elim
theorem arrFs_get {sz:Nat}:∀ {n off i:Nat} {x:Nat × Nat × Bool},(arrFs sz off n)[i]?=some x→x.1=off+i*sz∧x.2.1=sz
 | 0,off,i,x,h=>by simp [arrFs] at h
 | n+1,off,0,x,h=>by simp [arrFs] at h; subst h; simp
 | n+1,off,i+1,x,h=>by
  obtain ⟨h1,h2⟩:=arrFs_get (n:=n) (off:=off+sz) (i:=i) (by simpa [arrFs] using h)
  exact ⟨by rw [h1,Nat.succ_mul]; omega,h2⟩
theorem q_build (hT:∀ t ti,tt t=some ti→TIok P t ti) {t:TypeId} {ps:Array (Nat × Operand)} (h:qBuild tt tmps t ps.toList k):QOk P (.build t ps) tmps H nid k:=by
 obtain ⟨ti,ht,h2⟩:=tyK_spec h
 clear h
 have hok:=hT _ _ ht
 obtain ⟨d,hu,hd⟩:=hok.under
 obtain ⟨i,hi,_,_,z,hz,hzc⟩:=hok.info
 split at h2
 ·rename_i fs hk
  rw [hk] at hd
  obtain ⟨fields,rfl,hsz,hf⟩:=hd
  -- the places that the model reckons
  have hmap:∀ (w:World) (l:List Field) (m:List (Nat × Nat × Bool)),l.length=m.length→(∀ (i:Nat) f x,l[i]?=some f→m[i]?=some x→FieldOk P f x) →
    (l.mapM (m:=Sem) fun f=>do pure (f.offset,← sizeOf f.type)).run P w=.ok (m.map fun x=>(x.1,x.2.1)) w:=by
   intro w l
   induction l with
   | nil=>intro m hl _; cases m with
    | nil=>rfl
    | cons=>simp at hl
   | cons f l ih =>
    intro m hl hf
    cases m with
    | nil=>simp at hl
    | cons x m =>
     obtain ⟨h1,h2,⟨i,h3,h4⟩,_⟩:=hf 0 f x rfl rfl
     have ih:=ih m (by simpa using hl) (fun i f' x' h h'=>hf (i+1) f' x' (by simpa using h) (by simpa using h'))
     simp only [List.mapM_cons,Sem.run_bind,run_sizeOf' h3,Result.andThen_ok,Sem.run_pure,ih,List.map_cons,h1,h4]
  obtain ⟨ds,k1,k0⟩:=fill_spec (places:=((fs.map fun x=>(x.1,x.2.1)).toArray[·]?)) (fun i x hx=>by simp [hx]) h2
  refine .value (by simp) k1 fun o ν a w ho ha hH=>?_
  have hm:=hmap w fields.toList fs (by simpa using hsz) (fun i f x h h'=>hf i f x (by simpa using h) h')
  obtain ⟨ds',k2,k3⟩:=k0 ν a (fun p hp=>ha p.2 (by simp [Op.operands]; exact ⟨p.1,by simpa using hp⟩)) _ (hok.self ν)
  refine ⟨.agg ⟨ds'⟩,.agg _ _ k2.1 k2.2,?_⟩
  simp only [execOp,ho,Instr.build,Sem.run_bind,run_zeroValue' hi hz,Result.andThen_ok,run_underlying' hu,hzc]
  have hm':(fields.mapM (m:=Sem) fun f=>do pure (f.offset,← sizeOf f.type)).run P w=.ok (fs.map fun x=>(x.1,x.2.1)).toArray w:=by
   rw [Array.mapM_eq_mapM_toList]
   simp only [Sem.run_map,hm,Result.andThen_ok]
  simp only [hm',Sem.run_bind,Result.andThen_ok]
  have e:(ps.map fun x=>(x.1,a.eval x.2)).toList=ps.toList.map fun p=>(p.1,a.eval p.2):=by simp
  have e2:(ps.map fun (x:Nat × Operand)=>match x with | (i,x)=>(i,a.eval x))=(ps.map fun x=>(x.1,a.eval x.2)):=rfl
  rw [e2,e,k3]
  rfl
 ·rename_i n e hk
  rw [hk] at hd
  have hd:d=.array n e:=hd
  subst hd
  obtain ⟨te,he,h⟩:=tyK_spec h2
  obtain ⟨ei,hei,hes,_⟩:=(hT _ _ he).info
  obtain ⟨ds,k1,k0⟩:=fill_spec (places:=fun i=>some (i*ei.size,ei.size)) (fun i x hx=>by
   obtain ⟨h1,h2⟩:=arrFs_get hx
   rw [h1,h2,hes,Nat.zero_add]) h
  refine .value (by simp) k1 fun o ν a w ho ha hH=>?_
  obtain ⟨ds',k2,k3⟩:=k0 ν a (fun p hp=>ha p.2 (by simp [Op.operands]; exact ⟨p.1,by simpa using hp⟩)) _ (hok.self ν)
  refine ⟨.agg ⟨ds'⟩,.agg _ _ k2.1 k2.2,?_⟩
  simp only [execOp,ho,Instr.build,Sem.run_bind,run_zeroValue' hi hz,Result.andThen_ok,run_underlying' hu,hzc,run_sizeOf' hei]
  have e:(ps.map fun x=>(x.1,a.eval x.2)).toList=ps.toList.map fun p=>(p.1,a.eval p.2):=by simp
  have e2:(ps.map fun (x:Nat × Operand)=>match x with | (i,x)=>(i,a.eval x))=(ps.map fun x=>(x.1,a.eval x.2)):=rfl
  rw [e2,e,k3]
  rfl
 ·exact h2.elim
end
end Go.Ae
/- The abstract operations stand for the model's: slices that are made, literals of slices, strings and bytes. -/
namespace Go.Ae
open Go Go.RowKit
section
variable {P:Program} {tt:TT} {w:World} {ν:Nu} {nid:Nat} {k:QK} {tmps:List Value} {H:Heap}
theorem madeCells_get (z:Array Value) (n j:Nat) (h:j < n) (hz:0 < z.size):(madeCells z n)[j]?=z[j % z.size]?:=by
 unfold madeCells
 rw [Array.getElem?_map,Array.getElem?_range,if_pos h]
 simp only [Option.map_some]
 have:j % z.size < z.size:=Nat.mod_lt _ hz
 rw [Array.getElem?_eq_getElem this]
 simp [this]
theorem row_col (r e j:Nat) (h:j < e):(r*e+j) % e=j:=by
 rw [Nat.add_comm,Nat.add_mul_mod_self_right,Nat.mod_eq_of_lt h]
theorem q_makeSlice (hT:∀ t ti,tt t=some ti→TIok P t ti) {t:TypeId} {x y:Operand} (h:qMakeSlice tt tmps t x y nid k):QOk P (.makeSlice t x y) tmps H nid k:=by
 obtain ⟨xv,h2,hx⟩:=evalK_all h
 clear h
 obtain ⟨yv,h,hy⟩:=evalK_all h2
 clear h2
 obtain ⟨ti,ht,h2⟩:=tyK_spec h
 clear h
 obtain ⟨d,hu,hd⟩:=(hT _ _ ht).under
 split at h2
 ·rename_i e hk
  rw [hk] at hd
  have hd:d=.slice e:=hd
  subst hd
  obtain ⟨te,he,h⟩:=tyK_spec h2
  clear h2
  have hok:=hT _ _ he
  obtain ⟨i,hi,his,hib,z,hz,hzc⟩:=hok.info
  split at h
  ·rename_i q n q' m hall
   obtain ⟨⟨b0,b1,b2⟩,h⟩:=h
   refine ⟨_,_,h,fun o ν a w r nn ho ha hH hn next Q hN=>?_⟩
   have hx:=(hx ν a (ha x (by simp [Op.operands]))).to_int
   have hy:=(hy ν a (ha y (by simp [Op.operands]))).to_int
   have hpos:=hok.bit
   have hm1:m≤m*te.bytes:=by
    have:m*1≤m*(te.bytes:Int):=Int.mul_le_mul_of_nonneg_left (by omega) (by omega)
    omega
   have hrun:=run_make (P:=P) w t e i z hu hi hz q q' n m b0 b1 (by rw [hib,Int.mul_comm]; omega) (by omega)
   refine wpIn_of_run (w':=w.alloc (.cells (madeCells z.cells (m.toNat*i.size)) e)) (v':=.slice (some ⟨w.heap.size,0,none⟩) n.toNat m.toNat) (by simp [ho]) (by simp [execOp,ho,hx,hy,hrun]) next Q
    (hN _ _ (ν.add nid ⟨w.heap.size,0,te.size,m.toNat⟩) (qpost_new hn ?_ (below_push _ _) (Nat.le_refl _) ?_))
   ·have hnew:(w.alloc (.cells (madeCells z.cells (m.toNat*i.size)) e)).heap[w.heap.size]?=some (.cells (madeCells z.cells (m.toNat*i.size)) e (0,0)):=by show (w.heap.push _)[w.heap.size]?=_; simp
    have hzl:z.cells.size=te.size:=by rw [hzc]; simpa using hok.len
    refine ⟨rfl,fun r hr=>hok.len,fun r hr j v hv=>⟨v,?_,VRel.scal_self (allS_spec hall v (List.mem_of_getElem? hv))⟩,fun _ r hr v hv=>allS_spec hall v hv,fun r hr v hv=>hok.one v hv,fun _ _=>⟨_,_,hnew,?_,?_⟩,(fun r h=>nomatch h),?_⟩
    ·have hr:r < n.toNat:=hr
     have hv:te.zero[j]?=some v:=hv
     have hj:j < te.size:=by rw [← hok.len]; exact (List.getElem?_eq_some_iff.1 hv).1
     simp only [Loc.at,World.cell?,Nat.zero_add]
     rw [hnew]
     have hlt:r*te.size+j < m.toNat*i.size:=by
      rw [his]
      have:(r+1)*te.size≤m.toNat*te.size:=Nat.mul_le_mul_right _ (by omega)
      rw [Nat.add_mul] at this; omega
     simp only [Option.isSome_none,Bool.false_eq_true,if_false]
     rw [madeCells_get _ _ _ hlt (by omega),hzl,row_col _ _ _ hj,hzc]
     simpa using hv
    ·simp [size_madeCells,his]
    ·simp only [Blk.n]; omega
    ·show w.heap.size < (w.alloc _).heap.size
     simp
   ·have:=VRel.slice (ν:=ν.add nid ⟨w.heap.size,0,te.size,m.toNat⟩) nid 0 n.toNat m.toNat m.toNat _ Nu.add_same (.inl rfl) (by omega) (by simp)
    simpa [Loc.at] using this
  ·exact h.elim
 ·exact h2.elim
theorem repK_spec:∀ {n:Nat} {r:List Value} {k:List (List Value)→Prop},repK n r k→k (List.replicate n r)
 | 0,_,_,h=>h
 | n+1,r,k,h=>by have:=repK_spec (n:=n) h; simpa [List.replicate_succ] using this
theorem setRow_spec:∀ {rs:List (List Value)} {n:Nat} {r:List Value} {k:List (List Value)→Prop},setRow rs n r k→n < rs.length∧k (rs.set n r)
 | [],_,_,_,h=>h.elim
 | _::rs,0,_,_,h=>⟨by simp,h⟩
 | q::rs,n+1,r,k,h=>by obtain ⟨h1,h2⟩:=setRow_spec (rs:=rs) h; exact ⟨by simpa using h1,by simpa using h2⟩
/-- Rows of a literal, and the model's cells for them. -/
def RowsRel (ν:Nu) (sz:Nat) (rows:List (List Value)) (C:Array Value):Prop :=
 C.size=rows.length*sz∧(∀ row∈rows,row.length=sz)∧∀ r j row v,rows[r]?=some row→row[j]?=some v→∃ v',C[r*sz+j]?=some v'∧VRel ν v v'
theorem rowsOf_spec {sz n:Nat}:∀ {ps:List (Nat × Operand)} {rows:List (List Value)} {k:List (List Value)→Prop},rowsOf tmps sz ps rows k→rows.length=n →
  ∃ rows',k rows'∧rows'.length=n∧((∀ row∈rows,∀ v∈row,v.oneCell'=true)→∀ row∈rows',∀ v∈row,v.oneCell'=true) ∧
   ∀ (ν:Nu) (a:Act),(∀ p∈ps,OpRel ν tmps a p.2)→∀ C,RowsRel ν sz rows C→∃ C',RowsRel ν sz rows' C'∧Instr.fill (fun i=>some (i*sz,sz)) C (ps.map fun p=>(p.1,a.eval p.2))=some C'
 | [],rows,k,h,hl=>⟨rows,h,hl,fun h=>h,fun ν a _ C hC=>⟨C,hC,rfl⟩⟩
 | p::ps,rows,k,h,hl=>by
  obtain ⟨v,h2,hv⟩:=evalK_all h
  clear h
  have h:=cellsK_spec h2
  clear h2
  split at h
  ·rename_i hok
   obtain ⟨hlen,hone⟩:=okCells_spec hok
   obtain ⟨hlt,h2⟩:=setRow_spec h
   obtain ⟨rows',k1,k2,k3,k4⟩:=rowsOf_spec (n:=n) (ps:=ps) h2 (by rw [List.length_set]; exact hl)
   refine ⟨rows',k1,k2,fun h0=>k3 (fun row hrow u hu=>?_),fun ν a ha C hC=>?_⟩
   ·rcases List.mem_or_eq_of_mem_set hrow with h | h
    ·exact h0 row h u hu
    ·rw [h] at hu; exact hone u hu
   ·obtain ⟨c1,c2,c3⟩:=hC
    have hvc:=(hv ν a (ha p (by simp))).cells
    have hsize:(a.eval p.2).cells.size=sz:=by rw [← Array.length_toList,← hvc.1,hlen]
    have hfold:∀ (us:List Value) (o:Nat) (acc:Array Value) (m:Nat),((us.zipIdx m).foldl (fun cs (c,j)=>cs.setIfInBounds (o+j) c) acc).size=acc.size ∧
      ∀ j,((us.zipIdx m).foldl (fun cs (c,j)=>cs.setIfInBounds (o+j) c) acc)[j]?=if j < acc.size∧o+m≤j∧j < o+m+us.length then us[j - (o+m)]? else acc[j]?:=by
     intro us
     induction us with
     | nil =>
      intro o acc m
      refine ⟨by simp,fun j=>?_⟩
      simp
      intros
      omega
     | cons u us ih =>
      intro o acc m
      simp only [List.zipIdx_cons,List.foldl_cons]
      obtain ⟨i1,i2⟩:=ih o (acc.setIfInBounds (o+m) u) (m+1)
      refine ⟨by rw [i1]; simp,fun j=>?_⟩
      rw [i2 j]
      simp only [Array.size_setIfInBounds,List.length_cons]
      by_cases hj:j < acc.size
      ·by_cases h1:o+(m+1)≤j∧j < o+(m+1)+us.length
       ·rw [if_pos ⟨hj,h1⟩,if_pos ⟨hj,by omega,by omega⟩]
        rw [show j - (o+m)=(j - (o+(m+1)))+1 by omega]; simp
       ·rw [if_neg (by omega)]
        by_cases h2:j=o+m
        ·subst h2
         rw [if_pos ⟨hj,by omega,by omega⟩]
         simp [hj]
        ·rw [if_neg (by omega),Array.getElem?_setIfInBounds_ne (by omega)]
      ·rw [if_neg (by omega),if_neg (by omega)]
       rw [Array.getElem?_eq_none (by simp; omega),Array.getElem?_eq_none (by omega)]
    obtain ⟨f1,f2⟩:=hfold (a.eval p.2).cells.toList (p.1*sz) C 0
    have hcl:(a.eval p.2).cells.toList.length=sz:=by simpa using hsize
    have hbound:(p.1+1)*sz≤rows.length*sz:=Nat.mul_le_mul_right _ hlt
    rw [Nat.add_mul] at hbound
    have hgen:(((a.eval p.2).cells.toList.zipIdx 0).foldl (fun cs (c,j)=>cs.setIfInBounds (p.1*sz+j) c) C)=((a.eval p.2).cells.zipIdx.foldl (fun cs (c,j)=>cs.setIfInBounds (p.1*sz+j) c) C):=by
     rw [← Array.foldl_toList]; simp
    have hrel:RowsRel ν sz (rows.set p.1 v.cells.toList) ((a.eval p.2).cells.zipIdx.foldl (fun cs (c,j)=>cs.setIfInBounds (p.1*sz+j) c) C):=by
     rw [← hgen]
     refine ⟨by rw [f1,c1,List.length_set],fun row hrow=>?_,fun r j row u hr hj=>?_⟩
     ·rcases List.mem_or_eq_of_mem_set hrow with h | h
      ·exact c2 row h
      ·rw [h]; exact hlen
     ·rw [f2]
      have hjlt:j < sz:=by
       have hmem:=List.mem_of_getElem? hr
       have:row.length=sz:=by
        rcases List.mem_or_eq_of_mem_set hmem with h | h
        ·exact c2 row h
        ·rw [h]; exact hlen
       rw [← this]; exact (List.getElem?_eq_some_iff.1 hj).1
      by_cases e:r=p.1
      ·subst e
       rw [List.getElem?_set_self hlt] at hr
       cases hr
       rw [if_pos ⟨by omega,by omega,by omega⟩]
       rw [show p.1*sz+j - (p.1*sz+0)=j by omega]
       exact hvc.get hj
      ·rw [List.getElem?_set_ne (Ne.symm e)] at hr
       have hne:¬ (p.1*sz+0≤r*sz+j∧r*sz+j < p.1*sz+0+(a.eval p.2).cells.toList.length):=by
        rw [hcl]
        rcases Nat.lt_or_ge r p.1 with h | h
        ·have:(r+1)*sz≤p.1*sz:=Nat.mul_le_mul_right _ h
         rw [Nat.add_mul] at this; omega
        ·have:(p.1+1)*sz≤r*sz:=Nat.mul_le_mul_right _ (by omega)
         rw [Nat.add_mul] at this; omega
       rw [if_neg (fun h=>hne h.2)]
       exact c3 r j row u hr hj
    obtain ⟨C',q1,q2⟩:=k4 ν a (fun q hq=>ha q (by simp [hq])) _ hrel
    refine ⟨C',q1,?_⟩
    simp only [List.map_cons,Instr.fill]
    rw [if_neg]
    ·exact q2
    ·simp only [hsize]
     simp
     omega
  ·exact h.elim
theorem litBlk_spec {esz:Nat} {rows:List (List Value)} {k:Blk→Prop} (h:litBlk esz rows k):∃ b,k b∧∀ (ν:Nu) (l:Loc) (w:World),BRel ν l (.expl true esz rows) w→BRel ν l b w:=by
 unfold litBlk at h
 split at h
 ·refine ⟨_,h,fun ν l w hB=>⟨hB.esz,fun r hr=>absurd hr (Nat.not_lt_zero r),fun r hr=>absurd hr (Nat.not_lt_zero r),fun _ r hr=>absurd hr (Nat.not_lt_zero r),fun r hr=>absurd hr (Nat.not_lt_zero r),fun _ _=>?_,(fun r h=>nomatch h),hB.live⟩⟩
  obtain ⟨cur,t,h1,h2,_⟩:=hB.own rfl rfl
  exact ⟨cur,t,h1,h2,Nat.zero_le _⟩
 ·exact ⟨_,h,fun ν l w hB=>hB⟩
theorem q_buildSlice (hT:∀ t ti,tt t=some ti→TIok P t ti) {t:TypeId} {n:Nat} {ps:Array (Nat × Operand)} (h:qBuildSlice tt tmps t n ps.toList nid k):QOk P (.buildSlice t n ps) tmps H nid k:=by
 obtain ⟨ti,ht,h2⟩:=tyK_spec h
 clear h
 obtain ⟨d,hu,hd⟩:=(hT _ _ ht).under
 split at h2
 ·rename_i e hk
  rw [hk] at hd
  have hd:d=.slice e:=hd
  subst hd
  obtain ⟨te,he,h⟩:=tyK_spec h2
  clear h2
  have hok:=hT _ _ he
  obtain ⟨i,hi,his,hib,z,hz,hzc⟩:=hok.info
  split at h
  ·rename_i hble
   have hble:=Nat.le_of_ble_eq_true hble
   have h:=repK_spec h
   obtain ⟨rows,k1,k2,k3,k4⟩:=rowsOf_spec (n:=n) h (by simp)
   obtain ⟨b,k1,kb⟩:=litBlk_spec k1
   refine ⟨_,_,k1,fun o ν a w r nn ho ha hH hn next Q hN=>?_⟩
   have hzl:z.cells.size=te.size:=by rw [hzc]; simpa using hok.len
   -- the zero rows
   have hC0:RowsRel ν te.size (List.replicate n te.zero) (madeCells z.cells (n*te.size)):=by
    refine ⟨by simp [size_madeCells],fun row hrow=>by rw [(List.mem_replicate.1 hrow).2]; exact hok.len,fun r j row v hr hj=>?_⟩
    have hrow:=(List.mem_replicate.1 (List.mem_of_getElem? hr)).2
    subst hrow
    have hrlt:r < n:=by have:=(List.getElem?_eq_some_iff.1 hr).1; simpa using this
    have hj':j < te.size:=by rw [← hok.len]; exact (List.getElem?_eq_some_iff.1 hj).1
    have hlt:r*te.size+j < n*te.size:=by
     have:(r+1)*te.size≤n*te.size:=Nat.mul_le_mul_right _ hrlt
     rw [Nat.add_mul] at this; omega
    obtain ⟨v',h1,h2⟩:=(hok.self ν).get hj
    rw [hj] at h1; cases h1
    exact ⟨v,by rw [madeCells_get _ _ _ hlt (by have:=hok.bit.1; omega),hzl,row_col _ _ _ hj',hzc]; simpa using hj,h2⟩
   obtain ⟨C',q1,q2⟩:=k4 ν a (fun p hp=>ha p.2 (by simp [Op.operands]; exact ⟨p.1,by simpa using hp⟩)) _ hC0
   have hrun:(execOp a.eval o).run P w=.ok (.value (.slice (some ⟨w.heap.size,0,none⟩) n n)) { w with heap:=w.heap.push (.cells C' e) }:=by
    have e1:(ps.map fun (x:Nat × Operand)=>match x with | (i,x)=>(i,a.eval x))=(ps.map fun x=>(x.1,a.eval x.2)):=rfl
    have e2:(ps.map fun x=>(x.1,a.eval x.2)).toList=ps.toList.map fun p=>(p.1,a.eval p.2):=by simp
    have hgt:¬ (n*te.size > 2 ^ 24):=by omega
    have q2':Instr.fill (fun i=>some (i*te.size,te.size)) ((Array.range (n*te.size)).map (z.cells[· % z.cells.size]!)) (ps.map fun x=>(x.1,a.eval x.2)).toList=some C':=by rw [e2]; exact q2
    simp only [execOp,ho,Instr.buildSlice,Sem.run_bind,run_underlying' hu,Result.andThen_ok,run_sizeOf' hi,his,e1]
    rw [if_neg hgt]
    by_cases h0:n*te.size=0
    ·have e0:(Array.range (n*te.size)).map (z.cells[· % z.cells.size]!)=(Array.range (n*te.size)).map ((#[]:Array Value)[· % (#[]:Array Value).size]!):=by rw [h0]; simp
     rw [e0] at q2'
     simp only [Sem.run_bind,Sem.run_ite,h0,if_true,Sem.run_pure,Result.andThen_ok,newRow,run_newObj]
     rw [h0] at q2'
     simp only [q2',Sem.run_bind,Sem.run_pure,Result.andThen_ok,newRow,run_newObj]
    ·simp only [Sem.run_bind,Sem.run_ite,h0,if_false,Sem.run_pure,run_zeroValue' hi hz,Result.andThen_ok]
     simp only [q2',Sem.run_bind,Sem.run_pure,Result.andThen_ok,newRow,run_newObj]
   have hnew:({ w with heap:=w.heap.push (.cells C' e) }:World).heap[w.heap.size]?=some (.cells C' e (0,0)):=by simp
   obtain ⟨c1,c2,c3⟩:=q1
   refine wpIn_of_run (by simp [ho]) hrun next Q (hN _ _ (ν.add nid ⟨w.heap.size,0,te.size,n⟩) (qpost_new hn ?_ (below_push _ _) (Nat.le_refl _) ?_))
   ·refine kb _ _ _ ⟨rfl,fun r hr=>?_,fun r hr j v hv=>?_,fun h=>by simp [Blk.isFlat] at h,fun r hr v hv=>?_,fun _ _=>⟨_,_,hnew,?_,?_⟩,(fun r h=>nomatch h),by simp⟩
    ·have hr:r < rows.length:=hr
     simp only [Blk.row,List.getD,List.getElem?_eq_getElem hr,Option.getD_some]
     exact c2 _ (List.getElem_mem _)
    ·have hr:r < rows.length:=hr
     simp only [Blk.row,List.getD,List.getElem?_eq_getElem hr,Option.getD_some] at hv
     obtain ⟨v',h1,h2⟩:=c3 r j _ v (List.getElem?_eq_getElem hr) hv
     refine ⟨v',?_,h2.mono (Nu.le_add hn)⟩
     simp only [Loc.at,World.cell?,Nat.zero_add]
     rw [hnew]
     simpa using h1
    ·have hr:r < rows.length:=hr
     simp only [Blk.row,List.getD,List.getElem?_eq_getElem hr,Option.getD_some] at hv
     exact k3 (fun row hrow u hu=>by rw [(List.mem_replicate.1 hrow).2] at hu; exact hok.one u hu) _ (List.getElem_mem _) v hv
    ·simp [c1,k2]
    ·simp [Blk.n,k2]
   ·have:=VRel.slice (ν:=ν.add nid ⟨w.heap.size,0,te.size,n⟩) nid 0 n n n _ Nu.add_same (.inl rfl) (Nat.le_refl _) (by simp)
    simpa [Loc.at] using this
  ·exact h.elim
 ·exact h2.elim
end
end Go.Ae
/- The abstract operations stand for the model's: conversions; calls by contract. -/
namespace Go.Ae
open Go Go.RowKit
section
variable {P:Program} {tt:TT} {w:World} {ν:Nu} {nid:Nat} {k:QK} {tmps:List Value} {H:Heap}
theorem foldl_push (ns:List Int):∀ r:ByteArray,ns.foldl (fun r n=>r.push (UInt8.ofNat n.toNat)) r=⟨r.data++(ns.map fun n=>UInt8.ofNat n.toNat).toArray⟩:=by
 induction ns with
 | nil=>intro r; simp
 | cons n ns ih=>intro r; rw [List.foldl_cons,ih]; simp [ByteArray.push]
theorem run_bytes0 {a:Addr} {c:Nat} (w:World):(Conv.bytesToString (.slice (some a) 0 c)).run P w=.ok (.string ⟨#[]⟩) w:=by
 rw [run_bytesToString w a 0 c [] (by simpa using run_loadCells_list (P:=P) w a [] (fun j v h=>by simp at h))]
 rfl
theorem q_convert (hT:∀ t ti,tt t=some ti→TIok P t ti) {s d:TypeId} {x:Operand} (h:qConvert tt tmps H s d x nid k):QOk P (.convert s d x) tmps H nid k:=by
 obtain ⟨xv,h2,hx⟩:=evalK_all h
 clear h
 obtain ⟨ts,hs,h⟩:=tyK_spec h2
 clear h2
 obtain ⟨td,hd,h2⟩:=tyK_spec h
 clear h
 have h:=h2
 clear h2
 obtain ⟨ds,hus,hds⟩:=(hT _ _ hs).under
 obtain ⟨dd,hud,hdd⟩:=(hT _ _ hd).under
 split at h
 ·rename_i q q' m hk
  rw [hk] at hdd
  have hdd:dd=.int q:=hdd
  subst hdd
  split at h
  ·rename_i qs hks
   rw [hks] at hds
   have hds:ds=.int qs:=hds
   subst hds
   refine .value (by simp) h fun o ν a w ho ha hH=>⟨_,.int _ _,?_⟩
   have hx:=(hx ν a (ha x (by simp [Op.operands]))).to_int
   simp [execOp,ho,hx,convert,run_underlying' hus,run_underlying' hud,Conv.intToInt]
  ·exact h.elim
 ·rename_i s hk
  rw [hk] at hdd
  have hdd:dd=.string:=hdd
  subst hdd
  split at h
  ·rename_i hks
   rw [hks] at hds
   have hds:ds=.string:=hds
   subst hds
   refine .value (by simp) h fun o ν a w ho ha hH=>⟨_,.str _,?_⟩
   have hx:=(hx ν a (ha x (by simp [Op.operands]))).to_str
   simp [execOp,ho,hx,convert,run_underlying' hus,run_underlying' hud]
  ·exact h.elim
 ·rename_i id row n c hk
  rw [hk] at hdd
  have hdd:dd=.string:=hdd
  subst hdd
  split at h
  ·rename_i e hks
   rw [hks] at hds
   have hds:ds=.slice e:=hds
   subst hds
   obtain ⟨te,he,h2⟩:=tyK_spec h
   clear h
   obtain ⟨de,hue,hde⟩:=(hT _ _ he).under
   split at h2
   ·rename_i hke
    rw [hke] at hde
    have hde:de=.int .u8:=hde
    subst hde
    have conv0:∀ (o:Oper) (ν:Nu) (a:Act) (w:World),o.op=.convert s d x→(∀ x'∈(Op.convert s d x).operands,OpRel ν tmps a x')→∃ ad c',a.eval x=.slice (some ad) n c'∧(0 < n→∃ l,ν id=some l∧ad=l.at row 0):=by
     intro o ν a w ho ha
     rcases (hx ν a (ha x (by simp [Op.operands]))).to_slice with ⟨l,c',hl,hc,hn,hr,hxe⟩ | ⟨hn,hc,bb,hxe⟩
     ·exact ⟨_,_,hxe,fun _=>⟨l,hl,rfl⟩⟩
     ·subst hn
      exact ⟨_,_,hxe,fun h=>absurd h (by omega)⟩
    split at h2
    ·refine .value (by simp) h2 fun o ν a w ho ha hH=>⟨_,.str _,?_⟩
     obtain ⟨ad,c',hxe,_⟩:=conv0 o ν a w ho ha
     have:=run_convert_bytes_string (P:=P) w s d e (some ad) 0 c' hus hue hud
     simp [execOp,ho,hxe,this,run_bytes0]
    ·rename_i m
     obtain ⟨b,hb,h⟩:=blkK_spec h2
     clear h2
     split at h
     ·rename_i hesz
      obtain ⟨⟨hle,hrows⟩,h⟩:=h
      refine .value (by simp) h fun o ν a w ho ha hH=>⟨_,.str _,?_⟩
      obtain ⟨ad,c',hxe,hl⟩:=conv0 o ν a w ho ha
      obtain ⟨l,hl0,rfl⟩:=hl (by omega)
      clear hl
      obtain ⟨l',hl',hB⟩:=hH.blk id b hb
      rw [hl0] at hl'; cases hl'
      have hc:=run_convert_bytes_string (P:=P) w s d e (some (l.at row 0)) (m+1) c' hus hue hud
      let ns:List Int:=(List.range (m+1)).map fun r=>match b.row (row+r) with | .int _ x::_=>x | _=>0
      have hcells:(loadCells (l.at row 0) (m+1)).run P w=.ok (ns.map (Value.int .u8)).toArray w:=by
       have:=run_loadCells_list (P:=P) w (l.at row 0) (ns.map (Value.int .u8)) (fun j v hj=>by
        have hj':j < m+1:=by
         have:=(List.getElem?_eq_some_iff.1 hj).1
         simpa [ns] using this
        obtain ⟨y,hy⟩:=hrows j hj'
        obtain ⟨v',h1,h2⟩:=hB.cell (row+j) (by omega) 0 (.int .u8 y) (by rw [hy]; rfl)
        have h2:=h2.to_int
        subst h2
        have hv:v=.int .u8 y:=by
         simp only [ns,List.map_map,List.getElem?_map,List.getElem?_range hj',Option.map_some,Function.comp,hy] at hj
         exact (Option.some.inj hj).symm
        rw [Loc.at_add,hv,← h1]
        simp only [Loc.at,hB.esz,hesz]
        congr 2
        omega)
       simpa [ns] using this
      have hrun:=run_bytesToString (P:=P) w (l.at row 0) (m+1) c' ns hcells
      rw [foldl_push] at hrun
      have e:(⟨ByteArray.empty.data++(ns.map fun n=>UInt8.ofNat n.toNat).toArray⟩:ByteArray)=⟨⟨bytesOf b.row row (m+1)⟩⟩:=by
       have e0:ByteArray.empty.data=#[]:=rfl
       rw [e0]
       congr 1
       simp only [Array.empty_append,bytesOf,ns,List.map_map]
       congr 1
       apply List.map_congr_left
       intro r hr
       obtain ⟨y,hy⟩:=hrows r (List.mem_range.1 hr)
       simp [hy]
      rw [e] at hrun
      simp [execOp,ho,hxe,hc,hrun]
     ·exact h.elim
   ·exact h2.elim
  ·exact h.elim
 ·rename_i hk
  rw [hk] at hdd
  have hdd:dd=.string:=hdd
  subst hdd
  split at h
  ·rename_i e hks
   rw [hks] at hds
   have hds:ds=.slice e:=hds
   subst hds
   obtain ⟨te,he,h2⟩:=tyK_spec h
   clear h
   obtain ⟨de,hue,hde⟩:=(hT _ _ he).under
   split at h2
   ·rename_i hke
    rw [hke] at hde
    have hde:de=.int .u8:=hde
    subst hde
    refine .value (by simp) h2 fun o ν a w ho ha hH=>⟨_,.str _,?_⟩
    have hx:=(hx ν a (ha x (by simp [Op.operands]))).to_snil
    have:=run_convert_bytes_string (P:=P) w s d e none 0 0 hus hue hud
    simp [execOp,ho,hx,this,Conv.bytesToString]
    rfl
   ·exact h2.elim
  ·exact h.elim
 ·rename_i e str hk
  rw [hk] at hdd
  have hdd:dd=.slice e:=hdd
  subst hdd
  split at h
  ·rename_i hks
   rw [hks] at hds
   have hds:ds=.string:=hds
   subst hds
   obtain ⟨te,he,h2⟩:=tyK_spec h
   clear h
   obtain ⟨de,hue,hde⟩:=(hT _ _ he).under
   split at h2
   ·rename_i hke
    rw [hke] at hde
    have hde:de=.int .u8:=hde
    subst hde
    refine ⟨_,_,h2,fun o ν a w r nn ho ha hH hn next Q hN=>?_⟩
    have hx:=(hx ν a (ha x (by simp [Op.operands]))).to_str
    have hrun:=run_bytes_of_string (P:=P) w s d e str hus hud hue
    have hge:=grownCap_ge w str.size 0 e
    have hb:Below w.heap.size w (w.drew.alloc (.cells (bytesRow str (grownCap w str.size 0 e)) e ((bytesRow str (grownCap w str.size 0 e)).size,(bytesRow str (grownCap w str.size 0 e)).size+1))):=((Below.refl _ w).drew).alloc (Nat.le_refl _) _
    have hrun':(execOp a.eval o).run P w=.ok (.value (.slice (some ⟨w.heap.size,0,none⟩) str.size (grownCap w str.size 0 e))) (w.drew.alloc (.cells (bytesRow str (grownCap w str.size 0 e)) e ((bytesRow str (grownCap w str.size 0 e)).size,(bytesRow str (grownCap w str.size 0 e)).size+1))):=by
     simp [execOp,ho,hx,hrun]
    refine wpIn_of_run (by simp [ho]) hrun' next Q
     (hN _ _ (ν.add nid ⟨w.heap.size,0,1,grownCap w str.size 0 e⟩) (qpost_new hn ?_ hb (Nat.le_refl _) ?_))
    ·have hnew:(w.drew.alloc (.cells (bytesRow str (grownCap w str.size 0 e)) e ((bytesRow str (grownCap w str.size 0 e)).size,(bytesRow str (grownCap w str.size 0 e)).size+1))).heap[w.heap.size]?=some (.cells (bytesRow str (grownCap w str.size 0 e)) e ((bytesRow str (grownCap w str.size 0 e)).size,(bytesRow str (grownCap w str.size 0 e)).size+1)):=by
      show (w.heap.push _)[w.heap.size]?=_; simp
     refine ⟨rfl,fun r hr=>rfl,fun r hr j v hv=>⟨v,?_,VRel.scal_self ?_⟩,fun _ r hr v hv=>?_,fun r hr v hv=>?_,fun h _=>by simp [Blk.own] at h,(fun r h=>nomatch h),?_⟩
     ·have hr:r < str.size:=hr
      have hv:[Value.int .u8 (byteAt str r)][j]?=some v:=hv
      have hj:j=0:=by
       have:=(List.getElem?_eq_some_iff.1 hv).1
       simpa using this
      subst hj
      simp only [Loc.at,World.cell?,Nat.zero_add]
      rw [hnew]
      simp only [Option.isSome_none,Bool.false_eq_true,if_false]
      have hlt:r < str.data.size:=hr
      simp [bytesRow,byteAt] at hv ⊢
      rw [Array.getElem?_append_left (by simpa using hlt)]
      have hg:str.data[r]?=some (str.data[r]'hlt):=Array.getElem?_eq_getElem hlt
      rw [hg] at hv
      rw [Array.getElem?_map,hg,← hv]
      rfl
     ·have hv:[Value.int .u8 (byteAt str r)][j]?=some v:=hv
      have:=List.mem_of_getElem? hv
      simp at this
      rw [this]; rfl
     ·have hv:v∈[Value.int .u8 (byteAt str r)]:=hv
      simp at hv; rw [hv]; rfl
     ·have hv:v∈[Value.int .u8 (byteAt str r)]:=hv
      simp at hv; rw [hv]; rfl
     ·show w.heap.size < (w.drew.alloc _).heap.size
      simp
    ·have:=VRel.slice (ν:=ν.add nid ⟨w.heap.size,0,1,grownCap w str.size 0 e⟩) nid 0 str.size capU (grownCap w str.size 0 e) _ Nu.add_same (.inr rfl) hge (by simp)
     simpa [Loc.at] using this
   ·exact h2.elim
  ·exact h.elim
 ·exact h.elim
theorem q_cap (hT:∀ t ti,tt t=some ti→TIok P t ti) {c:Call} (hc:c.callee=.builtin .cap) {t:TypeId} {x:Operand} (hx:c.args=#[x]) (ht:c.argTypes=#[t]) (h:qCap tmps tt t x k):QOk P (.call c) tmps H nid k:=by
 obtain ⟨xv,h2,hv⟩:=evalK_all h
 clear h
 obtain ⟨ti,hti,h⟩:=tyK_spec h2
 clear h2
 obtain ⟨d,hu,hd⟩:=(hT _ _ hti).under
 split at h
 ·rename_i e hk
  rw [hk] at hd
  have hd:d=.slice e:=hd
  subst hd
  refine .value (by simp) h fun o ν a w ho ha hH=>⟨_,.int _ _,?_⟩
  have he:=(hv ν a (ha x (by simp [Op.operands,Call.operands,hc,hx]))).to_snil
  simp [execOp,ho,resolve,hc,hx,ht,invoke,builtin,Builtin.cap_,run_underlying hu,he,goInt]
 ·exact h.elim
theorem wrap_small {m:Nat} (h:m≤140737488355328):IntKind.i64.wrap (m:Int)=(m:Int):=by
 have e:IntKind.i64.wrap (m:Int)=if (true && decide ((m:Int) % (2 ^ 64:Int) ≥ (2 ^ 63:Int)))=true then (m:Int) % (2 ^ 64:Int) - (2 ^ 64:Int) else (m:Int) % (2 ^ 64:Int):=rfl
 rw [e]
 simp only [Bool.true_and,decide_eq_true_eq]
 split <;> omega
theorem run_append_make {t u ty e:TypeId} {q:IntKind} {i:TypeInfo} {z:Value} (ht:P.underlying t=some (.slice e)) (hu:P.underlying u=some (.int q)) (hi:P.info? e=some i) (hz:i.zero=some z)
  {n:Int} (h0:0 < n) (h48:n*i.bytes≤140737488355328) (h63:n≤140737488355328) :
  (Builtin.append_ #[t,u] ty #[.slice none 0 0,.int .i64 n]).run P w =
   .ok (.slice (some ⟨w.heap.size,0,none⟩) n.toNat (grownCap w n.toNat 0 e))
    (w.drew.alloc (.cells ((if n.toNat*i.size=0 then #[] else Builtin.zeroCells z.cells n.toNat)++Builtin.zeroCells z.cells (grownCap w n.toNat 0 e - n.toNat)) e)):=by
 obtain ⟨m,rfl⟩:∃ m:Nat,n=m:=⟨n.toNat,by omega⟩
 have hw:IntKind.i64.wrap (m:Int)=(m:Int):=wrap_small (by omega)
 have hn:m≠0:=by omega
 have h1:¬ ((m:Int) < 0):=by omega
 have h2:¬ (281474976710656 < (m:Int)*(i.bytes:Int)):=by omega
 have h63':¬ (9223372036854775807 < (m:Int)):=by omega
 have h48':¬ (281474976710656 < Builtin.nextslicecap m 0*i.bytes):=by
  rw [nextslicecap_zero (by omega)]
  have h48:((m*i.bytes:Nat):Int)≤140737488355328:=by rw [Int.natCast_mul]; exact h48
  omega
 by_cases hs:m*i.size=0
 ·simp [Builtin.append_,run_underlying ht,run_underlying hu,sizeOf,typeInfo,zeroValue,hi,hz,asInt,asIntOf,hw,h1,h2,hn,h63',h48',Question.forced,newRow,grownCap,Builtin.firstCells,hs]
 ·simp [Builtin.append_,run_underlying ht,run_underlying hu,sizeOf,typeInfo,zeroValue,hi,hz,asInt,asIntOf,hw,h1,h2,hn,h63',h48',Question.forced,newRow,grownCap,Builtin.firstCells,hs]
theorem zeroCells_get (z:Array Value) (n j:Nat) (h:j < n*z.size) (hz:0 < z.size):(Builtin.zeroCells z n)[j]?=z[j % z.size]?:=by
 unfold Builtin.zeroCells
 rw [Array.getElem?_map,Array.getElem?_range,if_pos h]
 simp only [Option.map_some]
 have:j % z.size < z.size:=Nat.mod_lt _ hz
 rw [Array.getElem?_eq_getElem this]
 simp [this]
theorem q_growMake (hT:∀ t ti,tt t=some ti→TIok P t ti) {c:Call} (hc:c.callee=.builtin .append) {t u:TypeId} {x y:Operand} (hx:c.args=#[x,y]) (hct:c.argTypes=#[t,u]) (h:qGrowMake tt tmps t u x y nid k):QOk P (.call c) tmps H nid k:=by
 obtain ⟨xv,h2,hxv⟩:=evalK_all h
 clear h
 obtain ⟨yv,h,hyv⟩:=evalK_all h2
 clear h2
 obtain ⟨ti,ht,h2⟩:=tyK_spec h
 clear h
 obtain ⟨d,hu,hd⟩:=(hT _ _ ht).under
 split at h2
 ·rename_i e hk
  rw [hk] at hd
  have hd:d=.slice e:=hd
  subst hd
  obtain ⟨te,he,h⟩:=tyK_spec h2
  clear h2
  obtain ⟨tu,htu,h2⟩:=tyK_spec h
  clear h
  obtain ⟨du,huu,hdu⟩:=(hT _ _ htu).under
  have hok:=hT _ _ he
  obtain ⟨i,hi,his,hib,z,hz,hzc⟩:=hok.info
  split at h2
  ·rename_i q n hku hall
   rw [hku] at hdu
   have hdu:du=.int q:=hdu
   subst hdu
   obtain ⟨⟨b0,b1⟩,h⟩:=h2
   refine ⟨_,_,h,fun o ν a w r nn ho ha hH hn next Q hN=>?_⟩
   have hx':=(hxv ν a (ha x (by simp [Op.operands,Call.operands,hc,hx]))).to_snil
   have hy':=(hyv ν a (ha y (by simp [Op.operands,Call.operands,hc,hx]))).to_int
   have hpos:=hok.bit.2
   have hn1:n≤n*te.bytes:=by
    have:n*1≤n*(te.bytes:Int):=Int.mul_le_mul_of_nonneg_left (by omega) (by omega)
    omega
   have hrun:=run_append_make (P:=P) (w:=w) (ty:=o.type) hu huu hi hz b0 (by rw [hib]; exact b1) (by omega)
   have hge:=grownCap_ge w n.toNat 0 e
   have hbl:∀ C:Array Value,Below w.heap.size w (w.drew.alloc (.cells C e)):=fun C=>((Below.refl _ w).drew).alloc (Nat.le_refl _) _
   have hpz:0 < te.size:=hok.bit.1
   have hzl:z.cells.size=te.size:=by rw [hzc]; simpa using hok.len
   have hm:¬ (n.toNat*i.size=0):=by
    rw [his]
    intro h0
    rcases Nat.mul_eq_zero.1 h0 with h | h <;> omega
   rw [if_neg hm] at hrun
   generalize hC:Builtin.zeroCells z.cells n.toNat++Builtin.zeroCells z.cells (grownCap w n.toNat 0 e - n.toNat)=C at hrun
   refine wpIn_of_run (w':=w.drew.alloc (.cells C e)) (v':=.slice (some ⟨w.heap.size,0,none⟩) n.toNat (grownCap w n.toNat 0 e)) (by simp [ho]) (by simp [execOp,ho,resolve,hc,hx,hct,invoke,builtin,hx',hy',hrun]) next Q
    (hN _ _ (ν.add nid ⟨w.heap.size,0,te.size,grownCap w n.toNat 0 e⟩) (qpost_new hn ?_ (hbl _) (Nat.le_refl _) ?_))
   ·have hCs:C.size=grownCap w n.toNat 0 e*te.size:=by
     rw [← hC,Array.size_append]
     simp only [Builtin.zeroCells,Array.size_map,Array.size_range,hzl]
     rw [← Nat.add_mul]
     congr 1
     omega
    have hnew:(w.drew.alloc (.cells C e)).heap[w.heap.size]?=some (.cells C e (0,0)):=by show (w.heap.push _)[w.heap.size]?=_; simp
    refine ⟨rfl,fun r hr=>hok.len,fun r hr j v hv=>⟨v,?_,VRel.scal_self (allS_spec hall v (List.mem_of_getElem? hv))⟩,fun _ r hr v hv=>allS_spec hall v hv,fun r hr v hv=>hok.one v hv,fun _ _=>⟨_,_,hnew,?_,?_⟩,(fun r h=>nomatch h),?_⟩
    ·have hr:r < n.toNat:=hr
     have hv:te.zero[j]?=some v:=hv
     have hj:j < te.size:=by rw [← hok.len]; exact (List.getElem?_eq_some_iff.1 hv).1
     simp only [Loc.at,World.cell?,Nat.zero_add]
     rw [hnew]
     have hlt:r*te.size+j < n.toNat*te.size:=by
      have:(r+1)*te.size≤n.toNat*te.size:=Nat.mul_le_mul_right _ (by omega)
      rw [Nat.add_mul] at this; omega
     simp only [Option.isSome_none,Bool.false_eq_true,if_false]
     rw [← hC,Array.getElem?_append_left (by simp only [Builtin.zeroCells,Array.size_map,Array.size_range,hzl]; exact hlt),zeroCells_get _ _ _ (by rw [hzl]; exact hlt) (by omega),hzl,row_col _ _ _ hj,hzc]
     simpa using hv
    ·rw [hCs]; simp
    ·simp only [Blk.n]; omega
    ·show w.heap.size < (w.drew.alloc _).heap.size
     simp
   ·have:=VRel.slice (ν:=ν.add nid ⟨w.heap.size,0,te.size,grownCap w n.toNat 0 e⟩) nid 0 n.toNat capU (grownCap w n.toNat 0 e) _ Nu.add_same (.inr rfl) hge (by simp)
    simpa [Loc.at] using this
  ·exact h2.elim
 ·exact h2.elim
end
end Go.Ae
/- Calls by contract: the blocks of the arguments renumbered. -/
namespace Go.Ae
open Go Go.RowKit
section
variable {P:Program} {tt:TT} {Φ:Specs} {w:World} {ν:Nu} {nid:Nat} {k:QK} {tmps:List Value} {H:Heap}
def Nu.comp (ν:Nu) (τ:List Nat):Nu:=fun j=>(τ[j]?).bind ν
theorem renL_cons {τ:List Nat} {m:Nat} {x:Value} {xs l:List Value} (h:renL τ m (x::xs)=some l):∃ y ys,l=y::ys∧renV τ m x=some y∧renL τ m xs=some ys:=by
 unfold renL at h
 rw [List.foldr_cons] at h
 split at h
 ·rename_i y ys h1 h2
  exact ⟨y,ys,(Option.some.inj h).symm,h1,h2⟩
 ·cases h
theorem renL_nil {τ:List Nat} {m:Nat} {l:List Value} (h:renL τ m []=some l):l=[]:=by
 simp [renL] at h; exact h
theorem renL_fwd {τ:List Nat} {m:Nat} (h:∀ v v2 r,renV τ m v=some v2→VRel ν v2 r→VRel (ν.comp τ) v r):∀ {xs l rs:List Value},renL τ m xs=some l→LRel ν l rs→LRel (ν.comp τ) xs rs
 | [],l,rs,h1,h2=>by rw [renL_nil h1] at h2; rw [h2.nil_inv]; exact .nil _
 | x::xs,l,rs,h1,h2=>by
  obtain ⟨y,ys,rfl,e1,e2⟩:=renL_cons h1
  obtain ⟨r,rs',rfl,k1,k2⟩:=h2.uncons
  exact .cons (h _ _ _ e1 k1) (renL_fwd h e2 k2)
theorem renL_bwd {τ:List Nat} {m:Nat} (h:∀ v v2 r,renV τ m v=some v2→VRel (ν.comp τ) v r→VRel ν v2 r):∀ {xs l rs:List Value},renL τ m xs=some l→LRel (ν.comp τ) xs rs→LRel ν l rs
 | [],l,rs,h1,h2=>by rw [renL_nil h1]; rw [h2.nil_inv]; exact .nil _
 | x::xs,l,rs,h1,h2=>by
  obtain ⟨y,ys,rfl,e1,e2⟩:=renL_cons h1
  obtain ⟨r,rs',rfl,k1,k2⟩:=h2.uncons
  exact .cons (h _ _ _ e1 k1) (renL_bwd h e2 k2)
theorem renV_fwd {τ:List Nat}:∀ (m:Nat) (v v2 r:Value),renV τ m v=some v2→VRel ν v2 r→VRel (ν.comp τ) v r:=by
 intro m
 induction m with
 | zero=>intro v v2 r h; simp [renV] at h
 | succ m ih =>
  intro v v2 r h hr
  unfold renV at h
  split at h
  ·cases h; rw [hr.of_scal rfl]; exact .bool _
  ·cases h; rw [hr.of_scal rfl]; exact .int _ _
  ·cases h; rw [hr.of_scal rfl]; exact .str _
  ·cases h; cases hr; exact .pnil
  ·split at h
   ·rename_i id' e
    cases h
    obtain ⟨l,h1,rfl⟩:=hr.to_ptr
    exact .ptr _ _ _ l (by simp [Nu.comp,e,h1])
   ·cases h
  ·cases h; cases hr; exact .snil
  ·split at h
   ·rename_i id' e
    cases h
    rcases hr.to_slice with ⟨l,c',h1,h2,h3,h4,rfl⟩ | ⟨rfl,h2,b,rfl⟩
    ·exact .slice _ _ _ _ _ l (by simp [Nu.comp,e,h1]) h2 h3 h4
    ·exact .void _ _ _ _ h2
   ·cases h
  ·cases h; cases hr; exact .fnil
  ·split at h
   ·rename_i l l' e
    cases h
    obtain ⟨ys,rfl,hy⟩:=hr.to_agg
    have:=renL_fwd ih e hy
    exact .agg _ _ this.1 this.2
   ·cases h
  ·split at h
   ·rename_i l l' e
    cases h
    obtain ⟨ys,rfl,hy⟩:=hr.to_tuple
    have:=renL_fwd ih e hy
    exact .tuple _ _ this.1 this.2
   ·cases h
  ·split at h
   ·rename_i l1 l2 l1' l2' e1 e2
    cases h
    obtain ⟨ys,ys',rfl,hy,hy'⟩:=hr.to_func
    have t1:=renL_fwd ih e1 hy
    have t2:=renL_fwd ih e2 hy'
    exact .func _ _ _ _ _ t1.1 t1.2 t2.1 t2.2
   ·cases h
  ·cases h
theorem renV_bwd {τ:List Nat}:∀ (m:Nat) (v v2 r:Value),renV τ m v=some v2→VRel (ν.comp τ) v r→VRel ν v2 r:=by
 intro m
 induction m with
 | zero=>intro v v2 r h; simp [renV] at h
 | succ m ih =>
  intro v v2 r h hr
  unfold renV at h
  split at h
  ·cases h; rw [hr.of_scal rfl]; exact .bool _
  ·cases h; rw [hr.of_scal rfl]; exact .int _ _
  ·cases h; rw [hr.of_scal rfl]; exact .str _
  ·cases h; cases hr; exact .pnil
  ·split at h
   ·rename_i id' e
    cases h
    obtain ⟨l,h1,rfl⟩:=hr.to_ptr
    simp [Nu.comp,e] at h1
    exact .ptr _ _ _ l h1
   ·cases h
  ·cases h; cases hr; exact .snil
  ·split at h
   ·rename_i id' e
    cases h
    rcases hr.to_slice with ⟨l,c',h1,h2,h3,h4,rfl⟩ | ⟨rfl,h2,b,rfl⟩
    ·simp [Nu.comp,e] at h1
     exact .slice _ _ _ _ _ l h1 h2 h3 h4
    ·exact .void _ _ _ _ h2
   ·cases h
  ·cases h; cases hr; exact .fnil
  ·split at h
   ·rename_i l l' e
    cases h
    obtain ⟨ys,rfl,hy⟩:=hr.to_agg
    have:=renL_bwd ih e hy
    exact .agg _ _ this.1 this.2
   ·cases h
  ·split at h
   ·rename_i l l' e
    cases h
    obtain ⟨ys,rfl,hy⟩:=hr.to_tuple
    have:=renL_bwd ih e hy
    exact .tuple _ _ this.1 this.2
   ·cases h
  ·split at h
   ·rename_i l1 l2 l1' l2' e1 e2
    cases h
    obtain ⟨ys,ys',rfl,hy,hy'⟩:=hr.to_func
    have t1:=renL_bwd ih e1 hy
    have t2:=renL_bwd ih e2 hy'
    exact .func _ _ _ _ _ t1.1 t1.2 t2.1 t2.2
   ·cases h
  ·cases h
/-- A block that serves a contract. -/
structure BlkLe' (b c:Blk):Prop extends BlkLe b c where
 rc:b.rc=none
theorem blksK_spec {k:Prop}:∀ {σ:List Nat} {bs:List Blk},blksK H σ bs k→σ.length=bs.length∧(∀ (j s:Nat) (b:Blk),σ[j]?=some s→bs[j]?=some b→∃ c,H[s]?=some (some c)∧BlkLe' b c)∧k
 | [],[],h=>⟨rfl,fun j s b h=>by simp at h,h⟩
 | s::σ,b::bs,h=>by
  have hb0:b.rc=none∧blkK H s fun c=>BlkLe b c∧blksK H σ bs k:=by
   cases b with
   | expl o e r=>exact ⟨rfl,h⟩
   | flat o n e g=>exact ⟨rfl,h⟩
   | lrec r=>exact h.elim
  obtain ⟨hb0,h⟩:=hb0
  obtain ⟨c,h1,h2,h3⟩:=blkK_spec h
  obtain ⟨e1,e2,e3⟩:=blksK_spec h3
  refine ⟨by simp [e1],fun j s' b' hs hb=>?_,e3⟩
  cases j with
  | zero=>simp at hs hb; subst hs; subst hb; exact ⟨c,h1,h2,hb0⟩
  | succ j=>exact e2 j s' b' (by simpa using hs) (by simpa using hb)
 | [],_::_,h=>h.elim
 | _::_,[],h=>h.elim
/-- A block of plain cells stands under any numbering. -/
theorem BRel.scal_any {ν ν':Nu} {l:Loc} {b:Blk} {w:World} (h:BRel ν l b w) (hs:∀ r,r < b.n→∀ v∈b.row r,scal v=true):BRel ν' l b w :=
 ⟨h.esz,h.len,fun r hr j v hv=>by
  obtain ⟨v',h1,h2⟩:=h.cell r hr j v hv
  have hsv:=hs r hr v (List.mem_of_getElem? hv)
  rw [h2.of_scal hsv] at h1
  exact ⟨v,h1,VRel.scal_self hsv⟩,h.plain,h.one,h.own,h.lr,h.live⟩
theorem BRel.le {ν ν':Nu} {l:Loc} {b c:Blk} {w:World} (h:BRel ν l c w) (hle:BlkLe' b c):BRel ν' l b w:=by
 refine ⟨h.esz.trans hle.esz,fun r hr=>?_,fun r hr j v hv=>?_,fun _ r hr v hv=>hle.flat r hr v hv,fun r hr v hv=>?_,fun ho _=>?_,(fun r h=>by rw [hle.rc] at h; cases h),h.live⟩
 ·rw [hle.row r hr,h.len r (Nat.lt_of_lt_of_le hr hle.n),hle.esz]
 ·rw [hle.row r hr] at hv
  obtain ⟨v',h1,h2⟩:=h.cell r (Nat.lt_of_lt_of_le hr hle.n) j v hv
  have hsv:=hle.flat r hr v (by rw [hle.row r hr]; exact List.mem_of_getElem? hv)
  rw [h2.of_scal hsv] at h1
  exact ⟨v,h1,VRel.scal_self hsv⟩
 ·rw [hle.row r hr] at hv
  exact h.one r (Nat.lt_of_lt_of_le hr hle.n) v hv
 ·obtain ⟨h1,h2⟩:=hle.own ho
  obtain ⟨cur,t,q1,q2,q3⟩:=h.own (Blk.ownC_spec h1).1 (Blk.ownC_spec h1).2
  exact ⟨cur,t,q1,q2,by omega⟩
theorem comp_le {σ:List Nat}:(ν.comp σ).le (ν.comp (σ++[nid])):=by
 intro j l h
 unfold Nu.comp at h ⊢
 cases e:σ[j]? with
 | none=>rw [e] at h; cases h
 | some s =>
  rw [List.getElem?_append_left (List.getElem?_eq_some_iff.1 e).1,e]
  rwa [e] at h
/-- A call by contract. -/
theorem q_call {c:Call} {f:Operand} (hc:c.callee=.value f) (hΦ:∀ g S,Φ g=some S→FSnd P g S)
  (h:evalK tmps f fun fv=>match fv with
   | .func (.func g) x y=>evalsK tmps c.args.toList fun vs=>appK x.toList vs fun l=>appK l y.toList fun args=>qCall Φ g args H nid k
   | _=>False):QOk P (.call c) tmps H nid k:=by
 obtain ⟨fv,h2,hf⟩:=evalK_all h
 clear h
 split at h2
 ·rename_i g x y
  obtain ⟨vs,h,hvs⟩:=evalsK_all h2
  clear h2
  have h2:=appK_spec (appK_spec h)
  clear h
  have hargs0:∀ (o:Oper) (ν:Nu) (a:Act),(∀ z∈(Op.call c).operands,OpRel ν tmps a z)→∃ ys ys',a.eval f=.func (.func g) ⟨ys⟩ ⟨ys'⟩∧LRel ν (x.toList++vs++y.toList) ((ys++c.args.toList.map a.eval)++ys'):=by
   intro o ν a ha
   have hvs:=hvs ν a (fun z hz=>ha z (by simp [Op.operands,Call.operands,hc]; exact .inr (by simpa using hz)))
   obtain ⟨ys,ys',hfe,h1,h2⟩:=(hf ν a (ha f (by simp [Op.operands,Call.operands,hc]))).to_func
   exact ⟨ys,ys',hfe,(h1.append hvs).append h2⟩
  have hrun0:∀ (o:Oper) (a:Act) (w:World) (ys ys':List Value),(∀ args w,(callFunc g args).run P w=.ok (.enter g args) w)→o.op=.call c→a.eval f=.func (.func g) ⟨ys⟩ ⟨ys'⟩ →
    (execOp a.eval o).run P w=.ok (.enter g ⟨(ys++c.args.toList.map a.eval)++ys'⟩) w:=by
   intro o a w ys ys' hen ho hfe
   simp only [execOp,ho,resolve,hc,hfe,Deferred.ofValue,Sem.run_bind,Sem.run_pure,Result.andThen_ok,invoke,hen]
   congr 2
   apply Array.ext'
   simp
  unfold qCall at h2
  split at h2
  ·rename_i S hS
   obtain ⟨i,hi,hp,h⟩:=h2
   have h:=forceK_spec h
   have hs:Snd P g S:=hΦ g _ hS
   refine ⟨_,none,h,fun o ν a w r n ho ha hH hn next Q hN=>⟨fun _ _=>trivial,?_⟩⟩
   obtain ⟨ys,ys',hfe,hargs⟩:=hargs0 o ν a ha
   rw [← hi] at hargs
   rw [Oper.semAt_eq _ _ _ (by simp [ho]),hrun0 o a w ys ys' hs.enters ho hfe]
   refine ⟨fun h=>by simp [WF,Fence.wide] at h,?_⟩
   have hcall:=hs.calls i hp ν _ w (n - 1) hargs
   have hcall':CallsIn (WF r) (n - 1) P g ⟨(ys++c.args.toList.map a.eval)++ys'⟩ w fun e w'=>∃ v',e=.returned v'∧VRel ν (S.val i) v'∧Below w.heap.size w w':=hcall
   refine hcall'.mono ?_
   rintro e w' ⟨v',rfl,hv,hb⟩
   exact hN _ _ ν ⟨ν.le_refl,fun _ _=>rfl,hv,hb,fun _=>rfl,(fun b hb=>by cases hb)⟩
  ·rename_i S hS
   obtain ⟨i,σ,hren,hp,h⟩:=h2
   obtain ⟨hlen,hbl,v,hv,h⟩:=blksK_spec h
   have h:=forceK_spec h
   have hs:QSnd P g S:=hΦ g _ hS
   refine ⟨_,_,h,fun o ν a w r n ho ha hH hn next Q hN=>⟨fun _ _=>trivial,?_⟩⟩
   obtain ⟨ys,ys',hfe,hargs⟩:=hargs0 o ν a ha
   have hargs1:=renL_fwd (renV_fwd (ν:=ν) 3) hren hargs
   rw [Oper.semAt_eq _ _ _ (by simp [ho]),hrun0 o a w ys ys' hs.enters ho hfe]
   refine ⟨fun h=>by simp [WF,Fence.wide] at h,?_⟩
   have hH1:HRel (ν.comp σ) ((S.blks i).map some) w:=by
    have hget:∀ (id:Nat) (b:Blk),((S.blks i).map some)[id]?=some (some b)→(S.blks i)[id]?=some b:=by
     intro id b hid
     rw [List.getElem?_map] at hid
     cases e:(S.blks i)[id]? with
     | none=>rw [e] at hid; cases hid
     | some b'=>rw [e] at hid; simp at hid; rw [hid]
    refine ⟨fun id b hid=>?_,fun p q bp bq lp lq hp' _ _ ho=>?_⟩
    ·have hid:=hget id b hid
     have hlt:id < σ.length:=by rw [hlen]; exact (List.getElem?_eq_some_iff.1 hid).1
     obtain ⟨cb,h1,h2⟩:=hbl id _ b (List.getElem?_eq_getElem hlt) hid
     obtain ⟨l,h3,h4⟩:=hH.blk _ _ h1
     exact ⟨l,by simp [Nu.comp,List.getElem?_eq_getElem hlt,h3],h4.le h2⟩
    ·have:=hs.ro i bp (List.mem_of_getElem? (hget p bp hp'))
     rw [this] at ho; cases ho
   have hfr:∀ id,(S.blks i).length≤id→(ν.comp σ) id=none:=by
    intro id hid
    simp [Nu.comp,List.getElem?_eq_none (show σ.length≤id by omega)]
   have hcall:=hs.calls i hp (ν.comp σ) _ w (n - 1) hargs1 hH1 hfr
   have hcall':CallsIn (WF r) (n - 1) P g ⟨(ys++c.args.toList.map a.eval)++ys'⟩ w fun e w'=>∃ v' ν',e=.returned v'∧QPost (ν.comp σ) ν' (S.blks i).length w w' (S.val i) v' (S.new i):=hcall
   refine hcall'.mono ?_
   rintro e w' ⟨v',ν1,rfl,hq⟩
   cases hnew:S.new i with
   | none =>
    have e1:=hq.isN hnew
    refine hN _ _ ν ⟨ν.le_refl,fun _ _=>rfl,?_,hq.below,fun _=>rfl,(fun b hb=>by rw [hnew] at hb; cases hb)⟩
    refine renV_bwd 3 _ _ _ hv (hq.val.mono ?_)
    rw [e1]; exact comp_le
   | some b =>
    obtain ⟨l,h1,h2,h3⟩:=hq.isS b hnew
    have hle:ν1.le ((ν.add nid l).comp (σ++[nid])):=by
     intro j lj hj
     by_cases e:j=(S.blks i).length
     ·subst e
      rw [h1] at hj; cases hj
      simp [Nu.comp,← hlen,Nu.add_same]
     ·rw [hq.only j e] at hj
      have:=comp_le (nid:=nid) j lj hj
      unfold Nu.comp at this ⊢
      cases e2:(σ++[nid])[j]? with
      | none=>rw [e2] at this; cases this
      | some s =>
       rw [e2] at this
       exact Nu.le_add hn s lj this
    have hfl:=hs.fl i b hnew
    refine hN _ _ (ν.add nid l) ⟨Nu.le_add hn,fun id hid=>Nu.add_ne hid,renV_bwd 3 _ _ _ hv (hq.val.mono hle),hq.below,(fun h=>by rw [hnew] at h; cases h),(fun b' hb'=>?_)⟩
    rw [hnew] at hb'; cases hb'
    exact ⟨l,Nu.add_same,h2.scal_any (h2.plain hfl),h3⟩
  ·exact h2.elim
 ·exact h2.elim
/-- Beside the frame: what was there and is not one's own has not turned. -/
structure Kept (O:Nat→Prop) (w w':World):Prop where
 os:w'.os=w.os
 tape:w'.tape=w.tape
 output:w'.output=w.output
 size:w.heap.size≤w'.heap.size
 blk:∀ b,b < w.heap.size→¬ O b→w'.heap[b]?=w.heap[b]?
theorem Kept.refl {O:Nat→Prop} (w:World):Kept O w w:=⟨rfl,rfl,rfl,Nat.le_refl _,fun _ _ _=>rfl⟩
theorem Kept.below {O:Nat→Prop} {W w w':World} (h:Kept O W w) (hb:Below w.heap.size w w'):Kept O W w' :=
 ⟨hb.os.trans h.os,hb.tape.trans h.tape,hb.output.trans h.output,Nat.le_trans h.size hb.size,fun b h1 h2=>(hb.block b (Nat.lt_of_lt_of_le h1 h.size)).trans (h.blk b h1 h2)⟩
theorem Kept.then {O O':Nat→Prop} {W w w':World} (h:Kept O W w) (h':Kept O' w w') (hO:∀ b,O' b→O b∨W.heap.size≤b):Kept O W w' :=
 ⟨h'.os.trans h.os,h'.tape.trans h.tape,h'.output.trans h.output,Nat.le_trans h.size h'.size,fun b h1 h2 =>
  (h'.blk b (Nat.lt_of_lt_of_le h1 h.size) (fun h3=>(hO b h3).elim h2 (fun h4=>by omega))).trans (h.blk b h1 h2)⟩
structure FTOk (P:Program) (f:FuncId) (F:FT):Prop where
 enters:∀ args w,(callFunc f args).run P w=.ok (.enter f args) w
 calls:∀ (args:List Value) (H:Heap) (K:Value→Heap→Prop),F args H K→∀ (ν:Nu) (as:List Value) (w:World) (n:Nat) (O:Nat→Prop),LRel ν args as→HRel ν H w→(∀ id,H.length≤id→ν id=none) →
  (∀ id b l,H[id]?=some (some b)→b.own=true→ν id=some l→O l.blk) →
  CallsIn Fence.wide n P f ⟨as⟩ w fun e w'=>∃ v v' ν' H',e=.returned v'∧K v H'∧VRel ν' v v'∧ν.le ν'∧HRel ν' H' w'∧(∀ id,H'.length≤id→ν' id=none)∧Kept O w w' ∧
   ∀ id b l,H'[id]?=some (some b)→b.own=true→ν' id=some l→O l.blk∨w.heap.size≤l.blk
structure EnvOk (P:Program) (E:Env):Prop where
 ty:∀ t ti,E.tt t=some ti→TIok P t ti
 eq:∀ t∈E.eqs,∀ ti,E.tt t=some ti→EqTy P t ti.zero
 fn:∀ g S,E.Φ g=some S→FSnd P g S
 ft:∀ g F,E.Ψ g=some F→FTOk P g F:=by intro g F h; cases h
/-- Behind a call of a function that works upon the abstract heap. -/
def FTPost (K:Value→Heap→Prop) (ν:Nu) (O:Nat→Prop) (w:World) (e:Ending) (w':World):Prop :=
 ∃ v v' ν' H',e=.returned v'∧K v H'∧VRel ν' v v'∧ν.le ν'∧HRel ν' H' w'∧(∀ id,H'.length≤id→ν' id=none)∧Kept O w w' ∧
   ∀ id b l,H'[id]?=some (some b)→b.own=true→ν' id=some l→O l.blk∨w.heap.size≤l.blk
/-- A round of a range over a function. -/
def YOk (P:Program) (l:Nat) (G:FT) (ν0:Nu):Prop :=
 ∀ (args:List Value) (H:Heap) (K:Value→Heap→Prop),G args H K→∀ (ν:Nu) (as:List Value) (w:World) (n:Nat) (O:Nat→Prop),ν0.le ν→LRel ν args as→HRel ν H w→(∀ id,H.length≤id→ν id=none) →
  (∀ id b l,H[id]?=some (some b)→b.own=true→ν id=some l→O l.blk)→YieldAt Fence.wide n P l ⟨as⟩ w (FTPost K ν O w)
/-- An iterator under a yield value. -/
structure ITOk (P:Program) (f:FuncId) (I:Nat→FT→Nu→FT):Prop where
 enters:∀ args w,(callFunc f args).run P w=.ok (.enter f args) w
 calls:∀ l G ν0,YOk P l G ν0→∀ (args:List Value) (H:Heap) (K:Value→Heap→Prop),I l G ν0 args H K→∀ (ν:Nu) (as:List Value) (w:World) (n:Nat) (O:Nat→Prop),ν0.le ν→LRel ν args as→HRel ν H w→(∀ id,H.length≤id→ν id=none) →
  (∀ id b l,H[id]?=some (some b)→b.own=true→ν id=some l→O l.blk)→CallsIn Fence.wide n P f ⟨as⟩ w (FTPost K ν O w)
def ItsOk (P:Program) (E:Env):Prop:=∀ f I,E.It f=some I→ITOk P f I
theorem ItsOk.none {P:Program} {E:Env} (h:E.It=fun _=>none):ItsOk P E:=fun f I hI=>by rw [h] at hI; cases hI
/-- An environment with its iterators and its yield values. -/
structure EnvX (P:Program) (E:Env):Prop extends EnvOk P E where
 its:ItsOk P E
 ys:∀ l G r,E.ys=(l,G)::r→YOk P l G E.nu
theorem EnvOk.x {P:Program} {E:Env} (h:EnvOk P E) (hI:ItsOk P E) (hy:E.ys=[]):EnvX P E:=⟨h,hI,fun l G r e=>by rw [hy] at e; cases e⟩
/-- A table of contracts, and what is to be shown of them. -/
def findN {α:Type _}:List (Nat × α)→Nat→Option α
 | [],_=>none
 | c::l,g=>match Nat.beq c.1 g with
  | true=>some c.2
  | false=>findN l g
def allN {α:Type _} (Q:Nat→α→Prop):List (Nat × α)→Prop
 | []=>True
 | c::l=>Q c.1 c.2∧allN Q l
theorem findN_ok {α:Type _} {Q:Nat→α→Prop}:∀ {l:List (Nat × α)} {g:Nat} {S:α},allN Q l→findN l g=some S→Q g S
 | c::l,g,S,hq,h=>by
  unfold findN at h
  split at h
  ·rename_i e; cases h; rw [← Nat.eq_of_beq_eq_true e]; exact hq.1
  ·exact findN_ok hq.2 h
/-- All of them. -/
theorem opQ_sound {E:Env} (hE:EnvOk P E) {op:Op} (h:opQ E op tmps H nid k):QOk P op tmps H nid k:=by
 cases op
 case move=>exact q_move h
 case assign=>exact q_assign h
 case pick=>exact q_pick h
 case alloc=>exact q_alloc hE.ty h
 case box=>exact q_box hE.ty h
 case build=>exact q_build hE.ty h
 case load=>exact q_load hE.ty h
 case fieldAddr=>exact q_fieldAddr hE.ty h
 case field=>exact q_field hE.ty h
 case indexAddr=>exact q_indexAddr hE.ty h
 case index=>exact q_index hE.ty h
 case extract=>exact q_extract h
 case makeFunc=>exact q_makeFunc h
 case unOp=>exact q_un h
 case binOp=>exact q_bin hE.ty hE.eq h
 case convert=>exact q_convert hE.ty h
 case buildSlice=>exact q_buildSlice hE.ty h
 case makeSlice=>exact q_makeSlice hE.ty h
 case slice=>exact q_slice hE.ty h
 case call c =>
  unfold opQ at h
  dsimp only at h
  split at h
  ·rename_i f hc
   exact q_call hc hE.fn h
  ·rename_i hc
   split at h
   ·rename_i x t hx ht
    exact q_len hE.ty hc (Array.ext' hx) (Array.ext' ht) h
   ·exact h.elim
  ·rename_i hc
   split at h
   ·rename_i x y hx
    exact q_max hc (Array.ext' hx) h
   ·exact h.elim
  ·rename_i hc
   split at h
   ·rename_i x t hx ht
    exact q_cap hE.ty hc (Array.ext' hx) (Array.ext' ht) h
   ·exact h.elim
  ·rename_i hc
   split at h
   ·rename_i x y t u hx ht
    exact q_growMake hE.ty hc (Array.ext' hx) (Array.ext' ht) h
   ·exact h.elim
  ·rename_i hc
   split at h
   ·rename_i x y hx
    exact q_min hc (Array.ext' hx) h
   ·exact h.elim
  ·exact h.elim
 all_goals exact h.elim
end
end Go.Ae
/- Stores; what stands between the abstract state and the machine's. -/
namespace Go.Ae
open Go Go.RowKit
abbrev SK:=List Value→Heap→Prop
/-- A store of cells into a row. -/
def updRows:List (List Value)→Nat→Nat→List Value→(List (List Value)→Prop)→Prop
 | [],_,_,_,_=>False
 | r::rs,0,c,vs,k=>putK r c vs fun r'=>k (r'::rs)
 | r::rs,n+1,c,vs,k=>updRows rs n c vs fun rs'=>k (r::rs')
theorem updRows_spec:∀ {rs:List (List Value)} {n c:Nat} {vs:List Value} {k:List (List Value)→Prop},updRows rs n c vs k →
  ∃ r r',rs[n]?=some r∧(r'.length=r.length∧c+vs.length≤r.length∧(∀ (j:Nat) v,vs[j]?=some v→r'[c+j]?=some v)∧∀ (j:Nat),(j < c∨c+vs.length≤j)→r'[j]?=r[j]?)∧k (rs.set n r')
 | [],_,_,_,_,h=>h.elim
 | r::rs,0,c,vs,k,h=>by
  obtain ⟨l',h0,h1⟩:=putK_spec h
  exact ⟨r,l',rfl,h1,by simpa using h0⟩
 | r::rs,n+1,c,vs,k,h=>by
  obtain ⟨q,q',h1,h2,h3⟩:=updRows_spec (rs:=rs) h
  exact ⟨q,q',by simpa using h1,h2,by simpa using h3⟩
def allScal:List Value→Bool
 | []=>true
 | v::l=>scal v && allScal l
theorem allScal_spec:∀ {l:List Value},allScal l=true→∀ v∈l,scal v=true
 | [],_,v,hv=>by simp at hv
 | v::l,h,u,hu=>by
  simp only [allScal,Bool.and_eq_true] at h
  rcases List.mem_cons.1 hu with e | e
  ·rw [e]; exact h.1
  ·exact allScal_spec h.2 u e
def storeBlk (b:Blk) (row col:Nat) (cs:List Value) (k:Blk→Prop):Prop :=
 match b with
 | .expl true esz rows=>updRows rows row col cs fun rows'=>k (.expl true esz rows')
 | .flat true n esz get=>row < n∧match allScal cs with
  | true=>putK (get row) col cs fun r'=>k (.flat true n esz fun j=>if j=row then r' else get j)
  | false=>False
 | _=>False
def storeK (E:Env) (tmps:List Value) (H:Heap) (t:TypeId) (x y:Operand) (k:SK):Prop :=
 evalK tmps x fun av=>match av with
  | .pointer (some ⟨id,row,sp⟩)=>evalK tmps y fun v=>cellsK v fun cs=>tyK E.tt t fun ti=>match okCells cs ti.size with
   | true=>blkK H id fun b=>storeBlk b row (sp.getD 0) cs fun b'=>setB H id (some b') fun H'=>k tmps H'
   | false=>False
  | _=>False
def dstK (tmps:List Value) (d:Option Tmp) (v:Value) (k:List Value→Prop):Prop :=
 match d with
 | none=>k tmps
 | some d=>setT tmps d v k
def newK (H:Heap) (nb:Option Blk) (k:Heap→Prop):Prop :=
 match nb with
 | none=>k H
 | some b=>pushB H (some b) k
/-- The frame of a function: the world in which it was entered, the blocks that it may write, the numbering that it found. -/
structure Fr where
 W:World
 O:Nat→Prop
 ν:Nu
 n0:Nat
 fresh:∀ id,n0≤id→ν id=none
/-- A frame that suits an environment. -/
structure FrE (F:Fr) (E:Env):Prop where
 n0:F.n0≤E.base
 nu:E.nu.le F.ν
/-- The deferred calls of an activation: marks of ranges over functions, whose blocks hold no calls. -/
def Marks (n:Nat) (ds:List Deferred) (w:World):Prop :=
 ds.Nodup∧∀ d∈ds,∃ D,d={ target:=.collected D,args:=#[] }∧n≤D∧w.heap[D]?=some (.deferred (some []))
theorem Marks.nil (n:Nat) (w:World):Marks n [] w:=⟨.nil,fun d hd=>by cases hd⟩
theorem keepMarks {n:Nat} {ds:List Deferred} {w w':World} (h:Marks n ds w) (hk:∀ D:Nat,w.heap[D]?=some (Obj.deferred (some []))→w'.heap[D]?=some (Obj.deferred (some []))):Marks n ds w' :=
 ⟨h.1,fun d hd=>let ⟨D,h1,h2,h3⟩:=h.2 d hd; ⟨D,h1,h2,hk D h3⟩⟩
theorem Marks.below {n:Nat} {ds:List Deferred} {w w':World} (h:Marks n ds w) (hb:Below w.heap.size w w'):Marks n ds w' :=
 keepMarks h fun D hD=>(hb.block D (Array.getElem?_eq_some_iff.1 hD).1).trans hD
/-- One block of cells has turned. -/
theorem Marks.turn {n:Nat} {ds:List Deferred} {w w':World} (h:Marks n ds w) {b:Nat} {cur:Array Value} {t:TypeId} {z:Nat × Nat} (hb:w.heap[b]?=some (Obj.cells cur t z)) (hk:∀ q:Nat,q≠b→w'.heap[q]?=w.heap[q]?):Marks n ds w' :=
 keepMarks h fun D hD=>(hk D (fun e=>by rw [e,hb] at hD; cases hD)).trans hD
/-- What stands between the abstract state and the machine's. -/
structure SInv (F:Fr) (ν:Nu) (tmps:List Value) (H:Heap) (a:Act) (w:World):Prop where
 tm:LRel ν tmps a.tmps.toList
 df:Marks F.W.heap.size a.defers w
 hp:HRel ν H w
 fr:∀ id,H.length≤id→ν id=none
 kp:Kept F.O F.W w
 own:∀ id b l,H[id]?=some (some b)→b.own=true→ν id=some l→F.O l.blk∨F.W.heap.size≤l.blk
 mono:F.ν.le ν
section
variable {P:Program} {E:Env} {r:Option Nat} {n:Nat} {F:Fr}
theorem SInv.opRel {ν:Nu} {tmps:List Value} {H:Heap} {a:Act} {w:World} (h:SInv F ν tmps H a w) (x:Operand):OpRel ν tmps a x:=by
 intro t ht v hv
 obtain ⟨v',h1,h2⟩:=h.tm.get hv
 exact ⟨v',by simpa using h1,h2⟩
theorem put_tmps (a:Act) (d:Tmp) (v:Value):(a.put (some d) v).tmps.toList=a.tmps.toList.set d v:=by simp [Act.put]
/-- A slot is written. -/
theorem SInv.dst {ν:Nu} {tmps:List Value} {H:Heap} {a:Act} {w:World} (h:SInv F ν tmps H a w) {d:Option Tmp} {v v':Value} (hv:VRel ν v v') {k:List Value→Prop} (hk:dstK tmps d v k) :
  ∃ t',k t'∧SInv F ν t' H (a.put d v') w:=by
 cases d with
 | none=>exact ⟨tmps,hk,h⟩
 | some d =>
  obtain ⟨h1,h2⟩:=setT_spec hk
  exact ⟨_,h2,⟨by rw [put_tmps]; exact h.tm.set hv d,h.df,h.hp,h.fr,h.kp,h.own,h.mono⟩⟩
/-- Behind an operation that wrote nothing. -/
theorem SInv.quiet {ν ν':Nu} {tmps:List Value} {H:Heap} {a:Act} {w w':World} (h:SInv F ν tmps H a w) {v v':Value} {nb:Option Blk} (hq:QPost ν ν' H.length w w' v v' nb)
  {k:Heap→Prop} (hk:newK H nb k):∃ H',k H'∧SInv F ν' tmps H' a w':=by
 have hb:=hq.below
 cases nb with
 | none =>
  have:=hq.isN rfl
  subst this
  exact ⟨H,hk,⟨h.tm,h.df.below hb,h.hp.below hb,h.fr,h.kp.below hb,h.own,h.mono⟩⟩
 | some b =>
  obtain ⟨l,hl,hB,hle⟩:=hq.isS b rfl
  refine ⟨_,pushB_spec hk,⟨h.tm.mono hq.le,h.df.below hb,?_,fun id hid=>?_,h.kp.below hb,fun id c lc hc ho hlc=>?_,Nu.le_trans h.mono hq.le⟩⟩
  ·have hadd:ν'=ν.add H.length l:=by
    funext id
    by_cases e:id=H.length
    ·subst e; rw [hl,Nu.add_same]
    ·rw [hq.only id e,Nu.add_ne e]
   subst hadd
   refine h.hp.push hb (h.fr _ (Nat.le_refl _)) _ (fun j c hj=>?_) hle hB
   rw [List.getElem?_append] at hj
   split at hj
   ·rename_i hlt; exact .inr ⟨by omega,hj⟩
   ·rename_i hge
    have:j - H.length=0:=by
     have:=(List.getElem?_eq_some_iff.1 hj).1
     simp at this; omega
    rw [this] at hj
    simp at hj
    exact .inl ⟨by omega,hj.symm⟩
  ·rw [List.length_append,List.length_singleton] at hid
   rw [hq.only id (by omega)]
   exact h.fr id (by omega)
  ·rw [List.getElem?_append] at hc
   split at hc
   ·rename_i hlt
    have hne:id≠H.length:=by omega
    rw [hq.only id hne] at hlc
    exact h.own id c lc hc ho hlc
   ·rename_i hge
    have:id - H.length=0:=by
     have:=(List.getElem?_eq_some_iff.1 hc).1
     simp at this; omega
    have:id=H.length:=by omega
    subst this
    rw [hl] at hlc; cases hlc
    exact .inr (Nat.le_trans h.kp.size hle)
/-- How a store turns a block. -/
structure Upd (b b':Blk) (row col:Nat) (cs:List Value):Prop where
 own:b.ownC=true
 own':b'.ownC=true
 n:b'.n=b.n
 esz:b'.esz=b.esz
 flat:b'.isFlat=b.isFlat
 lt:row < b.n
 len:(b'.row row).length=(b.row row).length
 fit:col+cs.length≤(b.row row).length
 inn:∀ j v,cs[j]?=some v→(b'.row row)[col+j]?=some v
 out:∀ j,(j < col∨col+cs.length≤j)→(b'.row row)[j]?=(b.row row)[j]?
 oth:∀ q,q≠row→b'.row q=b.row q
 pl:b.isFlat=true→∀ v∈cs,scal v=true
theorem storeBlk_spec {b:Blk} {row col:Nat} {cs:List Value} {k:Blk→Prop} (h:storeBlk b row col cs k):∃ b',Upd b b' row col cs∧k b':=by
 cases b with
 | expl o esz rows =>
  cases o with
  | false=>exact h.elim
  | true =>
   obtain ⟨q,l',h1,⟨k1,k2,k3,k4⟩,h3⟩:=updRows_spec h
   have hlt:row < rows.length:=(List.getElem?_eq_some_iff.1 h1).1
   have e1:(Blk.expl true esz (rows.set row l')).row row=l':=by simp [Blk.row,List.getD,hlt]
   have e2:(Blk.expl true esz rows).row row=q:=by simp [Blk.row,List.getD,h1]
   refine ⟨.expl true esz (rows.set row l'),⟨rfl,rfl,by simp [Blk.n],rfl,rfl,hlt,by rw [e1,e2]; exact k1,by rw [e2]; exact k2,by rw [e1]; exact k3,by rw [e1,e2]; exact k4,fun p hp=>?_,fun h=>by simp [Blk.isFlat] at h⟩,h3⟩
   simp [Blk.row,List.getD,List.getElem?_set,Ne.symm hp]
 | flat o n esz get =>
  cases o with
  | false=>exact h.elim
  | true =>
   obtain ⟨hlt,h⟩:=h
   split at h
   ·rename_i hs
    obtain ⟨l',h0,k1,k2,k3,k4⟩:=putK_spec h
    have e1:(Blk.flat true n esz fun j=>if j=row then l' else get j).row row=l':=by simp [Blk.row]
    exact ⟨.flat true n esz fun j=>if j=row then l' else get j,⟨rfl,rfl,rfl,rfl,rfl,hlt,by rw [e1]; exact k1,k2,by rw [e1]; exact k3,by rw [e1]; exact k4,fun p hp=>by simp [Blk.row,hp],fun _=>allScal_spec hs⟩,h0⟩
   ·exact h.elim
 | lrec r=>exact h.elim
theorem Upd.o {b b':Blk} {row col:Nat} {cs:List Value} (h:Upd b b' row col cs):b.own=true:=(Blk.ownC_spec h.own).1
theorem Upd.o' {b b':Blk} {row col:Nat} {cs:List Value} (h:Upd b b' row col cs):b'.own=true:=(Blk.ownC_spec h.own').1
theorem setCells_size (b:Nat):∀ (vs:List Value) (o:Nat) (w:World),(w.setCells b o vs).heap.size=w.heap.size
 | [],_,_=>rfl
 | v::r,o,w=>by rw [World.setCells,setCells_size b r]; simp [World.setCell]
theorem setCells_other (b:Nat):∀ (vs:List Value) (o:Nat) (w:World) (k:Nat),k≠b→(w.setCells b o vs).heap[k]?=w.heap[k]?
 | [],_,_,_,_=>rfl
 | v::r,o,w,k,hk=>by rw [World.setCells,setCells_other b r _ _ k hk]; exact Below.heap_setCell _ _ _ _ hk
theorem setCells_same (b:Nat):∀ (vs:List Value) (o:Nat) (w:World) (cur:Array Value) (t:TypeId),w.heap[b]?=some (.cells cur t (0,0)) →
  ∃ cur',(w.setCells b o vs).heap[b]?=some (.cells cur' t (0,0))∧cur'.size=cur.size
 | [],_,w,cur,t,h=>⟨cur,h,rfl⟩
 | v::r,o,w,cur,t,h=>by
  rw [World.setCells]
  have h1:(w.setCell ⟨b,o,none⟩ v).heap[b]?=some (.cells (cur.setIfInBounds o v) t (0,0)):=by
   simp [World.setCell,Array.getElem?_modify,h]
  obtain ⟨cur',h2,h3⟩:=setCells_same b r (o+1) _ _ t h1
  exact ⟨cur',h2,by rw [h3]; simp⟩
theorem setCells_os (b:Nat):∀ (vs:List Value) (o:Nat) (w:World),(w.setCells b o vs).os=w.os∧(w.setCells b o vs).tape=w.tape∧(w.setCells b o vs).output=w.output
 | [],_,_=>⟨rfl,rfl,rfl⟩
 | v::r,o,w=>by rw [World.setCells]; exact setCells_os b r _ _
/-- Cells of one's own, written over. -/
theorem HRel.store {ν:Nu} {H:Heap} {w:World} (h:HRel ν H w) {id:Nat} {b b':Blk} {l:Loc} (hb:H[id]?=some (some b)) (hl:ν id=some l) {row col:Nat} {cs cs':List Value}
  (hu:Upd b b' row col cs) (hr:LRel ν cs cs') (h1:∀ v∈cs,v.oneCell'=true) :
  HRel ν (H.set id (some b')) (w.setCells l.blk (l.base+row*l.esz+col) cs'):=by
 obtain ⟨l',hl',hB⟩:=h.blk id b hb
 rw [hl] at hl'; cases hl'
 have hid:id < H.length:=(List.getElem?_eq_some_iff.1 hb).1
 have hget:∀ j c,(H.set id (some b'))[j]?=some (some c)→(j=id∧c=b')∨(j≠id∧H[j]?=some (some c)):=by
  intro j c hj
  by_cases e:j=id
  ·subst e; rw [List.getElem?_set_self hid] at hj; cases hj; exact .inl ⟨rfl,rfl⟩
  ·rw [List.getElem?_set_ne (Ne.symm e)] at hj; exact .inr ⟨e,hj⟩
 have hesz:=hB.esz
 have hlen:=hB.len row hu.lt
 obtain ⟨cur,t,hcur,hcap,hncap⟩:=hB.own hu.o (Blk.ownC_spec hu.own).2
 have hcl:cs'.length=cs.length:=hr.1.symm
 -- the cells of other places
 have hout:∀ r j,r < b.n→j < b.esz→(r≠row∨j < col∨col+cs.length≤j)→(w.setCells l.blk (l.base+row*l.esz+col) cs').cell? (l.at r j)=w.cell? (l.at r j):=by
  intro r j hr' hj hne
  refine World.cell?_setCells_out l.blk _ _ _ _ (fun _ _=>?_)
  have hfit:=hu.fit
  rw [hlen] at hfit
  simp only [Loc.at,hesz,hcl]
  rcases Nat.lt_trichotomy r row with h | h | h
  ·left
   have:(r+1)*b.esz≤row*b.esz:=Nat.mul_le_mul_right _ h
   rw [Nat.add_mul] at this
   omega
  ·subst h
   rcases hne with hne | hne | hne
   ·exact absurd rfl hne
   ·left; omega
   ·right; omega
  ·right
   have:(row+1)*b.esz≤r*b.esz:=Nat.mul_le_mul_right _ h
   rw [Nat.add_mul] at this
   omega
 have hin:∀ j v,cs'[j]?=some v→(w.setCells l.blk (l.base+row*l.esz+col) cs').cell? (l.at row (col+j))=some v:=by
  intro j v hv
  have hj:j < cs'.length:=(List.getElem?_eq_some_iff.1 hv).1
  have hfit:=hu.fit
  have:=World.cell?_setCells_in l.blk cs' (l.base+row*l.esz+col) w (fun m hm=>by
   have hm':col+m < (b.row row).length:=by omega
   obtain ⟨u,hu1,_⟩:=hB.cell row hu.lt (col+m) _ (List.getElem?_eq_getElem hm')
   simp only [Loc.at] at hu1
   rw [show l.base+row*l.esz+col+m=l.base+row*l.esz+(col+m) by omega,hu1]; rfl) j hj
  simp only [Loc.at]
  rw [show l.base+row*l.esz+(col+j)=l.base+row*l.esz+col+j by omega,this]
  rw [← hv]
  simp
 refine ⟨fun j c hj=>?_,fun i j bi bj li lj hi hj hne ho e1 e2=>?_⟩
 ·rcases hget j c hj with ⟨rfl,rfl⟩ | ⟨hne,hj'⟩
  ·refine ⟨l,hl,⟨by rw [hu.esz]; exact hB.esz,fun q hq=>?_,fun q hq j v hv=>?_,fun hf q hq v hv=>?_,fun q hq v hv=>?_,fun _ _=>?_,(fun r h=>by rw [(Blk.ownC_spec hu.own').2] at h; cases h),?_⟩⟩
   ·rw [hu.n] at hq
    by_cases e:q=row
    ·subst e; rw [hu.len,hu.esz]; exact hlen
    ·rw [hu.oth q e,hu.esz]; exact hB.len q hq
   ·rw [hu.n] at hq
    by_cases e:q=row
    ·subst e
     by_cases hj:col≤j∧j < col+cs.length
     ·have hjc:j - col < cs.length:=by omega
      have:=hu.inn (j - col) _ (List.getElem?_eq_getElem hjc)
      rw [show col+(j - col)=j by omega,hv] at this
      cases this
      obtain ⟨v',h2,h3⟩:=hr.get (List.getElem?_eq_getElem hjc)
      have:=hin (j - col) v' h2
      rw [show col+(j - col)=j by omega] at this
      exact ⟨v',this,h3⟩
     ·have hv':=hu.out j (by omega)
      rw [hv'] at hv
      obtain ⟨v',h2,h3⟩:=hB.cell q hq j v hv
      have hj':j < b.esz:=by rw [← hlen]; exact (List.getElem?_eq_some_iff.1 hv).1
      exact ⟨v',by rw [hout q j hq hj' (.inr (by omega))]; exact h2,h3⟩
    ·rw [hu.oth q e] at hv
     obtain ⟨v',h2,h3⟩:=hB.cell q hq j v hv
     have hj':j < b.esz:=by rw [← hB.len q hq]; exact (List.getElem?_eq_some_iff.1 hv).1
     exact ⟨v',by rw [hout q j hq hj' (.inl e)]; exact h2,h3⟩
   ·rw [hu.n] at hq; rw [hu.flat] at hf
    by_cases e:q=row
    ·subst e
     obtain ⟨j,hj,rfl⟩:=List.getElem_of_mem hv
     by_cases hjc:col≤j∧j < col+cs.length
     ·have:=hu.inn (j - col) _ (List.getElem?_eq_getElem (by omega:j - col < cs.length))
      rw [show col+(j - col)=j by omega,List.getElem?_eq_getElem hj] at this
      injection this with this
      rw [this]
      exact hu.pl hf _ (List.getElem_mem _)
     ·have:=hu.out j (by omega)
      rw [List.getElem?_eq_getElem hj] at this
      exact hB.plain hf q hq _ (List.mem_of_getElem? this.symm)
    ·rw [hu.oth q e] at hv; exact hB.plain hf q hq v hv
   ·rw [hu.n] at hq
    by_cases e:q=row
    ·subst e
     obtain ⟨j,hj,rfl⟩:=List.getElem_of_mem hv
     by_cases hjc:col≤j∧j < col+cs.length
     ·have:=hu.inn (j - col) _ (List.getElem?_eq_getElem (by omega:j - col < cs.length))
      rw [show col+(j - col)=j by omega,List.getElem?_eq_getElem hj] at this
      injection this with this
      rw [this]
      exact h1 _ (List.getElem_mem _)
     ·have:=hu.out j (by omega)
      rw [List.getElem?_eq_getElem hj] at this
      exact hB.one q hq _ (List.mem_of_getElem? this.symm)
    ·rw [hu.oth q e] at hv; exact hB.one q hq v hv
   ·obtain ⟨cur',h2,h3⟩:=setCells_same l.blk cs' (l.base+row*l.esz+col) w cur t hcur
    exact ⟨cur',t,h2,by rw [h3]; exact hcap,by rw [hu.n]; exact hncap⟩
   ·rw [setCells_size]; exact hB.live
  ·obtain ⟨lj,hlj,hBj⟩:=h.blk j c hj'
   have hsep:=h.sep id j b c l lj hb hj' (Ne.symm hne) hu.o hl hlj
   exact ⟨lj,hlj,hBj.same (setCells_other _ _ _ _ _ (Ne.symm hsep)) (by rw [setCells_size]; exact Nat.le_refl _)⟩
 ·rcases hget i bi hi with ⟨rfl,rfl⟩ | ⟨hni,hi'⟩ <;> rcases hget j bj hj with ⟨rfl,rfl⟩ | ⟨hnj,hj'⟩
  ·exact absurd rfl hne
  ·exact h.sep _ j b bj li lj hb hj' hne hu.o e1 e2
  ·exact h.sep i _ bi b li lj hi' hb hne ho e1 e2
  ·exact h.sep i j bi bj li lj hi' hj' hne ho e1 e2
/-- A store: what the machine does, from the operands alone. -/
theorem store_core (hE:EnvOk P E) {o:Oper} {t:TypeId} {x y:Operand} (ho:o.op=.store t x y) {ν:Nu} {tmps ts:List Value} {H:Heap} {a b:Act} {w:World} (hi:SInv F ν ts H b w) {k:SK}
  (hx:OpRel ν tmps a x) (hy:OpRel ν tmps a y) (h:storeK E tmps H t x y k):∃ w' H',(execOp a.eval o).run P w=.ok .skip w'∧SInv F ν ts H' b w'∧k tmps H':=by
 obtain ⟨av,h2,hv⟩:=evalK_spec h hx
 clear h
 split at h2
 ·rename_i id row sp
  obtain ⟨v,h,hvv⟩:=evalK_spec h2 hy
  clear h2
  have h2:=cellsK_spec h
  clear h
  obtain ⟨ti,ht,h⟩:=tyK_spec h2
  clear h2
  split at h
  ·rename_i hok
   obtain ⟨hlen,hone⟩:=okCells_spec hok
   obtain ⟨bl,hb,h2⟩:=blkK_spec h
   clear h
   obtain ⟨b',hu,h⟩:=storeBlk_spec h2
   clear h2
   obtain ⟨hlt,h2⟩:=setB_spec h
   clear h
   obtain ⟨l,hl,he⟩:=hv.to_ptr
   obtain ⟨l',hl',hB⟩:=hi.hp.blk id bl hb
   rw [hl] at hl'; cases hl'
   have hc:=hvv.cells
   obtain ⟨cur,tt',hcur,hcap,hncap⟩:=hB.own hu.o (Blk.ownC_spec hu.own).2
   obtain ⟨i,hinf,his,_⟩:=(hE.ty _ _ ht).info
   have hone':∀ u∈(a.eval y).cells.toList,u.oneCell'=true:=by
    intro u hu'
    obtain ⟨j,hj,rfl⟩:=List.getElem_of_mem hu'
    have hj':j < v.cells.toList.length:=by rw [hc.1]; exact hj
    have:=hc.2 j _ _ (List.getElem?_eq_getElem hj') (List.getElem?_eq_getElem hj)
    rw [this.oneCell]; exact hone _ (List.getElem_mem _)
   have hst:(storeCells (l.at row (sp.getD 0)) (a.eval y).cells.toList).run P w=.ok () (w.setCells l.blk (l.base+row*l.esz+sp.getD 0) (a.eval y).cells.toList):=by
    have:=run_storeCells_cells (P:=P) l.blk (l.base+row*l.esz+sp.getD 0) (a.eval y).cells.toList 0 w (fun j hj=>by
     have hfit:=hu.fit
     rw [hc.1] at hfit
     obtain ⟨u,hu1,_⟩:=hB.cell row hu.lt (sp.getD 0+j) _ (List.getElem?_eq_getElem (by omega))
     simp only [Loc.at] at hu1
     rw [show l.base+row*l.esz+sp.getD 0+0+j=l.base+row*l.esz+(sp.getD 0+j) by omega,hu1]; rfl) (fun j hj=>by
     simp [World.frozen?,hcur]) hone'
    simpa [Loc.at] using this
   have hsz:(a.eval y).cells.size=i.size:=by rw [his,← hlen,hc.1]; simp
   have hrun:(execOp a.eval o).run P w=.ok .skip (w.setCells l.blk (l.base+row*l.esz+sp.getD 0) (a.eval y).cells.toList):=by
    simp [execOp,ho,Instr.storeAt,he,Instr.sureAddr,storeVar,run_sizeOf' hinf,hsz,hst]
   have hi':SInv F ν ts (H.set id (some b')) b (w.setCells l.blk (l.base+row*l.esz+sp.getD 0) (a.eval y).cells.toList):=by
    obtain ⟨o1,o2,o3⟩:=setCells_os l.blk (a.eval y).cells.toList (l.base+row*l.esz+sp.getD 0) w
    refine ⟨hi.tm,hi.df.turn hcur (fun q hq=>setCells_other _ _ _ _ _ hq),hi.hp.store hb hl hu hc hone,fun j hj=>hi.fr j (by simpa using hj),⟨o1.trans hi.kp.os,o2.trans hi.kp.tape,o3.trans hi.kp.output,by rw [setCells_size]; exact hi.kp.size,fun q h1 h2=>?_⟩,fun j c lc hj hoc hlc=>?_,hi.mono⟩
    ·rw [setCells_other]
     ·exact hi.kp.blk q h1 h2
     ·intro e
      subst e
      rcases hi.own id bl l hb hu.o hl with h | h
      ·exact h2 h
      ·omega
    ·by_cases e:j=id
     ·subst e
      rw [hl] at hlc; cases hlc
      exact hi.own j bl l hb hu.o hl
     ·rw [List.getElem?_set_ne (Ne.symm e)] at hj
      exact hi.own j c lc hj hoc hlc
   exact ⟨_,_,hrun,hi',h2⟩
  ·exact h.elim
 ·exact h2.elim
/-- A store. -/
theorem store_sound (hE:EnvOk P E) {o:Oper} {t:TypeId} {x y:Operand} (ho:o.op=.store t x y) {ν:Nu} {tmps:List Value} {H:Heap} {a:Act} {w:World} (hi:SInv F ν tmps H a w) {k:SK}
  (h:storeK E tmps H t x y fun t' H'=>dstK t' o.dst undef fun t''=>k t'' H') {next:Act→World→Prop} {Q:Exit→Act→World→Prop}
  (hk:∀ ν t' H' a' w',SInv F ν t' H' a' w'→k t' H'→next a' w'):o.wpIn (WF r) n P a w next Q:=by
 obtain ⟨w',H',hrun,hi',h2⟩:=store_core hE ho hi (hi.opRel x) (hi.opRel y) h
 obtain ⟨t',hk',hi''⟩:=hi'.dst (.undef ν) h2
 refine ⟨fun _ _=>trivial,?_⟩
 rw [Oper.semAt_eq _ _ _ (by simp [ho]),hrun]
 exact hk _ _ _ _ _ hi'' hk'
end
end Go.Ae
/- A block laid anew: what speaks of its old place is dead. -/
namespace Go.Ae
open Go Go.RowKit
/-- Whether a value speaks of a block. -/
def mentV (id:Nat):Nat→Value→Bool
 | 0,_=>true
 | k+1,v=>match v with
  | .bool _ | .int _ _ | .string _ | .pointer none | .slice none _ _ | .nilFunc | .chan none=>false
  | .pointer (some ⟨j,_,_⟩)=>Nat.beq j id
  | .slice (some ⟨j,_,_⟩) _ _=>Nat.beq j id
  | .func _ ⟨l⟩ ⟨m⟩=>l.foldr (fun v acc=>mentV id k v || acc) false || m.foldr (fun v acc=>mentV id k v || acc) false
  | .agg ⟨l⟩=>l.foldr (fun v acc=>mentV id k v || acc) false
  | .tuple ⟨l⟩=>l.foldr (fun v acc=>mentV id k v || acc) false
  | _=>true
def mentL (id k:Nat) (l:List Value):Bool:=l.foldr (fun v acc=>mentV id k v || acc) false
theorem mentL_spec {id k:Nat}:∀ {l:List Value},mentL id k l=false→∀ v∈l,mentV id k v=false
 | [],_,v,hv=>by simp at hv
 | x::l,h,v,hv=>by
  simp only [mentL,List.foldr_cons,Bool.or_eq_false_iff] at h
  rcases List.mem_cons.1 hv with e | e
  ·rw [e]; exact h.1
  ·exact mentL_spec (l:=l) h.2 v e
def Nu.off (ν ν':Nu) (id:Nat):Prop:=∀ j,j≠id→ν' j=ν j
theorem LRel.map {ν ν':Nu} {xs ys:List Value} (h:LRel ν xs ys) (hm:∀ v∈xs,∀ r,VRel ν v r→VRel ν' v r):LRel ν' xs ys :=
 ⟨h.1,fun i x y hx hy=>hm x (List.mem_of_getElem? hx) y (h.2 i x y hx hy)⟩
theorem mentV_false {id:Nat} {ν ν':Nu} (hoff:ν.off ν' id):∀ (k:Nat) (v r:Value),mentV id k v=false→VRel ν v r→VRel ν' v r:=by
 intro k
 induction k with
 | zero=>intro v r h; simp [mentV] at h
 | succ k ih =>
  intro v r h hr
  cases hr with
  | bool b=>exact .bool b
  | int q n=>exact .int q n
  | str s=>exact .str s
  | pnil=>exact .pnil
  | ptr j row sp l hl=>exact .ptr j row sp l (by rw [hoff j (Nat.ne_of_beq_eq_false h)]; exact hl)
  | snil=>exact .snil
  | slice j row n c c' l hl hc hn hr=>exact .slice j row n c c' l (by rw [hoff j (Nat.ne_of_beq_eq_false h)]; exact hl) hc hn hr
  | void j row c a hc=>exact .void j row c a hc
  | lim j row m n c' l hl hm hn hr=>exact .lim j row m n c' l (by rw [hoff j (Nat.ne_of_beq_eq_false h)]; exact hl) hm hn hr
  | limz j row a=>exact .limz j row a
  | fnil=>exact .fnil
  | func fn xs ys xs' ys' h1 h2 h3 h4 =>
   have h:(mentL id k xs || mentL id k xs')=false:=h
   rw [Bool.or_eq_false_iff] at h
   have a1:=LRel.map (ν':=ν') ⟨h1,h2⟩ (fun v hv r hr=>ih v r (mentL_spec h.1 v hv) hr)
   have a2:=LRel.map (ν':=ν') ⟨h3,h4⟩ (fun v hv r hr=>ih v r (mentL_spec h.2 v hv) hr)
   exact .func fn _ _ _ _ a1.1 a1.2 a2.1 a2.2
  | agg xs ys h1 h2 =>
   have h:mentL id k xs=false:=h
   have a1:=LRel.map (ν':=ν') ⟨h1,h2⟩ (fun v hv r hr=>ih v r (mentL_spec h v hv) hr)
   exact .agg _ _ a1.1 a1.2
  | tuple xs ys h1 h2 =>
   have h:mentL id k xs=false:=h
   have a1:=LRel.map (ν':=ν') ⟨h1,h2⟩ (fun v hv r hr=>ih v r (mentL_spec h v hv) hr)
   exact .tuple _ _ a1.1 a1.2
  | dead=>exact .dead _ (by assumption)
/-- The value without what speaks of the block. -/
def killV (id:Nat):Nat→Value→Option Value
 | 0,_=>none
 | k+1,v=>match mentV id 3 v with
  | false=>some v
  | true=>match v.oneCell' with
   | true=>some (.chan none)
   | false=>match v with
    | .agg ⟨l⟩=>match l.foldr (fun v acc=>match killV id k v,acc with | some x,some xs=>some (x::xs) | _,_=>none) (some []) with | some l'=>some (.agg ⟨l'⟩) | none=>none
    | .tuple ⟨l⟩=>match l.foldr (fun v acc=>match killV id k v,acc with | some x,some xs=>some (x::xs) | _,_=>none) (some []) with | some l'=>some (.tuple ⟨l'⟩) | none=>none
    | _=>none
def killL (id k:Nat) (l:List Value):Option (List Value):=l.foldr (fun v acc=>match killV id k v,acc with | some x,some xs=>some (x::xs) | _,_=>none) (some [])
theorem killL_cons {id m:Nat} {x:Value} {xs l:List Value} (h:killL id m (x::xs)=some l):∃ y ys,l=y::ys∧killV id m x=some y∧killL id m xs=some ys:=by
 unfold killL at h
 rw [List.foldr_cons] at h
 split at h
 ·rename_i y ys h1 h2
  exact ⟨y,ys,(Option.some.inj h).symm,h1,h2⟩
 ·cases h
theorem killL_rel {id m:Nat} {ν ν':Nu} (h:∀ v v2 r,killV id m v=some v2→VRel ν v r→VRel ν' v2 r):∀ {xs l rs:List Value},killL id m xs=some l→LRel ν xs rs→LRel ν' l rs
 | [],l,rs,h1,h2=>by
  have:l=[]:=by simp [killL] at h1; exact h1
  rw [this,h2.nil_inv]; exact .nil _
 | x::xs,l,rs,h1,h2=>by
  obtain ⟨y,ys,rfl,e1,e2⟩:=killL_cons h1
  obtain ⟨r,rs',rfl,k1,k2⟩:=h2.uncons
  exact .cons (h _ _ _ e1 k1) (killL_rel h e2 k2)
theorem killV_rel {id:Nat} {ν ν':Nu} (hoff:ν.off ν' id):∀ (m:Nat) (v v2 r:Value),killV id m v=some v2→VRel ν v r→VRel ν' v2 r:=by
 intro m
 induction m with
 | zero=>intro v v2 r h; simp [killV] at h
 | succ m ih =>
  intro v v2 r h hr
  unfold killV at h
  split at h
  ·rename_i hm
   cases h
   exact mentV_false hoff 3 v r hm hr
  ·split at h
   ·rename_i h1
    cases h
    exact .dead _ (by rw [hr.oneCell]; exact h1)
   ·split at h
    ·split at h
     ·rename_i l l' e
      cases h
      obtain ⟨ys,rfl,hy⟩:=hr.to_agg
      have:=killL_rel (ih) e hy
      exact .agg _ _ this.1 this.2
     ·cases h
    ·split at h
     ·rename_i l l' e
      cases h
      obtain ⟨ys,rfl,hy⟩:=hr.to_tuple
      have:=killL_rel (ih) e hy
      exact .tuple _ _ this.1 this.2
     ·cases h
    ·cases h
def optL {α:Type} (o:Option α) (k:α→Prop):Prop:=match o with | some a=>k a | none=>False
theorem optL_spec {α:Type} {o:Option α} {k:α→Prop} (h:optL o k):∃ a,o=some a∧k a:=by
 unfold optL at h; split at h
 ·exact ⟨_,rfl,h⟩
 ·exact h.elim
theorem list_choose {P:Value→Value→Prop}:∀ {ys:List Value},(∀ y∈ys,∃ x,P x y)→∃ xs:List Value,xs.length=ys.length∧∀ (i:Nat) x y,xs[i]?=some x→ys[i]?=some y→P x y
 | [],_=>⟨[],rfl,fun i x y hx=>by simp at hx⟩
 | y::ys,h=>by
  obtain ⟨x,hx⟩:=h y (by simp)
  obtain ⟨xs,h1,h2⟩:=list_choose (ys:=ys) (fun z hz=>h z (by simp [hz]))
  refine ⟨x::xs,by simp [h1],fun i a b ha hb=>?_⟩
  cases i with
  | zero=>simp at ha hb; subst ha; subst hb; exact hx
  | succ i=>exact h2 i a b (by simpa using ha) (by simpa using hb)
/-- What stands for a value under any numbering. -/
theorem VRel.any {ν:Nu} {v r:Value} (h:VRel ν v r):∃ x,∀ ν',VRel ν' x r:=by
 induction h with
 | agg xs ys h1 _ ih =>
  obtain ⟨zs,e1,e2⟩:=list_choose (P:=fun x y=>∀ ν',VRel ν' x y) (ys:=ys) (fun y hy=>by
   obtain ⟨i,hi,rfl⟩:=List.getElem_of_mem hy
   exact ih i _ _ (List.getElem?_eq_getElem (h1 ▸ hi)) (List.getElem?_eq_getElem hi))
  exact ⟨.agg ⟨zs⟩,fun ν'=>.agg _ _ e1 (fun i x y hx hy=>e2 i x y hx hy ν')⟩
 | tuple xs ys h1 _ ih =>
  obtain ⟨zs,e1,e2⟩:=list_choose (P:=fun x y=>∀ ν',VRel ν' x y) (ys:=ys) (fun y hy=>by
   obtain ⟨i,hi,rfl⟩:=List.getElem_of_mem hy
   exact ih i _ _ (List.getElem?_eq_getElem (h1 ▸ hi)) (List.getElem?_eq_getElem hi))
  exact ⟨.tuple ⟨zs⟩,fun ν'=>.tuple _ _ e1 (fun i x y hx hy=>e2 i x y hx hy ν')⟩
 | dead w hw=>exact ⟨.chan none,fun ν'=>.dead w hw⟩
 | _=>exact ⟨.chan none,fun ν'=>.dead _ rfl⟩
def inB (i:Nat):List Nat→Bool
 | []=>false
 | a::l=>match Nat.beq a i with
  | true=>true
  | false=>inB i l
/-- The slots: those that are kept, without what speaks of the block; the others hold what 'a' says. -/
def killT (a:Nat→Value) (id:Nat) (keep:List Nat):Nat→List Value→(List Value→Prop)→Prop
 | _,[],k=>k []
 | i,v::l,k=>match inB i keep with
  | true=>optL (killV id 3 v) fun v'=>killT a id keep (i+1) l fun l'=>k (v'::l')
  | false=>killT a id keep (i+1) l fun l'=>k (a i::l')
theorem any_fun {ν:Nu} {t r:List Value} (h:LRel ν t r):∃ a:Nat→Value,∀ (j:Nat) (y:Value),r[j]?=some y→∀ ν',VRel ν' (a j) y:=by
 have hx:∀ j:Nat,∃ x:Value,∀ y:Value,r[j]?=some y→∀ ν',VRel ν' x y:=by
  intro j
  cases hj:r[j]? with
  | none=>exact ⟨undef,fun y hy=>by simp at hy⟩
  | some y =>
   have hlt:j < t.length:=by
    rw [h.1]
    exact (List.getElem?_eq_some_iff.1 hj).1
   obtain ⟨x,hx⟩:=(h.2 j t[j] y (List.getElem?_eq_getElem hlt) hj).any
   exact ⟨x,fun y' hy=>by cases hy; exact hx⟩
 exact ⟨fun j=>Classical.choose (hx j),fun j y hy=>Classical.choose_spec (hx j) y hy⟩
theorem any_tail {a:Nat→Value} {i:Nat} {y:Value} {ys:List Value} (h:∀ (j:Nat) (z:Value),(y::ys)[j]?=some z→∀ ν':Nu,VRel ν' (a (i+j)) z) :
  (∀ ν':Nu,VRel ν' (a i) y)∧∀ (j:Nat) (z:Value),ys[j]?=some z→∀ ν':Nu,VRel ν' (a (i+1+j)) z:=by
 refine ⟨fun ν'=>h 0 y rfl ν',fun j z hz ν'=>?_⟩
 have:=h (j+1) z (by simpa using hz) ν'
 rw [show i+1+j=i+(j+1) by omega]
 exact this
theorem killT_spec {a:Nat→Value} {id:Nat} {keep:List Nat}:∀ {t:List Value} {i:Nat} {k:List Value→Prop},killT a id keep i t k→∀ (ν:Nu) r,LRel ν t r→(∀ (j:Nat) (y:Value),r[j]?=some y→∀ ν':Nu,VRel ν' (a (i+j)) y)→∃ t',k t'∧∀ ν',ν.off ν' id→LRel ν' t' r
 | [],i,k,h,ν,r,hr,ha=>⟨[],h,fun ν' _=>by rw [hr.nil_inv]; exact .nil _⟩
 | v::l,i,k,h,ν,r,hr,ha=>by
  obtain ⟨y,ys,rfl,h1,h2⟩:=hr.uncons
  obtain ⟨hx,ha⟩:=any_tail ha
  unfold killT at h
  split at h
  ·obtain ⟨v',e,h⟩:=optL_spec h
   obtain ⟨l',h3,h4⟩:=killT_spec h ν ys h2 ha
   exact ⟨_,h3,fun ν' ho=>.cons (killV_rel ho 3 _ _ _ e h1) (h4 ν' ho)⟩
  ·obtain ⟨l',h3,h4⟩:=killT_spec h ν ys h2 ha
   exact ⟨_,h3,fun ν' ho=>.cons (hx _) (h4 ν' ho)⟩
/-- A cell of a row. -/
def killC (id:Nat) (v:Value):Value:=match mentV id 3 v with | false=>v | true=>.chan none
def killRows (id:Nat):List (List Value)→(List (List Value)→Prop)→Prop
 | [],k=>k []
 | r::l,k=>killRows id l fun l'=>k (r.map (killC id)::l')
theorem killRows_spec {id:Nat}:∀ {l:List (List Value)} {k:List (List Value)→Prop},killRows id l k→k (l.map fun r=>r.map (killC id))
 | [],k,h=>h
 | r::l,k,h=>by have:=killRows_spec (l:=l) h; simpa using this
def mentR (id:Nat):List (List Value)→Bool
 | []=>false
 | r::l=>mentL id 3 r || mentR id l
theorem mentR_spec {id:Nat}:∀ {l:List (List Value)},mentR id l=false→∀ r∈l,mentL id 3 r=false
 | [],_,v,hv=>by simp at hv
 | x::l,h,v,hv=>by
  simp only [mentR,Bool.or_eq_false_iff] at h
  rcases List.mem_cons.1 hv with e | e
  ·rw [e]; exact h.1
  ·exact mentR_spec (l:=l) h.2 v e
def killB (id:Nat) (b:Blk) (k:Blk→Prop):Prop :=
 match b with
 | .flat o n e g=>k (.flat o n e g)
 | .expl o e rows=>match mentR id rows with
  | false=>k (.expl o e rows)
  | true=>killRows id rows fun rows'=>k (.expl o e rows')
 | .lrec r=>k (.lrec r)
theorem killB_spec {id:Nat} {b:Blk} {k:Blk→Prop} (h:killB id b k):∃ b',k b'∧b'.own=b.own∧∀ (ν ν':Nu) (l:Loc) (w:World),ν.off ν' id→BRel ν l b w→BRel ν' l b' w:=by
 cases b with
 | flat o n e g =>
  exact ⟨_,h,rfl,fun ν ν' l w ho hB=>⟨hB.esz,hB.len,fun r hr j v hv=>by
   obtain ⟨v',h1,h2⟩:=hB.cell r hr j v hv
   have:=hB.plain rfl r hr v (List.mem_of_getElem? hv)
   rw [h2.of_scal this] at h1
   exact ⟨v,h1,VRel.scal_self this⟩,hB.plain,hB.one,hB.own,hB.lr,hB.live⟩⟩
 | lrec r =>
  exact ⟨_,h,rfl,fun ν ν' l w ho hB=>⟨hB.esz,fun r hr=>absurd hr (Nat.not_lt_zero r),fun r hr=>absurd hr (Nat.not_lt_zero r),(fun h=>nomatch h),fun r hr=>absurd hr (Nat.not_lt_zero r),fun _ h=>(nomatch h),hB.lr,hB.live⟩⟩
 | expl o e rows =>
  have h:(match mentR id rows with
   | false=>k (.expl o e rows)
   | true=>killRows id rows fun rows'=>k (.expl o e rows')):=h
  split at h
  ·rename_i hm
   exact ⟨_,h,rfl,fun ν ν' l w ho hB=>⟨hB.esz,hB.len,fun r hr j v hv=>by
    obtain ⟨v',h1,h2⟩:=hB.cell r hr j v hv
    refine ⟨v',h1,mentV_false ho 3 v v' ?_ h2⟩
    have hr':r < rows.length:=hr
    simp only [Blk.row,List.getD,List.getElem?_eq_getElem hr',Option.getD_some] at hv
    exact mentL_spec (mentR_spec hm _ (List.getElem_mem _)) v (List.mem_of_getElem? hv),hB.plain,hB.one,hB.own,hB.lr,hB.live⟩⟩
  ·rename_i hm
   have h:=killRows_spec h
   have hrow:∀ r,(Blk.expl o e (rows.map fun r=>r.map (killC id))).row r=((Blk.expl o e rows).row r).map (killC id):=by
    intro r
    simp only [Blk.row,List.getD,List.getElem?_map]
    cases rows[r]? <;> rfl
   have h1c:∀ v,v.oneCell'=true→(killC id v).oneCell'=true:=by
    intro v hv
    unfold killC
    split
    ·exact hv
    ·rfl
   refine ⟨_,h,rfl,fun ν ν' l w ho hB=>⟨hB.esz,fun r hr=>?_,fun r hr j v hv=>?_,fun h=>by simp [Blk.isFlat] at h,fun r hr v hv=>?_,fun h _=>?_,(fun r h=>nomatch h),hB.live⟩⟩
   ·have hr:r < (Blk.expl o e rows).n:=by simpa [Blk.n] using hr
    rw [hrow,List.length_map]; exact hB.len r hr
   ·have hr:r < (Blk.expl o e rows).n:=by simpa [Blk.n] using hr
    rw [hrow,List.getElem?_map] at hv
    cases hx:((Blk.expl o e rows).row r)[j]? with
    | none=>rw [hx] at hv; cases hv
    | some x =>
     rw [hx] at hv
     cases hv
     obtain ⟨v',h1,h2⟩:=hB.cell r hr j x hx
     refine ⟨v',h1,?_⟩
     unfold killC
     split
     ·rename_i hmv; exact mentV_false ho 3 x v' hmv h2
     ·exact .dead _ (by rw [h2.oneCell]; exact hB.one r hr x (List.mem_of_getElem? hx))
   ·have hr:r < (Blk.expl o e rows).n:=by simpa [Blk.n] using hr
    rw [hrow] at hv
    obtain ⟨x,hx,rfl⟩:=List.mem_map.1 hv
    exact h1c x (hB.one r hr x hx)
   ·obtain ⟨cur,t,q1,q2,q3⟩:=hB.own h rfl
    exact ⟨cur,t,q1,q2,by simpa [Blk.n] using q3⟩
/-- The heap. -/
def killH (id:Nat):Heap→(Heap→Prop)→Prop
 | [],k=>k []
 | none::H,k=>killH id H fun H'=>k (none::H')
 | some b::H,k=>killB id b fun b'=>killH id H fun H'=>k (some b'::H')
theorem killH_spec {id:Nat}:∀ {H:Heap} {k:Heap→Prop},killH id H k→∃ H',k H'∧H'.length=H.length∧∀ (j:Nat) (b':Blk),H'[j]?=some (some b')→∃ b,H[j]?=some (some b)∧b'.own=b.own ∧
  ∀ (ν ν':Nu) (l:Loc) (w:World),ν.off ν' id→BRel ν l b w→BRel ν' l b' w
 | [],k,h=>⟨[],h,rfl,fun j b' hj=>by simp at hj⟩
 | none::H,k,h=>by
  obtain ⟨H',h1,h2,h3⟩:=killH_spec (H:=H) h
  refine ⟨_,h1,by simp [h2],fun j b' hj=>?_⟩
  cases j with
  | zero=>simp at hj
  | succ j=>exact h3 j b' (by simpa using hj)
 | some b::H,k,h=>by
  obtain ⟨b1,h,hb⟩:=killB_spec h
  obtain ⟨H',h1,h2,h3⟩:=killH_spec (H:=H) h
  refine ⟨_,h1,by simp [h2],fun j b' hj=>?_⟩
  cases j with
  | zero=>simp at hj; subst hj; exact ⟨b,rfl,hb⟩
  | succ j=>exact h3 j b' (by simpa using hj)
end Go.Ae
/- 'append' upon the abstract heap; functions that work upon the heap. -/
namespace Go.Ae
open Go Go.RowKit
/-- Rows g, m of them, and the real cells. -/
structure CR (ν:Nu) (esz:Nat) (g:Nat→List Value) (m:Nat) (L:List Value):Prop where
 len:L.length=m*esz
 row:∀ r,r < m→(g r).length=esz
 cell:∀ r,r < m→∀ (j:Nat) v,(g r)[j]?=some v→∃ v',L[r*esz+j]?=some v'∧VRel ν v v'
 one:∀ u∈L,u.oneCell'=true
 one':∀ r,r < m→∀ v∈g r,v.oneCell'=true
def appGet (g:Nat→List Value) (n:Nat) (h:Nat→List Value):Nat→List Value:=fun j=>bif Nat.blt j n then g j else h (j - n)
theorem appGet_lo {g h:Nat→List Value} {n j:Nat} (hj:j < n):appGet g n h j=g j:=by
 have:Nat.blt j n=true:=by rw [Nat.blt_eq]; exact hj
 simp [appGet,this]
theorem appGet_hi {g h:Nat→List Value} {n j:Nat} (hj:n≤j):appGet g n h j=h (j - n):=by
 have:Nat.blt j n=false:=by
  cases h:Nat.blt j n with
  | false=>rfl
  | true=>rw [Nat.blt_eq] at h; omega
 simp [appGet,this]
theorem CR.append {ν:Nu} {esz n m:Nat} {g h:Nat→List Value} {L M:List Value} (a:CR ν esz g n L) (b:CR ν esz h m M):CR ν esz (appGet g n h) (n+m) (L++M):=by
 refine ⟨by rw [List.length_append,a.len,b.len,Nat.add_mul],fun r hr=>?_,fun r hr j v hv=>?_,fun u hu=>?_,fun r hr v hv=>?_⟩
 ·by_cases h:r < n
  ·rw [appGet_lo h]; exact a.row r h
  ·rw [appGet_hi (by omega)]; exact b.row _ (by omega)
 ·by_cases h:r < n
  ·rw [appGet_lo h] at hv
   obtain ⟨v',h1,h2⟩:=a.cell r h j v hv
   exact ⟨v',by rw [List.getElem?_append_left (List.getElem?_eq_some_iff.1 h1).1]; exact h1,h2⟩
  ·rw [appGet_hi (by omega)] at hv
   obtain ⟨v',h1,h2⟩:=b.cell (r - n) (by omega) j v hv
   refine ⟨v',?_,h2⟩
   have e:r*esz+j=L.length+((r - n)*esz+j):=by
    rw [a.len]
    have:r*esz=n*esz+(r - n)*esz:=by rw [← Nat.add_mul]; congr 1; omega
    omega
   rw [e,List.getElem?_append_right (by omega),Nat.add_sub_cancel_left]; exact h1
 ·rcases List.mem_append.1 hu with h | h
  ·exact a.one u h
  ·exact b.one u h
 ·by_cases h:r < n
  ·rw [appGet_lo h] at hv; exact a.one' r h v hv
  ·rw [appGet_hi (by omega)] at hv; exact b.one' _ (by omega) v hv
theorem CR.nil (ν:Nu) (esz:Nat) (g:Nat→List Value):CR ν esz g 0 [] :=
 ⟨by simp,fun r hr=>absurd hr (by omega),fun r hr=>absurd hr (by omega),fun u hu=>by simp at hu,fun r hr=>absurd hr (by omega)⟩
theorem CR.mono {ν ν':Nu} {esz m:Nat} {g:Nat→List Value} {L:List Value} (h:CR ν esz g m L) (hle:ν.le ν'):CR ν' esz g m L :=
 ⟨h.len,h.row,fun r hr j v hv=>let ⟨v',h1,h2⟩:=h.cell r hr j v hv; ⟨v',h1,h2.mono hle⟩,h.one,h.one'⟩
theorem CR.congr {ν:Nu} {esz m:Nat} {g g':Nat→List Value} {L:List Value} (h:CR ν esz g m L) (hg:∀ r,r < m→g' r=g r):CR ν esz g' m L :=
 ⟨h.len,fun r hr=>by rw [hg r hr]; exact h.row r hr,fun r hr j v hv=>h.cell r hr j v (by rw [← hg r hr]; exact hv),h.one,fun r hr v hv=>h.one' r hr v (by rw [← hg r hr]; exact hv)⟩
/-- A stretch of a block, read. -/
theorem CR.of_blk {ν:Nu} {l:Loc} {b:Blk} {w:World} (hB:BRel ν l b w) {row m:Nat} (hm:row+m≤b.n):∃ L,CR ν b.esz (fun j=>b.row (row+j)) m L∧∀ (j:Nat) u,L[j]?=some u→w.cell? ((l.at row 0).add j)=some u:=by
 have key:∀ q,q < m*b.esz→∃ r j v v',r < m∧j < b.esz∧q=r*b.esz+j∧(b.row (row+r))[j]?=some v∧w.cell? ((l.at row 0).add q)=some v'∧VRel ν v v'∧v'.oneCell'=true:=by
  intro q hq
  have he:0 < b.esz:=by
   rcases Nat.eq_zero_or_pos b.esz with h | h
   ·rw [h] at hq; omega
   ·exact h
  have hr:q / b.esz < m:=(Nat.div_lt_iff_lt_mul he).2 hq
  have hj:q % b.esz < b.esz:=Nat.mod_lt _ he
  have hlen:=hB.len (row+q / b.esz) (by omega)
  have hv:(b.row (row+q / b.esz))[q % b.esz]?=some _:=List.getElem?_eq_getElem (by omega)
  obtain ⟨v',h1,h2⟩:=hB.cell (row+q / b.esz) (by omega) _ _ hv
  refine ⟨q / b.esz,q % b.esz,_,v',hr,hj,by rw [Nat.mul_comm,Nat.div_add_mod],hv,?_,h2,by rw [h2.oneCell]; exact hB.one _ (by omega) _ (List.getElem_mem _)⟩
  rw [Loc.at_add,← h1]
  unfold Loc.at
  congr 2
  rw [hB.esz,Nat.add_mul]
  have:=Nat.div_add_mod q b.esz
  rw [Nat.mul_comm] at this
  omega
 let L:=(List.range (m*b.esz)).map fun q=>(w.cell? ((l.at row 0).add q)).getD undef
 have hget:∀ q,q < m*b.esz→L[q]?=some ((w.cell? ((l.at row 0).add q)).getD undef):=by
  intro q hq
  simp only [L,List.getElem?_map,List.getElem?_range hq,Option.map_some]
 have hL:L.length=m*b.esz:=by simp [L]
 refine ⟨L,⟨hL,fun r hr=>hB.len _ (by omega),fun r hr j v hv=>?_,fun u hu=>?_,fun r hr v hv=>hB.one _ (by omega) v hv⟩,fun j u hu=>?_⟩
 ·have hj:j < b.esz:=by rw [← hB.len (row+r) (by omega)]; exact (List.getElem?_eq_some_iff.1 hv).1
  have hq:r*b.esz+j < m*b.esz:=by
   have:(r+1)*b.esz≤m*b.esz:=Nat.mul_le_mul_right _ hr
   rw [Nat.add_mul] at this; omega
  obtain ⟨v',h1,h2⟩:=hB.cell (row+r) (by omega) j v hv
  refine ⟨v',?_,h2⟩
  have e:(l.at row 0).add (r*b.esz+j)=l.at (row+r) j:=by
   rw [Loc.at_add]; unfold Loc.at; congr 1; rw [hB.esz,Nat.add_mul]; omega
  rw [hget _ hq,e,h1]; rfl
 ·obtain ⟨q,hq,rfl⟩:=List.getElem_of_mem hu
  rw [hL] at hq
  obtain ⟨r,j,v,v',_,_,_,_,h1,_,h2⟩:=key q hq
  have:=hget q hq
  rw [h1] at this
  have e:=List.getElem?_eq_getElem (l:=L) (i:=q) (by omega)
  rw [this] at e
  rw [← Option.some.inj e]; exact h2
 ·have hj:j < m*b.esz:=by rw [← hL]; exact (List.getElem?_eq_some_iff.1 hu).1
  obtain ⟨r,q,v,v',_,_,_,_,h1,_,h2⟩:=key j hj
  rw [hget j hj,h1] at hu
  rw [h1,← hu]; rfl
/-- A block over cells that hold its rows. -/
theorem brel_cr {ν:Nu} {esz N cap blk:Nat} {g:Nat→List Value} {L:List Value} {b':Blk} (hC:CR ν esz g N L) (hrow:∀ r,r < N→b'.row r=g r) (hn:b'.n=N) (he:b'.esz=esz)
  (hf:b'.isFlat=true→∀ r,r < N→∀ v∈g r,scal v=true) {w':World} {C:Array Value} {t:TypeId} (hw:w'.heap[blk]?=some (.cells C t (0,0))) (hCL:∀ q,q < L.length→C[q]?=L[q]?)
  (hcap:N≤cap) (hsz:cap*esz≤C.size) (hrc:b'.rc=none):BRel ν ⟨blk,0,esz,cap⟩ b' w':=by
 have hlive:blk < w'.heap.size:=(Array.getElem?_eq_some_iff.1 hw).1
 refine ⟨he.symm,fun r hr=>?_,fun r hr j v hv=>?_,fun h r hr v hv=>?_,fun r hr v hv=>?_,fun _ _=>⟨C,t,hw,by simpa using hsz,by rw [hn]; exact hcap⟩,(fun r h=>by rw [hrc] at h; cases h),hlive⟩
 ·rw [hn] at hr; rw [hrow r hr,he]; exact hC.row r hr
 ·rw [hn] at hr; rw [hrow r hr] at hv
  obtain ⟨v',h1,h2⟩:=hC.cell r hr j v hv
  refine ⟨v',?_,h2⟩
  simp only [Loc.at,World.cell?,Nat.zero_add]
  rw [hw]
  simp only [Option.isSome_none,Bool.false_eq_true,if_false]
  rw [hCL _ (List.getElem?_eq_some_iff.1 h1).1]; exact h1
 ·rw [hn] at hr; rw [hrow r hr] at hv; exact hf h r hr v hv
 ·rw [hn] at hr; rw [hrow r hr] at hv; exact hC.one' r hr v hv
/-- One block turned, the others as they were. -/
theorem HRel.turn {ν ν':Nu} {H H':Heap} {w w':World} (h:HRel ν H w) {id:Nat} (hoff:ν.off ν' id)
  (ho:∀ (j:Nat) (b':Blk),H'[j]?=some (some b')→j≠id→∃ b,H[j]?=some (some b)∧b'.own=b.own∧∀ l,ν j=some l→BRel ν l b w→BRel ν' l b' w')
  (hid:∀ b',H'[id]?=some (some b')→∃ l,ν' id=some l∧BRel ν' l b' w'∧∀ j lj bj,j≠id→H[j]?=some (some bj)→ν j=some lj→lj.blk≠l.blk):HRel ν' H' w':=by
 refine ⟨fun j b' hj=>?_,fun i j bi bj li lj hi hj hne hio h1 h2=>?_⟩
 ·by_cases e:j=id
  ·subst e; obtain ⟨l,h1,h2,_⟩:=hid b' hj; exact ⟨l,h1,h2⟩
  ·obtain ⟨b,h1,_,h2⟩:=ho j b' hj e
   obtain ⟨l,h3,h4⟩:=h.blk j b h1
   exact ⟨l,by rw [hoff j e]; exact h3,h2 l h3 h4⟩
 ·by_cases ei:i=id
  ·subst ei
   obtain ⟨l,e1,_,e2⟩:=hid bi hi
   rw [h1] at e1; cases e1
   obtain ⟨b,e3,_,_⟩:=ho j bj hj (Ne.symm hne)
   rw [hoff j (Ne.symm hne)] at h2
   exact Ne.symm (e2 j lj b (Ne.symm hne) e3 h2)
  ·obtain ⟨b,e3,e4,_⟩:=ho i bi hi ei
   rw [hoff i ei] at h1
   by_cases ej:j=id
   ·subst ej
    obtain ⟨l,e1,_,e2⟩:=hid bj hj
    rw [h2] at e1; cases e1
    exact e2 i li b ei e3 h1
   ·obtain ⟨c,e5,_,_⟩:=ho j bj hj ej
    rw [hoff j ej] at h2
    exact h.sep i j b c li lj e3 e5 hne (by rw [← e4]; exact hio) h1 h2
section
variable {P:Program} {w:World}
theorem run_app_in {t ty e:TypeId} {i:TypeInfo} (ht:P.underlying t=some (.slice e)) (hi:P.info? e=some i) {A oy:Option Addr} {n c m cy:Nat} {L:List Value} (hl:L.length=m*i.size)
  (hL:∀ a,oy=some a→∀ (j:Nat) u,L[j]?=some u→w.cell? (a.add j)=some u) (hn:oy=none→m=0) (hroom:n+m≤c) {w2:World}
  (hst:∀ a,A=some a→(storeCells (a.add (n*i.size)) L).run P w=.ok () w2) (hnone:A=none→w2=w) :
  (Builtin.append_ #[t,t] ty #[.slice A n c,.slice oy m cy]).run P w=.ok (.slice A (n+m) c) w2:=by
 have hf:(Builtin.firstCells i.size m (.slice oy m cy)).run P w=.ok L.toArray w:=by
  cases oy with
  | none =>
   have:=hn rfl
   subst this
   have:L=[]:=List.eq_nil_of_length_eq_zero (by simpa using hl)
   rw [this]
   exact run_firstCells_none (P:=P) (w:=w) i.size 0 0 cy
  | some a=>exact run_firstCells_some (P:=P) w i.size m a m cy L hl (hL a rfl)
 cases A with
 | none =>
  have:=hnone rfl
  subst this
  simp [Builtin.append_,run_underlying ht,sizeOf,typeInfo,hi,Builtin.lenOf,hroom,hf]
 | some a =>
  have:=hst a rfl
  simp [Builtin.append_,run_underlying ht,sizeOf,typeInfo,hi,Builtin.lenOf,hroom,hf,this]
/-- What a growing slice lays. -/
def grownObj (C:Array Value) (z:Value) (k:Nat) (e:TypeId):Obj:=.cells (C++Builtin.zeroCells z.cells k) e
theorem run_app_grow {t ty e:TypeId} {i:TypeInfo} {z:Value} (ht:P.underlying t=some (.slice e)) (hi:P.info? e=some i) (hz:i.zero=some z) {A oy:Option Addr} {n c m cy:Nat} {O L:List Value}
  (hlo:O.length=n*i.size) (hO:∀ a,A=some a→∀ (j:Nat) u,O[j]?=some u→w.cell? (a.add j)=some u) (hA:A=none→n=0∧c=0)
  (hl:L.length=m*i.size) (hL:∀ a,oy=some a→∀ (j:Nat) u,L[j]?=some u→w.cell? (a.add j)=some u) (hn:oy=none→m=0) (hnc:n≤c) (hroom:c < n+m) (hB:(n+m)*i.bytes≤140737488355328) (hN:n+m≤140737488355328) :
  (Builtin.append_ #[t,t] ty #[.slice A n c,.slice oy m cy]).run P w=.ok (.slice (some ⟨w.heap.size,0,none⟩) (n+m) (grownCap w (n+m) c e)) (w.drew.alloc (grownObj (O++L).toArray z (grownCap w (n+m) c e - (n+m)) e)):=by
 cases oy with
 | none=>have:=hn rfl; omega
 | some a =>
  cases A with
  | none =>
   obtain ⟨rfl,rfl⟩:=hA rfl
   have hO0:O=[]:=List.eq_nil_of_length_eq_zero (by simpa using hlo)
   subst hO0
   have:=run_append_nil (P:=P) (w:=w) t ty e i z ht hi hz a m cy L hl (hL a rfl) (by omega) (by omega) (by simp only [Nat.zero_add] at hB; omega)
   simp only [Nat.zero_add,List.nil_append]
   exact this
  | some b =>
   have:=run_append_grow (P:=P) (w:=w) t ty e i z ht hi hz b n c O hlo (hO b rfl) a m cy L hl (hL a rfl) hroom (by omega) (growslice_fits hroom hB)
   rw [this]
   simp [grownObj]
end
/-! ### What is appended -/
inductive Src where
 | fl (m:Nat) (g:Nat→List Value)
 | ex (L:List (List Value))
def Src.m:Src→Nat
 | .fl m _=>m
 | .ex L=>L.length
def Src.get:Src→Nat→List Value
 | .fl _ g=>g
 | .ex L=>fun j=>L.getD j []
def Src.isFl:Src→Bool
 | .fl _ _=>true
 | .ex _=>false
def takeR:List (List Value)→Nat→Nat→(List (List Value)→Prop)→Prop
 | _,0,0,k=>k []
 | [],0,_+1,_=>False
 | v::l,0,n+1,k=>takeR l 0 n fun vs=>k (v::vs)
 | [],_+1,_,_=>False
 | _::l,o+1,n,k=>takeR l o n k
theorem takeR_spec:∀ {l:List (List Value)} {o n:Nat} {k:List (List Value)→Prop},takeR l o n k→∃ vs,k vs∧(vs.length=n∧o+n≤l.length)∧∀ (j:Nat) v,vs[j]?=some v→l[o+j]?=some v
 | l,0,0,k,h=>⟨[],by cases l <;> exact h,⟨rfl,by simp⟩,fun j v hv=>by simp at hv⟩
 | [],0,_+1,_,h=>h.elim
 | v::l,0,n+1,k,h=>by
  obtain ⟨vs,h1,⟨h2,h4⟩,h3⟩:=takeR_spec (l:=l) h
  refine ⟨v::vs,h1,⟨by simp [h2],by simp at h4 ⊢; omega⟩,fun j u hu=>?_⟩
  cases j with
  | zero=>simpa using hu
  | succ j=>have:=h3 j u (by simpa using hu); simpa using this
 | [],o+1,n,k,h=>by cases n <;> exact h.elim
 | x::l,o+1,n,k,h=>by
  have h':takeR l o n k:=by cases n <;> exact h
  obtain ⟨vs,h1,⟨h2,h4⟩,h3⟩:=takeR_spec (l:=l) h'
  exact ⟨vs,h1,⟨h2,by simp; omega⟩,fun j v hv=>by have:=h3 j v hv; rwa [show o+1+j=(o+j)+1 by omega,List.getElem?_cons_succ]⟩
def allSS:List (List Value)→Bool
 | []=>true
 | r::l=>allS r && allSS l
theorem allSS_spec:∀ {l:List (List Value)},allSS l=true→∀ r∈l,∀ v∈r,scal v=true
 | [],_,r,hr=>by simp at hr
 | q::l,h,r,hr=>by
  simp only [allSS,Bool.and_eq_true] at h
  rcases List.mem_cons.1 hr with e | e
  ·rw [e]; exact allS_spec h.1
  ·exact allSS_spec h.2 r e
def appR:List (List Value)→List (List Value)→(List (List Value)→Prop)→Prop
 | [],l,k=>k l
 | x::xs,l,k=>appR xs l fun r=>k (x::r)
theorem appR_spec:∀ {xs l:List (List Value)} {k:List (List Value)→Prop},appR xs l k→k (xs++l)
 | [],_,_,h=>h
 | _::xs,l,k,h=>appR_spec (xs:=xs) h
def listR (g:Nat→List Value):Nat→Nat→(List (List Value)→Prop)→Prop
 | _,0,k=>k []
 | i,m+1,k=>listR g (i+1) m fun l=>k (g i::l)
theorem listR_spec {g:Nat→List Value}:∀ {m i:Nat} {k:List (List Value)→Prop},listR g i m k→∃ l,k l∧l.length=m∧∀ j,j < m→l.getD j []=g (i+j)
 | 0,i,k,h=>⟨[],h,rfl,fun j hj=>absurd hj (by omega)⟩
 | m+1,i,k,h=>by
  obtain ⟨l,h1,h2,h3⟩:=listR_spec (m:=m) h
  refine ⟨_,h1,by simp [h2],fun j hj=>?_⟩
  cases j with
  | zero=>simp [List.getD]
  | succ j =>
   have:=h3 j (by omega)
   simp only [List.getD,List.getElem?_cons_succ] at this ⊢
   rw [this]; congr 1; omega
def srcK (H:Heap) (esz:Nat) (yv:Value) (k:Src→Prop):Prop :=
 match yv with
 | .slice none 0 0=>k (.fl 0 fun _=>[])
 | .slice (some ⟨id,row,_⟩) m _=>blkK H id fun b=>match Nat.beq b.esz esz with
  | true=>match b with
   | .flat _ n _ get=>row+m≤n∧k (.fl m fun j=>get (rowAdd row j))
   | .expl _ _ rows=>takeR rows row m fun L=>match allSS L with
    | true=>k (.fl m fun j=>L.getD j [])
    | false=>k (.ex L)
   | .lrec _=>False
  | false=>False
 | _=>False
theorem srcK_spec {H:Heap} {esz:Nat} {yv:Value} {k:Src→Prop} (h:srcK H esz yv k):∃ s,k s∧(s.isFl=true→∀ r,r < s.m→∀ (ν:Nu) w,HRel ν H w→∀ v∈s.get r,scal v=true) ∧
  ∀ (ν:Nu) (w:World) (r:Value),HRel ν H w→VRel ν yv r→∃ oy cy L,r=.slice oy s.m cy∧(oy=none→s.m=0)∧CR ν esz s.get s.m L∧∀ a,oy=some a→∀ (j:Nat) u,L[j]?=some u→w.cell? (a.add j)=some u:=by
 unfold srcK at h
 split at h
 ·refine ⟨_,h,fun _ r hr=>absurd hr (by simp [Src.m]),fun ν w r hH hr=>?_⟩
  have:=hr.to_snil
  subst this
  exact ⟨none,0,[],rfl,fun _=>rfl,CR.nil _ _ _,fun a ha=>by cases ha⟩
 ·rename_i id row sp m c
  obtain ⟨b,hb,h⟩:=blkK_spec h
  split at h
  ·rename_i he
   have he:b.esz=esz:=Nat.eq_of_beq_eq_true he
   -- a source whose rows are the block's
   have gen:∀ (s:Src),s.m=m→row+m≤b.n→(∀ j,j < m→s.get j=b.row (row+j))→∀ (ν:Nu) (w:World) (r:Value),HRel ν H w→VRel ν (.slice (some ⟨id,row,sp⟩) m c) r →
     ∃ oy cy L,r=.slice oy s.m cy∧(oy=none→s.m=0)∧CR ν esz s.get s.m L∧∀ a,oy=some a→∀ (j:Nat) u,L[j]?=some u→w.cell? (a.add j)=some u:=by
    intro s hm hle hrow ν w r hH hr
    obtain ⟨l,hl,hB⟩:=hH.blk id b hb
    rcases hr.to_any with ⟨l',c',hl',_,_,rfl⟩ | ⟨hm0,bb,rfl⟩
    ·rw [hl] at hl'; cases hl'
     obtain ⟨L,h1,h2⟩:=CR.of_blk hB hle
     rw [he] at h1
     refine ⟨_,c',L,by rw [hm],(fun h=>by cases h),?_,(fun a ha=>by cases ha; exact h2)⟩
     rw [hm]
     exact h1.congr hrow
    ·refine ⟨some bb,0,[],by rw [hm,hm0],(fun h=>by cases h),?_,fun a ha j u hu=>by simp at hu⟩
     rw [hm,hm0]
     exact CR.nil _ _ _
   cases b with
   | flat o n e get =>
    obtain ⟨hle,h⟩:=h
    have hrow:∀ j,j < m→(Src.fl m fun j=>get (rowAdd row j)).get j=(Blk.flat o n e get).row (row+j):=fun j _=>by simp [Src.get,Blk.row,rowAdd_eq]
    refine ⟨_,h,fun _ r hr ν w hH v hv=>?_,gen _ rfl hle hrow⟩
    obtain ⟨l,hl,hB⟩:=hH.blk id _ hb
    have hr:r < m:=hr
    rw [hrow r hr] at hv
    exact hB.plain rfl (row+r) (by simp only [Blk.n]; omega) v hv
   | expl o e rows =>
    obtain ⟨L,h,⟨hlen,hle⟩,hget⟩:=takeR_spec h
    have hrow:∀ j,j < m→L.getD j []=(Blk.expl o e rows).row (row+j):=fun j hj=>by
     have hlt:j < L.length:=by omega
     have:=hget j _ (List.getElem?_eq_getElem hlt)
     simp [Blk.row,List.getD,this,List.getElem?_eq_getElem hlt]
    split at h
    ·rename_i hs
     refine ⟨_,h,fun _ r hr ν w hH v hv=>?_,gen _ rfl hle hrow⟩
     have hr:r < m:=hr
     have hlt:r < L.length:=by omega
     have hv:v∈L.getD r []:=hv
     simp only [List.getD,List.getElem?_eq_getElem hlt,Option.getD_some] at hv
     exact allSS_spec hs _ (List.getElem_mem _) v hv
    ·exact ⟨_,h,fun h=>by simp [Src.isFl] at h,gen _ hlen hle hrow⟩
   | lrec r=>exact h.elim
  ·exact h.elim
 ·exact h.elim
end Go.Ae
