import Derived.OrdersIn
import Derived.CallsIn
import Derived.ControlIn
import Derived.Below
import Derived.Laws.IdiomCopy
import Derived.Laws.AppendOwn
import Derived.Laws.NewBlocks
import Derived.Laws.BytesString
import Derived.Laws.MakeOwn
import Derived.Laws.IdiomStrings
import Derived.RangeFuncSeq
set_option linter.unusedVariables false
set_option linter.unusedSimpArgs false
namespace Go.Ae
open Go Go.RowKit
structure Loc where
 aJ:Nat
 base:Nat
 ah:Nat
 cap:Nat
def Loc.at (l:Loc) (row b6:Nat):Addr:=⟨l.aJ,l.base+row*l.ah+b6,none⟩
abbrev Nu:=Nat→Option Loc
def Nu.le (ν ak:Nu):Prop:=∀ id l,ν id=some l→ak id=some l
theorem Nu.le_refl (ν:Nu):ν.le ν:=fun _ _ h=>h
theorem Nu.le_trans {a b c:Nu} (h:a.le b) (k:b.le c):a.le c:=fun id l e=>k id l (h id l e)
def Nu.add (ν:Nu) (id:Nat) (l:Loc):Nu:=fun j=>if j=id then some l else ν j
theorem Nu.jX {ν:Nu} {id:Nat} {l:Loc} (h:ν id=none):ν.le (ν.add id l):=by
 intro j k hj;by_cases e:j=id
 ·subst e; rw [h] at hj; cases hj
 ·simp [Nu.add,e,hj]
theorem Nu.add_same {ν:Nu} {id:Nat} {l:Loc}:ν.add id l id=some l:=by simp [Nu.add]
theorem Nu.iM {ν:Nu} {id j:Nat} {l:Loc} (h:j≠id):ν.add id l j=ν j:=by simp [Nu.add,h]
def cH:Value→Bool
 | .bool _ | .int _ _ | .string _=>true
 | _=>false
def aO:Nat:=9223372036854775808
inductive au (ν:Nu):Value→Value→Prop
 | bool (b:Bool):au ν (.bool b) (.bool b)
 | int (k:IntKind) (n:Int):au ν (.int k n) (.int k n)
 | str (s:ByteArray):au ν (.string s) (.string s)
 | me:au ν (.pointer none) (.pointer none)
 | ptr (id row:Nat) (sp:Option Nat) (l:Loc) (h:ν id=some l):au ν (.pointer (some ⟨id,row,sp⟩)) (.pointer (some (l.at row (sp.getD 0))))
 | iD:au ν (.slice none 0 0) (.slice none 0 0)
 | slice (id row n c c':Nat) (l:Loc) (h:ν id=some l) (hc:c'=c∨c=aO) (hn:n≤c') (hr:row+c'≤l.cap) :
   au ν (.slice (some ⟨id,row,none⟩) n c) (.slice (some (l.at row 0)) n c')
 | void (id row c:Nat) (a:Addr) (hc:0=c∨c=aO):au ν (.slice (some ⟨id,row,none⟩) 0 c) (.slice (some a) 0 0)
 | lI (id row m n c':Nat) (l:Loc) (h:ν id=some l) (hm:m≤c') (hn:n≤c') (hr:row+c'≤l.cap) :
   au ν (.slice (some ⟨id,row,some m⟩) n aO) (.slice (some (l.at row 0)) n c')
 | kE (id row:Nat) (a:Addr):au ν (.slice (some ⟨id,row,some 0⟩) 0 aO) (.slice (some a) 0 0)
 | mf:au ν .nilFunc .nilFunc
 | func (fn:Fn) (xs ys nh c9:List Value) (h1:xs.length=ys.length) (J:∀ (i:Nat) (x y:Value),xs[i]?=some x→ys[i]?=some y→au ν x y)
   (h3:nh.length=c9.length) (h4:∀ (i:Nat) (x y:Value),nh[i]?=some x→c9[i]?=some y→au ν x y) :
   au ν (.func fn ⟨xs⟩ ⟨nh⟩) (.func fn ⟨ys⟩ ⟨c9⟩)
 | agg (xs ys:List Value) (h1:xs.length=ys.length) (J:∀ (i:Nat) (x y:Value),xs[i]?=some x→ys[i]?=some y→au ν x y):au ν (.agg ⟨xs⟩) (.agg ⟨ys⟩)
 | tuple (xs ys:List Value) (h1:xs.length=ys.length) (J:∀ (i:Nat) (x y:Value),xs[i]?=some x→ys[i]?=some y→au ν x y):au ν (.tuple ⟨xs⟩) (.tuple ⟨ys⟩)
 | dead (w:Value) (h:w.oneCell'=true):au ν (.chan none) w
def bg (ν:Nu) (xs ys:List Value):Prop:=xs.length=ys.length∧∀ (i:Nat) (x y:Value),xs[i]?=some x→ys[i]?=some y→au ν x y
theorem au.mono {ν ak:Nu} (hle:ν.le ak) {v w:Value} (h:au ν v w):au ak v w:=by
 induction h with
 | bool b=>exact .bool b
 | int k n=>exact .int k n
 | str s=>exact .str s
 | me=>exact .me
 | ptr id row sp l h=>exact .ptr id row sp l (hle _ _ h)
 | iD=>exact .iD
 | slice id row n c c' l h hc hn hr=>exact .slice id row n c c' l (hle _ _ h) hc hn hr
 | void id row c a hc=>exact .void id row c a hc
 | lI id row m n c' l h hm hn hr=>exact .lI id row m n c' l (hle _ _ h) hm hn hr
 | kE id row a=>exact .kE id row a
 | mf=>exact .mf
 | func fn xs ys nh c9 h1 _ h3 _ i2 i4=>exact .func fn xs ys nh c9 h1 i2 h3 i4
 | agg xs ys h1 _ i2=>exact .agg xs ys h1 i2
 | tuple xs ys h1 _ i2=>exact .tuple xs ys h1 i2
 | dead w h=>exact .dead w h
theorem bg.mono {ν ak:Nu} (hle:ν.le ak) {xs ys:List Value} (h:bg ν xs ys):bg ak xs ys :=
 ⟨h.1,fun i x y hx hy=>(h.2 i x y hx hy).mono hle⟩
theorem bg.nil (ν:Nu):bg ν [] []:=⟨rfl,fun i x y hx _=>by simp at hx⟩
theorem bg.cons {ν:Nu} {x y:Value} {xs ys:List Value} (h:au ν x y) (hs:bg ν xs ys):bg ν (x::xs) (y::ys):=by
 refine ⟨by simp [hs.1],fun i a b ha hb=>?_⟩
 cases i with
 | zero=>simp at ha hb; subst ha; subst hb; exact h
 | succ i=>exact hs.2 i a b (by simpa using ha) (by simpa using hb)
theorem bg.head {ν:Nu} {x y:Value} {xs ys:List Value} (h:bg ν (x::xs) (y::ys)):au ν x y:=h.2 0 x y rfl rfl
theorem bg.tail {ν:Nu} {x y:Value} {xs ys:List Value} (h:bg ν (x::xs) (y::ys)):bg ν xs ys :=
 ⟨by have:=h.1; simpa using this,fun i a b ha hb=>h.2 (i+1) a b (by simpa using ha) (by simpa using hb)⟩
theorem bg.jd {ν:Nu} {x:Value} {xs zs:List Value} (h:bg ν (x::xs) zs):∃ y ys,zs=y::ys∧au ν x y∧bg ν xs ys:=by
 cases zs with
 | nil=>simp [bg] at h
 | cons y ys=>exact ⟨y,ys,rfl,h.head,h.tail⟩
theorem bg.iL {ν:Nu} {zs:List Value} (h:bg ν [] zs):zs=[]:=by
 cases zs with
 | nil=>rfl
 | cons y ys=>simp [bg] at h
theorem bg.append {ν:Nu} {a b c d:List Value} (h:bg ν a b) (k:bg ν c d):bg ν (a++c) (b++d):=by
 induction a generalizing b with
 | nil=>rw [bg.iL h]; exact k
 | cons x xs ih=>obtain ⟨y,ys,rfl,h1,J⟩:=h.jd; exact .cons h1 (ih J)
theorem bg.get {ν:Nu} {xs ys:List Value} (h:bg ν xs ys) {i:Nat} {x:Value} (hx:xs[i]?=some x):∃ y,ys[i]?=some y∧au ν x y:=by
 have hi:i < xs.length:=(List.getElem?_eq_some_iff.1 hx).1;refine ⟨ys[i]'(h.1 ▸ hi),List.getElem?_eq_getElem _,h.2 i _ _ hx (List.getElem?_eq_getElem _)⟩
theorem bg.set {ν:Nu} {xs ys:List Value} (h:bg ν xs ys) {v w:Value} (hv:au ν v w) (i:Nat):bg ν (xs.set i v) (ys.set i w):=by
 refine ⟨by simp [h.1],fun j x y hx hy=>?_⟩
 rw [List.getElem?_set] at hx hy;by_cases e:i=j
 ·subst e;rw [if_pos rfl] at hx hy
  split at hx
  ·split at hy
   ·cases hx; cases hy; exact hv
   ·cases hy
  ·cases hx
 ·rw [if_neg e] at hx hy;exact h.2 j x y hx hy
theorem au.jU {ν:Nu} {v w:Value} (h:cH v=true) (hr:au ν v w):w=v:=by
 cases hr <;> simp_all [cH]
theorem au.jT {ν:Nu} {v:Value} (h:cH v=true):au ν v v:=by
 cases v <;> simp [cH] at h <;> constructor
theorem au.uh {ν:Nu} {xs:List Value} {r:Value} (h:au ν (.agg ⟨xs⟩) r):∃ ys,r=.agg ⟨ys⟩∧bg ν xs ys:=by
 cases h with | agg _ ys h1 J=>exact ⟨ys,rfl,h1,J⟩
theorem au.nC {ν:Nu} {xs:List Value} {r:Value} (h:au ν (.tuple ⟨xs⟩) r):∃ ys,r=.tuple ⟨ys⟩∧bg ν xs ys:=by
 cases h with | tuple _ ys h1 J=>exact ⟨ys,rfl,h1,J⟩
theorem au.undef (ν:Nu):au ν undef undef:=.tuple [] [] rfl (fun i x y hx _=>by simp at hx)
theorem au.BO {ν:Nu} {v w:Value} (h:au ν v w):w.oneCell'=v.oneCell':=by cases h <;> first | rfl | assumption
theorem au.cells {ν:Nu} {v w:Value} (h:au ν v w):bg ν v.cells.toList w.cells.toList:=by
 cases h with
 | agg xs ys h1 J=>exact ⟨h1,J⟩
 | bool b=>exact .cons (.bool b) (.nil ν)
 | int k n=>exact .cons (.int k n) (.nil ν)
 | str s=>exact .cons (.str s) (.nil ν)
 | me=>exact .cons .me (.nil ν)
 | ptr id row sp l h=>exact .cons (.ptr id row sp l h) (.nil ν)
 | iD=>exact .cons .iD (.nil ν)
 | slice id row n c c' l h hc hn hr=>exact .cons (.slice id row n c c' l h hc hn hr) (.nil ν)
 | void id row c a hc=>exact .cons (.void id row c a hc) (.nil ν)
 | lI id row m n c' l h hm hn hr=>exact .cons (.lI id row m n c' l h hm hn hr) (.nil ν)
 | kE id row a=>exact .cons (.kE id row a) (.nil ν)
 | mf=>exact .cons .mf (.nil ν)
 | func fn xs ys nh c9 h1 J h3 h4=>exact .cons (.func fn xs ys nh c9 h1 J h3 h4) (.nil ν)
 | tuple xs ys h1 J=>exact .cons (.tuple xs ys h1 J) (.nil ν)
 | dead w h=>
  have e:w.cells=#[w]:=by cases w <;> first | rfl | simp [Value.oneCell'] at h
  rw [e]; exact .cons (.dead w h) (.nil ν)
inductive aj where
 | aS (own:Bool) (ah:Nat) (rows:List (List Value))
 | flat (own:Bool) (n ah:Nat) (get:Nat→List Value)
 | cc (r:Loop)
def aj.own:aj→Bool
 | .aS o _ _ | .flat o _ _ _=>o
 | .cc _=>true
def aj.ah:aj→Nat
 | .aS _ e _ | .flat _ _ e _=>e
 | .cc _=>0
def aj.n:aj→Nat
 | .aS _ _ rows=>rows.length
 | .flat _ n _ _=>n
 | .cc _=>0
def aj.row:aj→Nat→List Value
 | .aS _ _ rows=>fun r=>rows.getD r []
 | .flat _ _ _ get=>get
 | .cc _=>fun _=>[]
def aj.iN:aj→Bool
 | .aS ..=>false
 | .flat ..=>true
 | .cc _=>false
def aj.nP:aj→Bool
 | .aS o _ _ | .flat o _ _ _=>o
 | .cc _=>false
def aj.rc:aj→Option Loop
 | .cc r=>some r
 | _=>none
abbrev aA:=List (Option aj)
theorem aj.cX {b:aj} (h:b.nP=true):b.own=true∧b.rc=none:=by
 cases b with
 | aS o e r=>exact ⟨h,rfl⟩
 | flat o n e g=>exact ⟨h,rfl⟩
 | cc r=>cases h
structure bN (ν:Nu) (l:Loc) (b:aj) (w:World):Prop where
 ah:l.ah=b.ah
 len:∀ r,r < b.n→(b.row r).length=b.ah
 cell:∀ r,r < b.n→∀ j v,(b.row r)[j]?=some v→∃ v',w.cell? (l.at r j)=some v'∧au ν v v'
 plain:b.iN=true→∀ r,r < b.n→∀ v∈b.row r,cH v=true
 one:∀ r,r < b.n→∀ v∈b.row r,v.oneCell'=true
 own:b.own=true→b.rc=none→∃ cur t,w.heap[l.aJ]?=some (.cells cur t (0,0))∧l.base+l.cap*l.ah≤cur.size∧b.n≤l.cap
 lr:∀ r,b.rc=some r→w.heap[l.aJ]?=some (.loop r)
 live:l.aJ < w.heap.size
structure bQ (ν:Nu) (H:aA) (w:World):Prop where
 aJ:∀ id b,H[id]?=some (some b)→∃ l,ν id=some l∧bN ν l b w
 sep:∀ i j bi bj li lj,H[i]?=some (some bi)→H[j]?=some (some bj)→i≠j→bi.own=true→ν i=some li→ν j=some lj→li.aJ≠lj.aJ
theorem Su {w w':World} (h:Below w.heap.size w w') {a:Addr} {v:Value} (hc:w.cell? a=some v):w'.cell? a=some v :=
 (World.cell?_of_block (h.block _ (World.block_lt_of_cell? w a hc))).trans hc
theorem bN.below {ν:Nu} {l:Loc} {b:aj} {w w':World} (h:bN ν l b w) (hb:Below w.heap.size w w'):bN ν l b w' :=
 ⟨h.ah,h.len,fun r hr j v hv=>let ⟨v',hc,iG⟩:=h.cell r hr j v hv; ⟨v',Su hb hc,iG⟩,h.plain,h.one,
   fun ho hc=>let ⟨cur,t,h1,J⟩:=h.own ho hc; ⟨cur,t,by rw [hb.block _ h.live]; exact h1,J⟩,fun r hr=>(hb.block _ h.live).trans (h.lr r hr),Nat.lt_of_lt_of_le h.live hb.size⟩
theorem bN.same {ν:Nu} {l:Loc} {b:aj} {w w':World} (h:bN ν l b w) (he:w'.heap[l.aJ]?=w.heap[l.aJ]?) (hs:w.heap.size≤w'.heap.size):bN ν l b w' :=
 ⟨h.ah,h.len,fun r hr j v hv=>let ⟨v',hc,iG⟩:=h.cell r hr j v hv; ⟨v',by rw [World.cell?_of_block (a:=l.at r j) he]; exact hc,iG⟩,h.plain,h.one,
   fun ho hc=>let ⟨cur,t,h1,J⟩:=h.own ho hc; ⟨cur,t,by rw [he]; exact h1,J⟩,fun r hr=>he.trans (h.lr r hr),Nat.lt_of_lt_of_le h.live hs⟩
theorem bN.mono {ν ak:Nu} (hle:ν.le ak) {l:Loc} {b:aj} {w:World} (h:bN ν l b w):bN ak l b w :=
 ⟨h.ah,h.len,fun r hr j v hv=>let ⟨v',hc,iG⟩:=h.cell r hr j v hv; ⟨v',hc,iG.mono hle⟩,h.plain,h.one,h.own,h.lr,h.live⟩
theorem bQ.below {ν:Nu} {H:aA} {w w':World} (h:bQ ν H w) (hb:Below w.heap.size w w'):bQ ν H w' :=
 ⟨fun id b hi=>let ⟨l,h1,J⟩:=h.aJ id b hi; ⟨l,h1,J.below hb⟩,h.sep⟩
theorem bQ.mono {ν ak:Nu} (hle:ν.le ak) {H:aA} {w:World} (h:bQ ν H w):bQ ak H w :=
 ⟨fun id b hi=>let ⟨l,h1,J⟩:=h.aJ id b hi; ⟨l,hle _ _ h1,J.mono hle⟩,
   fun i j bi bj li lj hi hj aI ho h1 J=>by
  obtain ⟨l1,e1,_⟩:=h.aJ i bi hi;obtain ⟨l2,e2,_⟩:=h.aJ j bj hj;have:=hle _ _ e1; rw [h1] at this; cases this;have:=hle _ _ e2; rw [J] at this; cases this;exact h.sep i j bi bj _ _ hi hj aI ho e1 e2⟩
def aA.le (H G:aA):Prop:=∀ (id:Nat) (b:aj),H[id]?=some (some b)→G[id]?=some (some b)
theorem bQ.rX {ν:Nu} {H G:aA} {w:World} (h:bQ ν G w) (hle:aA.le H G):bQ ν H w :=
 ⟨fun id b hi=>h.aJ id b (hle id b hi),fun i j bi bj li lj hi hj=>h.sep i j bi bj li lj (hle i bi hi) (hle j bj hj)⟩
theorem bQ.push {ν:Nu} {H:aA} {w w':World} (h:bQ ν H w) (hb:Below w.heap.size w w') {id:Nat} (hn:ν id=none) {l:Loc} {b:aj} (G:aA)
  (hG:∀ j c,G[j]?=some (some c)→(j=id∧c=b)∨(j≠id∧H[j]?=some (some c))) (hl:w.heap.size≤l.aJ)
  (hB:bN (ν.add id l) l b w'):bQ (ν.add id l) G w':=by
 have hle:ν.le (ν.add id l):=Nu.jX hn;have h':=(h.mono hle).below hb;refine ⟨fun j c hj=>?_,fun i j bi bj li lj hi hj aI ho h1 J=>?_⟩
 ·rcases hG j c hj with ⟨rfl,rfl⟩ | ⟨_,gh⟩
  ·exact ⟨l,Nu.add_same,hB⟩
  ·exact h'.aJ j c gh
 ·rcases hG i bi hi with ⟨rfl,rfl⟩ | ⟨_,aR⟩ <;> rcases hG j bj hj with ⟨rfl,rfl⟩ | ⟨_,gh⟩
  ·exact absurd rfl aI
  ·obtain ⟨l2,e2,dF⟩:=h.aJ j bj gh;have:=hle _ _ e2; rw [J] at this; cases this;rw [Nu.add_same] at h1; cases h1;have:=dF.live;omega
  ·obtain ⟨l2,e2,dF⟩:=h.aJ i bi aR;have:=hle _ _ e2; rw [h1] at this; cases this;rw [Nu.add_same] at J; cases J;have:=dF.live;omega
  ·exact h'.sep i j bi bj li lj aR gh aI ho h1 J
def qz:List Value→Nat→(Value→Prop)→Prop
 | [],_,_=>False
 | v::_,0,k=>k v
 | _::l,n+1,k=>qz l n k
def xu:List Value→Nat→Value→(List Value→Prop)→Prop
 | [],_,_,_=>False
 | _::l,0,v,k=>k (v::l)
 | x::l,n+1,v,k=>xu l n v fun l'=>k (x::l')
theorem ox:∀ {l:List Value} {n:Nat} {k:Value→Prop},qz l n k→∃ v,l[n]?=some v∧k v
 | [],_,_,h=>h.elim
 | v::_,0,_,h=>⟨v,rfl,h⟩
 | _::l,n+1,k,h=>by obtain ⟨v,h1,J⟩:=ox (l:=l) h; exact ⟨v,by simpa using h1,J⟩
theorem oz:∀ {l:List Value} {n:Nat} {v:Value} {k:List Value→Prop},xu l n v k→n < l.length∧k (l.set n v)
 | [],_,_,_,h=>h.elim
 | _::l,0,v,k,h=>⟨by simp,h⟩
 | x::l,n+1,v,k,h=>by
  obtain ⟨h1,J⟩:=oz (l:=l) h;exact ⟨by simpa using h1,by simpa using J⟩
def GI (v:Value) (k:Value→Prop):Prop :=
 match v with
 | .bool b=>k (.bool b)
 | .int q n=>k (.int q n)
 | .string s=>k (.string s)
 | .pointer none=>k (.pointer none)
 | .slice none 0 0=>k (.slice none 0 0)
 | .nilFunc=>k .nilFunc
 | _=>False
theorem Ks {v:Value} {k:Value→Prop} (h:GI v k):k v∧∀ ν,au ν v v:=by
 unfold GI at h
 split at h
 ·exact ⟨h,fun ν=>.bool _⟩
 ·exact ⟨h,fun ν=>.int _ _⟩
 ·exact ⟨h,fun ν=>.str _⟩
 ·exact ⟨h,fun ν=>.me⟩
 ·exact ⟨h,fun ν=>.iD⟩
 ·exact ⟨h,fun ν=>.mf⟩
 ·exact h.elim
def bU (tmps:List Value) (x:Operand) (k:Value→Prop):Prop :=
 match x with
 | .tmp t=>qz tmps t k
 | .const v=>GI v k
 | .func f=>k (.func (.func f) #[] #[])
 | .global _=>False
def fh (ν:Nu) (tmps:List Value) (a:Act) (x:Operand):Prop :=
 ∀ t,x=.tmp t→∀ v,tmps[t]?=some v→∃ v',a.tmps[t]?=some v'∧au ν v v'
theorem kq {tmps:List Value} {x:Operand} {k:Value→Prop} (h:bU tmps x k) {ν:Nu} {a:Act} (ha:fh ν tmps a x) :
  ∃ v,k v∧au ν v (a.eval x):=by
 cases x with
 | tmp t =>
  obtain ⟨v,h1,J⟩:=ox h;obtain ⟨v',h3,h4⟩:=ha t rfl v h1;exact ⟨v,J,by simpa [Act.eval,h3] using h4⟩
 | const v=>obtain ⟨h1,J⟩:=Ks h; exact ⟨v,h1,J ν⟩
 | func f=>exact ⟨_,h,.func _ [] [] [] [] rfl (fun i x y hx _=>by simp at hx) rfl (fun i x y hx _=>by simp at hx)⟩
 | global g=>exact h.elim
theorem cQ {tmps:List Value} {x:Operand} {k:Value→Prop} (h:bU tmps x k) :
  ∃ v,k v∧∀ (ν:Nu) (a:Act),fh ν tmps a x→au ν v (a.eval x):=by
 cases x with
 | tmp t =>
  obtain ⟨v,h1,J⟩:=ox h;refine ⟨v,J,fun ν a ha=>?_⟩
  obtain ⟨v',h3,h4⟩:=ha t rfl v h1
  simpa [Act.eval,h3] using h4
 | const v=>obtain ⟨h1,J⟩:=Ks h; exact ⟨v,h1,fun ν a _=>J ν⟩
 | func f=>exact ⟨_,h,fun ν a _=>.func _ [] [] [] [] rfl (fun i x y hx _=>by simp at hx) rfl (fun i x y hx _=>by simp at hx)⟩
 | global g=>exact h.elim
def pX (tmps:List Value):List Operand→(List Value→Prop)→Prop
 | [],k=>k []
 | x::xs,k=>bU tmps x fun v=>pX tmps xs fun vs=>k (v::vs)
theorem Ev {tmps:List Value} {ν:Nu} {a:Act}:∀ {xs:List Operand} {k:List Value→Prop},pX tmps xs k→(∀ x∈xs,fh ν tmps a x) →
  ∃ vs,k vs∧bg ν vs (xs.map a.eval)
 | [],k,h,_=>⟨[],h,.nil ν⟩
 | x::xs,k,h,ha=>by
  obtain ⟨v,h1,J⟩:=kq h (ha x (by simp))
  obtain ⟨vs,h3,h4⟩:=Ev h1 (fun y hy=>ha y (by simp [hy]))
  exact ⟨v::vs,h3,.cons J h4⟩
theorem A7 {tmps:List Value}:∀ {xs:List Operand} {k:List Value→Prop},pX tmps xs k →
  ∃ vs,k vs∧∀ (ν:Nu) (a:Act),(∀ x∈xs,fh ν tmps a x)→bg ν vs (xs.map a.eval)
 | [],k,h=>⟨[],h,fun ν a _=>.nil ν⟩
 | x::xs,k,h=>by
  obtain ⟨v,h1,J⟩:=cQ h;obtain ⟨vs,h3,h4⟩:=A7 h1;exact ⟨v::vs,h3,fun ν a ha=>.cons (J ν a (ha x (by simp))) (h4 ν a (fun y hy=>ha y (by simp [hy])))⟩
def uy:List Value→Nat→Nat→(List Value→Prop)→Prop
 | _,0,0,k=>k []
 | [],0,_+1,_=>False
 | v::l,0,n+1,k=>uy l 0 n fun vs=>k (v::vs)
 | [],_+1,_,_=>False
 | _::l,o+1,n,k=>uy l o n k
theorem x9:∀ {l:List Value} {o n:Nat} {k:List Value→Prop},uy l o n k→∃ vs,k vs∧vs.length=n∧∀ j v,vs[j]?=some v→l[o+j]?=some v
 | l,0,0,k,h=>⟨[],by cases l <;> exact h,rfl,fun j v hv=>by simp at hv⟩
 | [],0,_+1,_,h=>h.elim
 | v::l,0,n+1,k,h=>by
  obtain ⟨vs,h1,J,h3⟩:=x9 (l:=l) h;refine ⟨v::vs,h1,by simp [J],fun j u hu=>?_⟩
  cases j with
  | zero=>simpa using hu
  | succ j=>have:=h3 j u (by simpa using hu); simpa using this
 | [],o+1,n,k,h=>by cases n <;> exact h.elim
 | x::l,o+1,n,k,h=>by
  have h':uy l o n k:=by cases n <;> exact h
  obtain ⟨vs,h1,J,h3⟩:=x9 (l:=l) h';exact ⟨vs,h1,J,fun j v hv=>by have:=h3 j v hv; rwa [show o+1+j=(o+j)+1 by omega,List.getElem?_cons_succ]⟩
def uS:List Value→Nat→List Value→(List Value→Prop)→Prop
 | l,0,[],k=>k l
 | [],0,_::_,_=>False
 | _::l,0,v::vs,k=>uS l 0 vs fun l'=>k (v::l')
 | [],_+1,_,_=>False
 | x::l,o+1,vs,k=>uS l o vs fun l'=>k (x::l')
theorem yi:∀ {l:List Value} {o:Nat} {vs:List Value} {k:List Value→Prop},uS l o vs k →
  ∃ l',k l'∧l'.length=l.length∧o+vs.length≤l.length∧(∀ j v,vs[j]?=some v→l'[o+j]?=some v)∧∀ j,(j < o∨o+vs.length≤j)→l'[j]?=l[j]?
 | l,0,[],k,h=>⟨l,by cases l <;> exact h,rfl,by simp,fun j v hv=>by simp at hv,fun _ _=>rfl⟩
 | [],0,_::_,_,h=>h.elim
 | x::l,0,v::vs,k,h=>by
  obtain ⟨l',h1,J,h3,h4,h5⟩:=yi (l:=l) h;refine ⟨v::l',h1,by simp [J],by simp at h3 ⊢; omega,fun j u hu=>?_,fun j hj=>?_⟩
  ·cases j with
   | zero=>simpa using hu
   | succ j=>have:=h4 j u (by simpa using hu); simpa using this
  ·cases j with
   | zero=>simp at hj
   | succ j=>have:=h5 j (by simp at hj ⊢; omega); simpa using this
 | [],o+1,vs,k,h=>by cases vs <;> exact h.elim
 | x::l,o+1,vs,k,h=>by
  have h':uS l o vs fun l'=>k (x::l'):=by cases vs <;> exact h
  obtain ⟨l',h1,J,h3,h4,h5⟩:=yi (l:=l) h';refine ⟨x::l',h1,by simp [J],by simp; omega,fun j u hu=>?_,fun j hj=>?_⟩
  ·have:=h4 j u hu; rwa [show o+1+j=(o+j)+1 by omega,List.getElem?_cons_succ]
  ·cases j with
   | zero=>simp
   | succ j=>have:=h5 j (by omega); simpa using this
def gA:aA→Nat→(aj→Prop)→Prop
 | [],_,_=>False
 | b::_,0,k=>match b with | some b=>k b | none=>False
 | _::H,n+1,k=>gA H n k
theorem gu:∀ {H:aA} {id:Nat} {k:aj→Prop},gA H id k→∃ b,H[id]?=some (some b)∧k b
 | [],_,_,h=>h.elim
 | some b::_,0,_,h=>⟨b,rfl,h⟩
 | none::_,0,_,h=>h.elim
 | _::H,n+1,k,h=>by obtain ⟨b,h1,J⟩:=gu (H:=H) h; exact ⟨b,by simpa using h1,J⟩
def jl:aA→Nat→Option aj→(aA→Prop)→Prop
 | [],_,_,_=>False
 | _::H,0,b,k=>k (b::H)
 | c::H,n+1,b,k=>jl H n b fun H'=>k (c::H')
theorem lT:∀ {H:aA} {id:Nat} {b:Option aj} {k:aA→Prop},jl H id b k→id < H.length∧k (H.set id b)
 | [],_,_,_,h=>h.elim
 | _::H,0,_,_,h=>⟨by simp,h⟩
 | c::H,n+1,b,k,h=>by obtain ⟨h1,J⟩:=lT (H:=H) h; exact ⟨by simpa using h1,by simpa using J⟩
def oR:aA→Option aj→(aA→Prop)→Prop
 | [],b,k=>k [b]
 | c::H,b,k=>oR H b fun H'=>k (c::H')
theorem yc:∀ {H:aA} {b:Option aj} {k:aA→Prop},oR H b k→k (H++[b])
 | [],_,_,h=>h
 | _::H,b,k,h=>yc (H:=H) h
def jm:aA→(Nat→Prop)→Prop
 | [],k=>k 0
 | _::H,k=>jm H fun n=>k (n+1)
theorem lU:∀ {H:aA} {k:Nat→Prop},jm H k→k H.length
 | [],_,h=>h
 | _::H,k,h=>lU (H:=H) h
def br (b:Bool) (x y:Prop):Prop:=match b with | true=>x | false=>y
theorem aN {b:Bool} {x y:Prop} (h1:b=true→x) (J:b=false→y):br b x y:=by cases b <;> simp_all [br]
theorem BP {b:Bool} {x y:Prop} (h:br b x y) (hb:b=true):x:=by subst hb; exact h
theorem Bw {b:Bool} {x y:Prop} (h:br b x y) (hb:b=false):y:=by subst hb; exact h
theorem mP {b:Bool} {x y:Prop} (h:b=true) (hx:x):br b x y:=by subst h; exact hx
def xw (p:Prop) [Decidable p] (k:Prop):Prop:=br (decide p) k False
theorem Bf {p:Prop} [Decidable p] {k:Prop} (h:xw p k):p∧k:=by
 unfold xw br at h
 split at h
 ·rename_i hp; exact ⟨of_decide_eq_true hp,h⟩
 ·exact h.elim
open Go Go.RowKit
inductive TK where
 | int (k:IntKind) | bool | str
 | struct (fs:List (Nat × Nat × Bool))      -- offset,size,is it a struct or an array
 | slice (e:TypeId)
 | array (n:Nat) (e:TypeId)
 | other
structure TI where
 size:Nat
 bytes:Nat
 kind:TK
 zero:List Value
def TI.agg (ti:TI):Bool:=match ti.kind with | .struct _ | .array _ _=>true | _=>false
abbrev TT:=TypeId→Option TI
def ui:TypeDesc→Bool
 | .struct _ | .array _ _=>true
 | _=>false
def yD (P:Program) (f:Field) (x:Nat × Nat × Bool):Prop :=
 f.offset=x.1∧0 < x.2.1∧(∃ i,P.info? f.type=some i∧i.size=x.2.1)∧∃ d,P.underlying f.type=some d∧ui d=x.2.2
def Dm (P:Program) (k:TK) (d:TypeDesc):Prop :=
 match k with
 | .int q=>d=.int q
 | .bool=>d=.bool
 | .str=>d=.string
 | .struct fs=>∃ fields,d=.struct fields∧fields.size=fs.length∧∀ (i:Nat) f x,fields[i]?=some f→fs[i]?=some x→yD P f x
 | .slice e=>d=.slice e
 | .array n e=>d=.array n e
 | .other=>ui d=false
structure aD (P:Program) (t:TypeId) (ti:TI):Prop where
 info:∃ i,P.info? t=some i∧i.size=ti.size∧i.bytes=ti.bytes∧∃ z,i.zero=some z∧z.cells=⟨ti.zero⟩
 under:∃ d,P.underlying t=some d∧Dm P ti.kind d
 self:∀ ν,bg ν ti.zero ti.zero
 len:ti.zero.length=ti.size
 one:∀ v∈ti.zero,v.oneCell'=true
 bit:0 < ti.size∧0 < ti.bytes
theorem aD.adq {P:Program} {t:TypeId} {ti:TI} (h:aD P t ti):∃ d,P.underlying t=some d∧ui d=ti.agg:=by
 obtain ⟨d,h1,J⟩:=h.under;refine ⟨d,h1,?_⟩;unfold Dm at J;unfold TI.agg
 split at J <;> rename_i hk <;> rw [hk] <;> first | (subst J; rfl) | (obtain ⟨_,rfl,_⟩:=J; rfl) | (simpa using J)
theorem Ly {P:Program} {t:TypeId} {d:TypeDesc} (h:P.underlying t=some d) (w:World):(isAgg t).run P w=.ok (ui d) w:=by
 unfold isAgg underlying;simp [h];cases d <;> rfl
theorem gl {P:Program} {t:TypeId} {i:TypeInfo} (h:P.info? t=some i) (w:World):(sizeOf t).run P w=.ok i.size w:=by simp [sizeOf,typeInfo,h]
theorem vO {P:Program} {t:TypeId} {i:TypeInfo} {z:Value} (h:P.info? t=some i) (hz:i.zero=some z) (w:World):(zeroValue t).run P w=.ok z w:=by
 simp [zeroValue,typeInfo,h,hz]
theorem dA {P:Program} {t:TypeId} {d:TypeDesc} (h:P.underlying t=some d) (w:World):(underlying t).run P w=.ok d w:=by simp [underlying,h]
theorem J4 {P:Program} {t:TypeId} {ti:TI} (h:aD P t ti) {w:World} {a:Addr} {cs:List Value} (hl:cs.length=ti.size)
  (hc:∀ j v,cs[j]?=some v→w.cell? (a.add j)=some v) :
  (loadVar t a).run P w=.ok (if ti.agg then .agg ⟨cs⟩ else cs.getD 0 undef) w:=by
 obtain ⟨d,h1,J⟩:=h.adq;obtain ⟨i,hi,hs,_⟩:=h.info;unfold loadVar;simp only [Sem.run_bind,Ly h1,Result.andThen_ok,Sem.run_ite];rw [J]
 split
 ·simp only [Sem.run_bind,gl hi,Result.andThen_ok];rw [hs,← hl,run_loadCells_list w a cs hc]
  rfl
 ·have hp:=h.bit.1;cases cs with
  | nil=>simp at hl; omega
  | cons v r =>
   have:=hc 0 v rfl;simp only [Addr.add,if_true] at this;simp [run_load,this]
theorem U3 (b o j:Nat):(⟨b,o,none⟩:Addr).add j=⟨b,o+j,none⟩:=by unfold Addr.add; split <;> simp_all
theorem Loc.jC (l:Loc) (row b6 j:Nat):(l.at row b6).add j=l.at row (b6+j):=by
 unfold Loc.at; rw [U3]; congr 1; omega
open Go Go.RowKit
structure bF where
 ι:Type
 args:ι→List Value
 pre:ι→Prop
 val:ι→Value
structure cG where
 ι:Type
 args:ι→List Value
 ae:ι→List aj
 pre:ι→Prop
 val:ι→Value
 new:ι→Option aj
inductive uz where
 | p (S:bF)
 | q (S:cG)
 | r (S:cG)
abbrev yY:=FuncId→Option uz
def WF (r:Option Nat):Fence:={ Fence.wide with round:=r }
structure bh (P:Program) (f:FuncId) (S:bF):Prop where
 enters:∀ args w,(callFunc f args).run P w=.ok (.enter f args) w
 calls:∀ (i:S.ι),S.pre i→∀ (ν:Nu) (as:List Value) (w:World) (n:Nat),bg ν (S.args i) as →
  CallsIn Fence.wide n P f ⟨as⟩ w fun e w'=>∃ v',e=.returned v'∧au ν (S.val i) v'∧Below w.heap.size w w'
structure mT (ν ak:Nu) (aK:Nat) (w w':World) (v v':Value) (nb:Option aj):Prop where
 le:ν.le ak
 only:∀ id,id≠aK→ak id=ν id
 val:au ak v v'
 below:Below w.heap.size w w'
 zO:nb=none→ak=ν
 gR:∀ b,nb=some b→∃ l,ak aK=some l∧bN ak l b w'∧w.heap.size≤l.aJ
structure dk (P:Program) (f:FuncId) (S:cG):Prop where
 enters:∀ args w,(callFunc f args).run P w=.ok (.enter f args) w
 ro:∀ i b,b∈S.ae i→b.own=false
 fl:∀ i b,S.new i=some b→b.iN=true
 calls:∀ (i:S.ι),S.pre i→∀ (ν:Nu) (as:List Value) (w:World) (n:Nat),bg ν (S.args i) as→bQ ν ((S.ae i).map some) w→(∀ id,(S.ae i).length≤id→ν id=none) →
  CallsIn Fence.wide n P f ⟨as⟩ w fun e w'=>∃ v' ak,e=.returned v'∧mT ν ak (S.ae i).length w w' (S.val i) v' (S.new i)
def CX (P:Program) (f:FuncId):uz→Prop
 | .p S=>bh P f S
 | .q S=>dk P f S
 | .r S=>dk P f S
abbrev QK:=Value→Option aj→Prop
def pY (v:Value) (k:Value→Prop):Prop :=
 match v with
 | .bool b=>k (.bool b)
 | .int q n=>k (.int q n)
 | .string s=>k (.string s)
 | .agg cs=>k (.agg cs)
 | .tuple cs=>k (.tuple cs)
 | .pointer a=>k (.pointer a)
 | .slice a n c=>k (.slice a n c)
 | .func f a b=>k (.func f a b)
 | .nilFunc=>k .nilFunc
 | _=>False
theorem vP {v:Value} {k:Value→Prop} (h:pY v k):k v:=by
 unfold pY at h; split at h <;> first | exact h | exact h.elim
def qA:List Value→List Value→(List Value→Prop)→Prop
 | [],l,k=>k l
 | x::xs,l,k=>qA xs l fun r=>k (x::r)
theorem v8:∀ {xs l:List Value} {k:List Value→Prop},qA xs l k→k (xs++l)
 | [],_,_,h=>h
 | _::xs,l,k,h=>v8 (xs:=xs) h
def pO:List Value→Nat→Bool
 | [],0=>true
 | v::l,n+1=>v.oneCell' && pO l n
 | _,_=>false
theorem x0:∀ {l:List Value} {n:Nat},pO l n=true→l.length=n∧∀ v∈l,v.oneCell'=true
 | [],0,_=>⟨rfl,fun v hv=>by simp at hv⟩
 | v::l,n+1,h=>by
  simp only [pO,Bool.and_eq_true] at h;obtain ⟨h1,J⟩:=x0 h.2;exact ⟨by simp [h1],fun u hu=>by
   rcases List.mem_cons.1 hu with e | e
   ·rw [e]; exact h.1
   ·exact J u e⟩
 | [],_+1,h=>by simp [pO] at h
 | _::_,0,h=>by simp [pO] at h
def wU (v:Value) (k:List Value→Prop):Prop :=
 match v with
 | .agg cs=>k cs.toList
 | .tuple _=>False
 | v=>k [v]
theorem AS {v:Value} {k:List Value→Prop} (h:wU v k):k v.cells.toList:=by
 unfold wU at h
 split at h
 ·exact h
 ·exact h.elim
 ·rename_i h1 J;cases v <;> first | exact h | exact absurd rfl (h1 _)
def Hc:List (List Value)→Nat→(List Value→Prop)→Prop
 | [],_,_=>False
 | r::_,0,k=>k r
 | _::rs,n+1,k=>Hc rs n k
theorem KN:∀ {rs:List (List Value)} {n:Nat} {k:List Value→Prop},Hc rs n k→∃ r,rs[n]?=some r∧k r
 | [],_,_,h=>h.elim
 | r::_,0,_,h=>⟨r,rfl,h⟩
 | _::rs,n+1,k,h=>by obtain ⟨r,h1,J⟩:=KN (rs:=rs) h; exact ⟨r,by simpa using h1,J⟩
def HG (b:aj) (row:Nat) (k:List Value→Prop):Prop :=
 match b with
 | .aS _ _ rows=>Hc rows row k
 | .flat _ n _ get=>row < n∧k (get row)
 | .cc _=>False
theorem Lz {b:aj} {row:Nat} {k:List Value→Prop} (h:HG b row k):row < b.n∧k (b.row row):=by
 cases b with
 | aS o e rows =>
  obtain ⟨r,h1,J⟩:=KN h;exact ⟨(List.getElem?_eq_some_iff.1 h1).1,by simpa [aj.row,List.getD,h1] using J⟩
 | flat o n e get=>exact h
 | cc r=>exact h.elim
def yH:List (Nat × Nat × Bool)→Nat→(Nat→Nat→Bool→Prop)→Prop
 | [],_,_=>False
 | (a,b,c)::_,0,k=>k a b c
 | _::l,n+1,k=>yH l n k
theorem AT:∀ {l:List (Nat × Nat × Bool)} {n:Nat} {k:Nat→Nat→Bool→Prop},yH l n k→∃ x,l[n]?=some x∧k x.1 x.2.1 x.2.2
 | [],_,_,h=>h.elim
 | x::_,0,_,h=>⟨x,rfl,h⟩
 | _::l,n+1,k,h=>by obtain ⟨r,h1,J⟩:=AT (l:=l) h; exact ⟨r,by simpa using h1,J⟩
def e9 (a b:Nat):Nat:=match a with | 0=>b | a+1=>(a+1)+b
theorem aB (a b:Nat):e9 a b=a+b:=by cases a <;> simp [e9]
def cJ (tt:TT) (t:TypeId) (k:TI→Prop):Prop:=match tt t with | some ti=>k ti | none=>False
theorem cN {tt:TT} {t:TypeId} {k:TI→Prop} (h:cJ tt t k):∃ ti,tt t=some ti∧k ti:=by
 unfold cJ at h; split at h
 ·exact ⟨_,by assumption,h⟩
 ·exact h.elim
def valOf (agg:Bool) (cs:List Value):Value:=match agg,cs with | true,cs=>.agg ⟨cs⟩ | false,v::_=>v | false,[]=>undef
def CY (agg:Bool) (cs:List Value) (k:Value→Prop):Prop :=
 match agg,cs with
 | true,cs=>k (.agg ⟨cs⟩)
 | false,v::_=>pY v k
 | false,[]=>k undef
def Ix (sp:Option Nat) (k:Nat→Prop):Prop:=match sp with | none=>k 0 | some c=>k c
theorem Mw {sp:Option Nat} {k:Nat→Prop} (h:Ix sp k):k (sp.getD 0):=by cases sp <;> exact h
def bZ (s:ByteArray) (i:Nat):Nat:=(s.data.toList.getD i 0).toNat
def Cz (tmps:List Value) (x:Operand) (k:QK):Prop:=bU tmps x fun v=>k v none
def OE (tmps:List Value) (c a b:Operand) (k:QK):Prop :=
 bU tmps c fun cv=>match cv with
  | .bool t=>bU tmps a fun av=>bU tmps b fun bv =>
   match av,bv with
   | .bool x,.bool y=>k (.bool (bif t then x else y)) none
   | av,bv=>br t (k av none) (k bv none)
  | _=>False
def mQ:List Value→List Value→Option (List Value)
 | [],l=>some l
 | .int q n::z,.int q' n'::l=>match decide (q=q') && decide (n=n') with | true=>mQ z l | false=>none
 | .bool b::z,.bool b'::l=>match b == b' with | true=>mQ z l | false=>none
 | .string s::z,.string s'::l=>match Nat.beq s.size 0 && Nat.beq s'.size 0 with | true=>mQ z l | false=>none
 | _,_=>none
def yZ (z:List Value):Nat→List Value→Bool
 | 0,[]=>true
 | 0,_::_=>false
 | n+1,l=>match mQ z l with | some l'=>yZ z n l' | none=>false
def N1 (tt:TT) (t:TypeId) (aK:Nat) (k:QK):Prop :=
 cJ tt t fun ti=>match ti.kind with
  | .array n e=>cJ tt e fun te=>match Nat.beq te.size 1 && yZ te.zero n ti.zero with
   | true=>k (.pointer (some ⟨aK,0,none⟩)) (some (.flat true n te.size fun _=>te.zero))
   | false=>k (.pointer (some ⟨aK,0,none⟩)) (some (.aS true ti.size [ti.zero]))
  | _=>k (.pointer (some ⟨aK,0,none⟩)) (some (.aS true ti.size [ti.zero]))
def Pc (tt:TT) (tmps:List Value) (t:TypeId) (x:Operand) (aK:Nat) (k:QK):Prop :=
 cJ tt t fun ti=>bU tmps x fun v=>wU v fun cs=>match pO cs ti.size with
  | true=>k (.pointer (some ⟨aK,0,none⟩)) (some (.aS true ti.size [cs]))
  | false=>False
def Hd (tt:TT) (tmps:List Value) (H:aA) (t:TypeId) (a:Operand) (k:QK):Prop :=
 bU tmps a fun av=>match av with
  | .pointer (some ⟨id,row,sp⟩)=>cJ tt t fun ti=>gA H id fun b=>HG b row fun cs=>Ix sp fun c=>uy cs c ti.size fun vs=>CY ti.agg vs fun v=>k v none
  | _=>False
def KO (tt:TT) (tmps:List Value) (t:TypeId) (x:Operand) (f:Nat) (k:QK):Prop :=
 bU tmps x fun av=>match av with
  | .pointer (some ⟨id,row,sp⟩)=>cJ tt t fun ti=>match ti.kind with
   | .struct fs=>yH fs f fun off _ _=>Ix sp fun c=>k (.pointer (some ⟨id,row,some (c+off)⟩)) none
   | _=>False
  | _=>False
def N2 (tt:TT) (tmps:List Value) (t:TypeId) (x:Operand) (f:Nat) (k:QK):Prop :=
 bU tmps x fun av=>match av with
  | .agg cs=>cJ tt t fun ti=>match ti.kind with
   | .struct fs=>yH fs f fun off sz ag=>uy cs.toList off sz fun vs=>CY ag vs fun v=>k v none
   | _=>False
  | _=>False
def EH (tt:TT) (tmps:List Value) (H:aA) (t:TypeId) (x ix:Operand) (k:QK):Prop :=
 bU tmps x fun xv=>bU tmps ix fun iv=>match iv with
  | .int _ i=>cJ tt t fun ti=>match ti.kind with
   | .slice e=>match xv with
    | .slice (some ⟨id,row,none⟩) n _=>cJ tt e fun te=>gA H id fun b =>
     (0≤i∧i < (n:Int))∧match Nat.beq b.ah te.size with
      | true=>k (.pointer (some ⟨id,e9 row i.toNat,none⟩)) none
      | false=>False
    | _=>False
   | .array n e=>match xv with
    | .pointer (some ⟨id,row,none⟩)=>cJ tt e fun te=>gA H id fun b=>(0≤i∧i < (n:Int))∧match Nat.beq b.ah te.size with
     | true=>k (.pointer (some ⟨id,e9 row i.toNat,none⟩)) none
     | false=>k (.pointer (some ⟨id,row,some (0+i.toNat*te.size)⟩)) none
    | .pointer (some ⟨id,row,some c⟩)=>cJ tt e fun te=>(0≤i∧i < (n:Int))∧k (.pointer (some ⟨id,row,some (c+i.toNat*te.size)⟩)) none
    | _=>False
   | _=>False
  | _=>False
def N3 (tt:TT) (tmps:List Value) (t:TypeId) (x ix:Operand) (k:QK):Prop :=
 bU tmps x fun xv=>bU tmps ix fun iv=>match iv with
  | .int _ i=>cJ tt t fun ti=>match ti.kind with
   | .str=>match xv with
    | .string s=>(0≤i∧i < (s.size:Int))∧k (.int .u8 (bZ s i.toNat)) none
    | _=>False
   | _=>False
  | _=>False
def FB (tmps:List Value) (x:Operand) (ix:Nat) (k:QK):Prop :=
 bU tmps x fun xv=>match xv with
  | .tuple vs=>qz vs.toList ix fun v=>k v none
  | _=>False
def LA (tmps:List Value) (fn:Fn) (first cap:List Operand) (k:QK):Prop :=
 pX tmps first fun a=>pX tmps cap fun b=>k (.func fn ⟨a⟩ ⟨b⟩) none
def P6 (tmps:List Value) (op:UnOp) (x:Operand) (k:QK):Prop :=
 bU tmps x fun xv=>match op,xv with
  | .neg,.int q n=>k (.int q (q.wrap (0 - n))) none
  | .not,.bool b=>k (.bool !b) none
  | .xor,.int q n=>match Op.intBits .xor q (if q.signed then -1 else q.max) n with
   | .pure v=>pY v fun v=>match cH v with | true=>k v none | false=>False
   | _=>False
  | _,_=>False
def eT:List Value→List Value→Bool
 | [],[]=>true
 | .bool a::l,.bool b::m=>(a == b) && eT l m
 | .int _ a::l,.int _ b::m=>(a == b) && eT l m
 | .string a::l,.string b::m=>(a.toList == b.toList) && eT l m
 | _,_=>false
def eZ:List Value→List Value→Bool
 | [],[]=>true
 | .bool _::l,.bool _::m=>eZ l m
 | .int q _::l,.int q' _::m=>decide (q=q') && eZ l m
 | .string _::l,.string _::m=>eZ l m
 | _,_=>false
def xx (P:Program) (t:TypeId) (zero:List Value):Prop :=
 ∀ xs ys w,eZ xs zero=true→eZ ys zero=true→(Op.equal t (.agg ⟨xs⟩) (.agg ⟨ys⟩)).run P w=.ok (eT xs ys) w∧∀ x y op,(eqGuard op t x y (.agg ⟨xs⟩) (.agg ⟨ys⟩)).run P w=.ok () w
def OF (op:BinOp) (q:IntKind) (a b:Int) (k:QK):Prop :=
 match op with
 | .and | .or | .xor | .andNot=>match Op.intBits op q a b with
  | .pure v=>pY v fun v=>match cH v with | true=>k v none | false=>False
  | _=>False
 | _=>False
def BQ (op:BinOp) (q q':IntKind) (a b:Int) (k:QK):Prop :=
 match op with
 | .shl=>xw (0≤b) <| k (.int q (q.wrap (a*2 ^ (min b.toNat q.bits)))) none
 | .shr=>xw (0≤b) <| k (.int q (a.fdiv (2 ^ (min b.toNat q.bits)))) none
 | op=>match decide (q=q') with
  | true=>match op with
   | .add=>k (.int q (q.wrap (a+b))) none
   | .sub=>k (.int q (q.wrap (a - b))) none
   | .mul=>k (.int q (q.wrap (a*b))) none
   | .quo=>xw (b≠0) <| k (.int q (q.wrap (a.tdiv b))) none
   | .rem=>xw (b≠0) <| k (.int q (a.tmod b)) none
   | .eql=>k (.bool (a == b)) none
   | .neq=>k (.bool (a != b)) none
   | .lss=>k (.bool (decide (a < b))) none
   | .leq=>k (.bool (decide (a≤b))) none
   | .gtr=>k (.bool (decide (a > b))) none
   | .geq=>k (.bool (decide (a ≥ b))) none
   | op=>OF op q a b k
  | false=>False
def Ni (op:BinOp) (a b:ByteArray) (k:QK):Prop :=
 match op with
 | .add=>(a.size+b.size < 9223372036854775808)∧k (.string (a++b)) none
 | .eql=>k (.bool (a.toList == b.toList)) none
 | .neq=>k (.bool !(a.toList == b.toList)) none
 | .lss=>k (.bool (Op.bytesLess a.toList b.toList)) none
 | .gtr=>k (.bool !(Op.bytesLess a.toList b.toList || a.toList == b.toList)) none
 | _=>False
def FC (tk:TK) (op:BinOp) (a b:Bool) (k:QK):Prop :=
 match tk,op with
 | .bool,.eql=>k (.bool (a == b)) none
 | .bool,.neq=>k (.bool !(a == b)) none
 | _,_=>False
def Gb (eqs:List TypeId) (t:TypeId) (zero:List Value) (op:BinOp) (a b:List Value) (k:QK):Prop :=
 match eqs.contains t && eZ a zero && eZ b zero,op with
 | true,.eql=>k (.bool (eT a b)) none
 | true,.neq=>k (.bool !(eT a b)) none
 | _,_=>False
def Gc (tk:TK) (op:BinOp) (a:Option Addr) (k:QK):Prop :=
 match tk,op,a with
 | .slice _,.eql,none=>k (.bool true) none
 | .slice _,.eql,some _=>k (.bool false) none
 | .slice _,.neq,none=>k (.bool false) none
 | .slice _,.neq,some _=>k (.bool true) none
 | _,_,_=>False
def CZ (tt:TT) (eqs:List TypeId) (tmps:List Value) (op:BinOp) (t:TypeId) (x y:Operand) (k:QK):Prop :=
 bU tmps x fun xv=>bU tmps y fun yv=>match xv,yv with
  | .int q a,.int q' b=>BQ op q q' a b k
  | .string a,.string b=>Ni op a b k
  | .bool a,.bool b=>cJ tt t fun ti=>FC ti.kind op a b k
  | .agg a,.agg b=>cJ tt t fun ti=>Gb eqs t ti.zero op a.toList b.toList k
  | .slice a _ _,.slice none 0 0=>cJ tt t fun ti=>Gc ti.kind op a k
  | _,_=>False
def bytesOf (get:Nat→List Value) (row n:Nat):List UInt8:=(List.range n).map fun r=>match get (row+r) with | .int _ x::_=>UInt8.ofNat x.toNat | _=>0
def Mx (tt:TT) (tmps:List Value) (H:aA) (src dst:TypeId) (x:Operand) (aK:Nat) (k:QK):Prop :=
 bU tmps x fun xv=>cJ tt src fun ts=>cJ tt dst fun td=>match td.kind,xv with
  | .int q,.int _ n=>match ts.kind with
   | .int _=>k (.int q (q.wrap n)) none
   | _=>False
  | .str,.string s=>match ts.kind with
   | .str=>k (.string s) none
   | _=>False
  | .str,.slice (some ⟨id,row,none⟩) n _=>match ts.kind with
   | .slice e=>cJ tt e fun te=>match te.kind with
    | .int .u8=>match n with
     | 0=>k (.string ⟨#[]⟩) none
     | n+1=>gA H id fun b=>match b.ah with
      | 1=>(row+(n+1)≤b.n∧∀ r,r < n+1→∃ x,b.row (row+r)=[.int .u8 x])∧k (.string ⟨⟨bytesOf b.row row (n+1)⟩⟩) none
      | _=>False
    | _=>False
   | _=>False
  | .str,.slice none 0 0=>match ts.kind with
   | .slice e=>cJ tt e fun te=>match te.kind with
    | .int .u8=>k (.string ⟨#[]⟩) none
    | _=>False
   | _=>False
  | .slice e,.string s=>match ts.kind with
   | .str=>cJ tt e fun te=>match te.kind with
    | .int .u8=>k (.slice (some ⟨aK,0,none⟩) s.size aO) (some (.flat false s.size 1 fun r=>[.int .u8 (bZ s r)]))
    | _=>False
   | _=>False
  | _,_=>False
def HH (tmps:List Value) (tt:TT) (t:TypeId) (x:Operand) (k:QK):Prop :=
 bU tmps x fun xv=>cJ tt t fun ti=>match ti.kind,xv with
  | .str,.string s=>k (.int .i64 s.size) none
  | .slice _,.slice _ n _=>k (.int .i64 n) none
  | _,_=>False
def Pd (tmps:List Value) (x y:Operand) (k:QK):Prop :=
 bU tmps x fun xv=>bU tmps y fun yv=>match xv,yv with
  | .int q a,.int _ b=>k (.int q (if b > a then b else a)) none
  | _,_=>False
def Pe (tmps:List Value) (x y:Operand) (k:QK):Prop :=
 bU tmps x fun xv=>bU tmps y fun yv=>match xv,yv with
  | .int q a,.int _ b=>k (.int q (if b < a then b else a)) none
  | _,_=>False
def CA (tmps:List Value) (fs:List (Nat × Nat × Bool)):List (Nat × Operand)→List Value→(List Value→Prop)→Prop
 | [],cs,k=>k cs
 | p::ps,cs,k=>bU tmps p.2 fun v=>wU v fun vs=>yH fs p.1 fun off sz _=>match pO vs sz with
  | true=>uS cs off vs fun eM=>CA tmps fs ps eM k
  | false=>False
def xd (sz:Nat):Nat→Nat→List (Nat × Nat × Bool)
 | _,0=>[]
 | off,n+1=>(off,sz,true)::xd sz (off+sz) n
def N4 (tt:TT) (tmps:List Value) (t:TypeId) (parts:List (Nat × Operand)) (k:QK):Prop :=
 cJ tt t fun ti=>match ti.kind with
  | .struct fs=>CA tmps fs parts ti.zero fun cs=>k (.agg ⟨cs⟩) none
  | .array n e=>cJ tt e fun te=>CA tmps (xd te.size 0 n) parts ti.zero fun cs=>k (.agg ⟨cs⟩) none
  | _=>False
def cR (τ:List Nat):Nat→Value→Option Value
 | 0,_=>none
 | k+1,v=>match v with
  | .bool b=>some (.bool b)
  | .int q n=>some (.int q n)
  | .string s=>some (.string s)
  | .pointer none=>some (.pointer none)
  | .pointer (some ⟨id,row,sp⟩)=>match τ[id]? with | some vg=>some (.pointer (some ⟨vg,row,sp⟩)) | none=>none
  | .slice none 0 0=>some (.slice none 0 0)
  | .slice (some ⟨id,row,none⟩) n c=>match τ[id]? with | some vg=>some (.slice (some ⟨vg,row,none⟩) n c) | none=>none
  | .nilFunc=>some .nilFunc
  | .agg ⟨l⟩=>match l.foldr (fun v acc=>match cR τ k v,acc with | some x,some xs=>some (x::xs) | _,_=>none) (some []) with | some l'=>some (.agg ⟨l'⟩) | none=>none
  | .tuple ⟨l⟩=>match l.foldr (fun v acc=>match cR τ k v,acc with | some x,some xs=>some (x::xs) | _,_=>none) (some []) with | some l'=>some (.tuple ⟨l'⟩) | none=>none
  | .func fn ⟨l⟩ ⟨m⟩=>match l.foldr (fun v acc=>match cR τ k v,acc with | some x,some xs=>some (x::xs) | _,_=>none) (some []),m.foldr (fun v acc=>match cR τ k v,acc with | some x,some xs=>some (x::xs) | _,_=>none) (some []) with
   | some l',some m'=>some (.func fn ⟨l'⟩ ⟨m'⟩) | _,_=>none
  | _=>none
def mg (τ:List Nat) (k:Nat) (l:List Value):Option (List Value):=l.foldr (fun v acc=>match cR τ k v,acc with | some x,some xs=>some (x::xs) | _,_=>none) (some [])
def mh:List Value→Bool
 | []=>true
 | v::l=>cH v && mh l
theorem dC:∀ {l:List Value},mh l=true→∀ v∈l,cH v=true
 | [],_,v,hv=>by simp at hv
 | v::l,h,u,hu=>by
  simp only [mh,Bool.and_eq_true] at h;rcases List.mem_cons.1 hu with e | e
  ·rw [e]; exact h.1
  ·exact dC h.2 u e
structure ar (b c:aj):Prop where
 own:b.own=true→c.nP=true∧c.n=b.n
 ah:c.ah=b.ah
 n:b.n≤c.n
 row:∀ r,r < b.n→b.row r=c.row r
 flat:∀ r,r < b.n→∀ v∈b.row r,cH v=true
theorem ar.aE {o o':Bool} {n e:Nat} {g:Nat→List Value} (h:o=true→o'=true) (hs:∀ r,r < n→mh (g r)=true):ar (.flat o n e g) (.flat o' n e g) :=
 ⟨fun ho=>⟨h ho,rfl⟩,rfl,Nat.le_refl _,fun _ _=>rfl,fun r hr v hv=>dC (hs r hr) v hv⟩
def y5 (H:aA):List Nat→List aj→Prop→Prop
 | [],[],k=>k
 | s::σ,b::bs,k=>match b with
  | .cc _=>False
  | b=>gA H s fun c=>ar b c∧y5 H σ bs k
 | _,_,_=>False
def C0 (σ:List Nat) (b c:aj):Prop:=ar b c∨∃ o e r r',b=.aS false e [r]∧c=.aS o e [r']∧mg σ 3 r=some r'
def Cf (H:aA) (τ:List Nat):List Nat→List aj→Prop→Prop
 | [],[],k=>k
 | s::σ,b::bs,k=>match b with
  | .cc _=>False
  | b=>gA H s fun c=>C0 τ b c∧Cf H τ σ bs k
 | _,_,_=>False
def He (Φ:yY) (g:FuncId) (args:List Value) (H:aA) (aK:Nat) (k:QK):Prop :=
 match Φ g with
 | some (.p S)=>∃ i:S.ι,S.args i=args∧S.pre i∧pY (S.val i) fun v=>k v none
 | some (.q S)=>∃ (i:S.ι) (σ:List Nat),mg σ 3 (S.args i)=some args∧S.pre i∧y5 H σ (S.ae i) (∃ v,cR (σ++[aK]) 3 (S.val i)=some v∧pY v fun v=>k v (S.new i))
 | some (.r S)=>∃ (i:S.ι) (σ:List Nat),mg σ 3 (S.args i)=some args∧S.pre i∧Cf H σ σ (S.ae i) (∃ v,cR (σ++[aK]) 3 (S.val i)=some v∧pY v fun v=>k v (S.new i))
 | none=>False
def uj (c l:Nat):Nat:=match decide (c=aO) with | true=>aO | false=>c - l
def setRow:List (List Value)→Nat→List Value→(List (List Value)→Prop)→Prop
 | [],_,_,_=>False
 | _::rs,0,r,k=>k (r::rs)
 | q::rs,n+1,r,k=>setRow rs n r fun b8=>k (q::b8)
def rowsOf (tmps:List Value) (sz:Nat):List (Nat × Operand)→List (List Value)→(List (List Value)→Prop)→Prop
 | [],rows,k=>k rows
 | p::ps,rows,k=>bU tmps p.2 fun v=>wU v fun cs=>match pO cs sz with
  | true=>setRow rows p.1 cs fun iQ=>rowsOf tmps sz ps iQ k
  | false=>False
def HI (n:Nat) (r:List Value) (k:List (List Value)→Prop):Prop:=match n with
 | 0=>k []
 | n+1=>HI n r fun l=>k (r::l)
def GJ (ah:Nat) (rows:List (List Value)) (k:aj→Prop):Prop :=
 match rows with
 | []=>k (.flat true 0 ah fun _=>[])
 | r::rs=>k (.aS true ah (r::rs))
def Kt (tt:TT) (tmps:List Value) (t:TypeId) (n:Nat) (ps:List (Nat × Operand)) (aK:Nat) (k:QK):Prop :=
 cJ tt t fun ti=>match ti.kind with
  | .slice e=>cJ tt e fun te=>match Nat.ble (n*te.size) 16777216 with
   | true=>HI n te.zero fun abJ=>rowsOf tmps te.size ps abJ fun rows=>GJ te.size rows fun b=>k (.slice (some ⟨aK,0,none⟩) n n) (some b)
   | false=>False
  | _=>False
def KP (tt:TT) (tmps:List Value) (t:TypeId) (x y:Operand) (aK:Nat) (k:QK):Prop :=
 bU tmps x fun xv=>bU tmps y fun yv=>cJ tt t fun ti=>match ti.kind with
  | .slice e=>cJ tt e fun te=>match mh te.zero,xv,yv with
   | true,.int _ n,.int _ m=>(0≤n∧n≤m∧m*te.bytes≤140737488355328)∧k (.slice (some ⟨aK,0,none⟩) n.toNat m.toNat) (some (.flat true n.toNat te.size fun _=>te.zero))
   | _,_,_=>False
  | _=>False
def lf (tmps:List Value) (x:Option Operand) (d:Int) (k:Int→Prop):Prop :=
 match x with
 | none=>k d
 | some x=>bU tmps x fun v=>match v with | .int _ n=>k n | _=>False
def GK (tt:TT) (tmps:List Value) (H:aA) (t:TypeId) (x:Operand) (lo hi mx:Option Operand) (k:QK):Prop :=
 bU tmps x fun xv=>cJ tt t fun ti=>match ti.kind,xv with
  | .str,.string s=>match mx with
   | none=>lf tmps lo 0 fun l=>lf tmps hi s.size fun h=>(0≤l∧l≤h∧h≤s.size)∧k (.string (s.extract l.toNat h.toNat)) none
   | some _=>False
  | .slice e,.slice (some ⟨id,row,none⟩) n c=>cJ tt e fun te=>gA H id fun b=>match Nat.beq b.ah te.size with
   | true=>match hi,mx with
    | hi,none=>lf tmps lo 0 fun l=>lf tmps hi n fun h=>(0≤l∧l≤h∧h≤n)∧k (.slice (some ⟨id,e9 row l.toNat,none⟩) (h.toNat - l.toNat) (uj c l.toNat)) none
    | some h0,some m=>lf tmps lo 0 fun l=>bU tmps h0 fun hv=>bU tmps m fun mv=>match hv,mv with
     | .int _ h,.int _ m=>(0≤l∧l≤h∧h≤m∧m≤n)∧k (.slice (some ⟨id,e9 row l.toNat,none⟩) (h.toNat - l.toNat) (m.toNat - l.toNat)) none
     | _,_=>False
    | none,some _=>False
   | false=>False
  | .slice e,.slice (some ⟨id,row,some b0⟩) n _=>cJ tt e fun te=>gA H id fun b=>match Nat.beq b.ah te.size with
   | true=>match hi,mx with
    | hi,none=>lf tmps lo 0 fun l=>lf tmps hi n fun h=>(0≤l∧l≤h∧h≤b0)∧k (.slice (some ⟨id,e9 row l.toNat,some (b0 - l.toNat)⟩) (h.toNat - l.toNat) aO) none
    | some h0,some m=>lf tmps lo 0 fun l=>bU tmps h0 fun hv=>bU tmps m fun mv=>match hv,mv with
     | .int _ h,.int _ m=>(0≤l∧l≤h∧h≤m∧m≤b0)∧k (.slice (some ⟨id,e9 row l.toNat,none⟩) (h.toNat - l.toNat) (m.toNat - l.toNat)) none
     | _,_=>False
    | none,some _=>False
   | false=>False
  | .array n e,.pointer (some ⟨id,row,none⟩)=>cJ tt e fun te=>gA H id fun b=>match Nat.beq b.ah te.size with
   | true=>match mx with
    | none=>lf tmps lo 0 fun l=>lf tmps hi n fun h=>(0≤l∧l≤h∧h≤n∧row+n≤b.n∧b.nP=true)∧k (.slice (some ⟨id,e9 row l.toNat,none⟩) (h.toNat - l.toNat) (n - l.toNat)) none
    | some _=>False
   | false=>False
  | .slice e,.slice none 0 0=>cJ tt e fun _=>match hi,mx with
   | hi,none=>lf tmps lo 0 fun l=>lf tmps hi 0 fun h=>(0≤l∧l≤h∧h≤0)∧k (.slice none 0 0) none
   | some h0,some m=>lf tmps lo 0 fun l=>bU tmps h0 fun hv=>bU tmps m fun mv=>match hv,mv with
    | .int _ h,.int _ m=>(0≤l∧l≤h∧h≤m∧m≤0)∧k (.slice none 0 0) none
    | _,_=>False
   | none,some _=>False
  | _,_=>False
def Pf (tmps:List Value) (tt:TT) (t:TypeId) (x:Operand) (k:QK):Prop :=
 bU tmps x fun xv=>cJ tt t fun ti=>match ti.kind,xv with
  | .slice _,.slice none 0 0=>k (.int .i64 0) none
  | _,_=>False
def LB (tt:TT) (tmps:List Value) (t u:TypeId) (x y:Operand) (aK:Nat) (k:QK):Prop :=
 bU tmps x fun xv=>bU tmps y fun yv=>cJ tt t fun ti=>match ti.kind with
  | .slice e=>cJ tt e fun te=>cJ tt u fun tu=>match tu.kind,mh te.zero,xv,yv with
   | .int _,true,.slice none 0 0,.int .i64 n=>(0 < n∧n*te.bytes≤140737488355328)∧k (.slice (some ⟨aK,0,none⟩) n.toNat aO) (some (.flat true n.toNat te.size fun _=>te.zero))
   | _,_,_,_=>False
  | _=>False
abbrev FT:=List Value→aA→(Value→aA→Prop)→Prop
structure Env where
 tt:TT
 eqs:List TypeId
 Φ:yY
 Ψ:FuncId→Option FT:=fun _=>none
 base:Nat:=0
 ib:Bool:=false
 ys:List (Nat × FT):=[]
 rd:Bool:=false
 nu:Nu:=fun _=>none
 It:FuncId→Option (Nat→FT→Nu→FT):=fun _=>none
def kK (E:Env) (op:Op) (tmps:List Value) (H:aA) (aK:Nat) (k:QK):Prop :=
 match op with
 | .move x | .assign x=>Cz tmps x k
 | .pick c a b=>OE tmps c a b k
 | .alloc t=>N1 E.tt t aK k
 | .box t x=>Pc E.tt tmps t x aK k
 | .build t ps=>N4 E.tt tmps t ps.toList k
 | .load t a=>Hd E.tt tmps H t a k
 | .buildSlice t n ps=>Kt E.tt tmps t n ps.toList aK k
 | .makeSlice t x y=>KP E.tt tmps t x y aK k
 | .slice t x lo hi mx=>GK E.tt tmps H t x lo hi mx k
 | .fieldAddr t x f=>KO E.tt tmps t x f k
 | .field t x f=>N2 E.tt tmps t x f k
 | .indexAddr t x i=>EH E.tt tmps H t x i k
 | .index t x i=>N3 E.tt tmps t x i k
 | .extract x i=>FB tmps x i k
 | .makeFunc fn a b=>LA tmps fn a.toList b.toList k
 | .unOp op _ x=>P6 tmps op x k
 | .binOp op t x y _=>CZ E.tt E.eqs tmps op t x y k
 | .convert s d x=>Mx E.tt tmps H s d x aK k
 | .call c=>match c.callee with
  | .value f=>bU tmps f fun fv=>match fv with
   | .func (.func g) a b=>pX tmps c.args.toList fun vs=>qA a.toList vs fun l=>qA l b.toList fun args=>He E.Φ g args H aK k
   | _=>False
  | .builtin .len=>match c.args.toList,c.argTypes.toList with
   | [x],[t]=>HH tmps E.tt t x k
   | _,_=>False
  | .builtin .max=>match c.args.toList with
   | [x,y]=>Pd tmps x y k
   | _=>False
  | .builtin .cap=>match c.args.toList,c.argTypes.toList with
   | [x],[t]=>Pf tmps E.tt t x k
   | _,_=>False
  | .builtin .append=>match c.args.toList,c.argTypes.toList with
   | [x,y],[t,u]=>LB E.tt tmps t u x y aK k
   | _,_=>False
  | .builtin .min=>match c.args.toList with
   | [x,y]=>Pe tmps x y k
   | _=>False
  | _=>False
 | _=>False
def eW (P:Program) (op:Op) (tmps:List Value) (H:aA) (aK:Nat) (k:QK):Prop :=
 ∃ v nb,k v nb∧∀ (o:Oper) (ν:Nu) (a:Act) (w:World) (r:Option Nat) (n:Nat),o.op=op→(∀ x∈op.operands,fh ν tmps a x)→bQ ν H w→ν aK=none →
  ∀ next Q,(∀ v' w' ak,mT ν ak aK w w' v v' nb→next (a.put o.dst v') w')→o.wpIn (WF r) n P a w next Q
def p8 (P:Program) (bn:Nu) (op:Op) (tmps:List Value) (v:Value):Prop :=
 (∀ c,op≠.defer c)∧∀ (o:Oper) (ν:Nu) (a:Act) (w:World),bn.le ν→o.op=op→(∀ x∈op.operands,fh ν tmps a x)→∃ v',au ν v v'∧(execOp a.eval o).run P w=.ok (.value v') w
theorem jy {P:Program} {r:Option Nat} {n:Nat} {o:Oper} {a:Act} {w w':World} {v':Value} (hd:∀ c,o.op≠.defer c)
  (h:(execOp a.eval o).run P w=.ok (.value v') w') (next:Act→World→Prop) (Q:Exit→Act→World→Prop) (hn:next (a.put o.dst v') w') :
  o.wpIn (WF r) n P a w next Q:=by
 refine ⟨fun _ _=>trivial,?_⟩
 rw [Oper.semAt_eq _ _ _ hd,h];exact hn
def nK (P:Program) (bn:Nu) (G:aA) (op:Op) (tmps:List Value) (v:Value):Prop :=
 (∀ c,op≠.defer c)∧∀ (o:Oper) (ν:Nu) (a:Act) (w:World),bn.le ν→o.op=op→(∀ x∈op.operands,fh ν tmps a x)→bQ ν G w→∃ v',au ν v v'∧(execOp a.eval o).run P w=.ok (.value v') w
def sC (P:Program) (op:Op) (tmps:List Value) (H:aA) (k:QK):Prop:=∃ v,k v none∧∀ bn,nK P bn H op tmps v
theorem sC.value {P:Program} {op:Op} {tmps:List Value} {H:aA} {k:QK} (hd:∀ c,op≠.defer c) {v:Value} (hk:k v none)
  (h:∀ (o:Oper) (ν:Nu) (a:Act) (w:World),o.op=op→(∀ x∈op.operands,fh ν tmps a x)→bQ ν H w→∃ v',au ν v v'∧(execOp a.eval o).run P w=.ok (.value v') w):sC P op tmps H k :=
 ⟨v,hk,fun _=>⟨hd,fun o ν a w _ ho ha hH=>h o ν a w ho ha hH⟩⟩
theorem eW.value {P:Program} {op:Op} {tmps:List Value} {H:aA} {aK:Nat} {k:QK} (hd:∀ c,op≠.defer c) {v:Value} (hk:k v none)
  (h:∀ (o:Oper) (ν:Nu) (a:Act) (w:World),o.op=op→(∀ x∈op.operands,fh ν tmps a x)→bQ ν H w→∃ v',au ν v v'∧(execOp a.eval o).run P w=.ok (.value v') w):eW P op tmps H aK k :=
 ⟨v,none,hk,fun o ν a w r n ho ha hH _ next Q hn=>by
  obtain ⟨v',hv,hr⟩:=h o ν a w ho ha hH;exact jy (by rw [ho]; exact hd) hr next Q (hn _ _ ν ⟨ν.le_refl,fun _ _=>rfl,hv,Below.refl _ _,fun _=>rfl,(fun b hb=>by cases hb)⟩)⟩
theorem sC.ok {P:Program} {op:Op} {tmps:List Value} {H:aA} {aK:Nat} {k:QK} (h:sC P op tmps H k):eW P op tmps H aK k :=
 let ⟨_,hk,hv⟩:=h
 .value (hv fun _=>none).1 hk fun o ν a w ho ha hH=>(hv ν).2 o ν a w ν.le_refl ho ha hH
open Go Go.RowKit
section
variable {P:Program} {tt:TT} {Φ:yY} {w:World} {ν:Nu} {aK:Nat} {k:QK} {tmps:List Value} {H:aA}
theorem Zu {x:Operand} (h:Cz tmps x k):eW P (.move x) tmps H aK k:=by
 obtain ⟨v,hk,hv⟩:=cQ h;exact .value (by simp) hk fun o ν a w ho ha _=>⟨_,hv ν a (ha x (by simp [Op.operands])),by simp [execOp,ho]⟩
theorem U4 {x:Operand} (h:Cz tmps x k):eW P (.assign x) tmps H aK k:=by
 obtain ⟨v,hk,hv⟩:=cQ h;exact .value (by simp) hk fun o ν a w ho ha _=>⟨_,hv ν a (ha x (by simp [Op.operands])),by simp [execOp,ho]⟩
theorem au.jV {ν:Nu} {b:Bool} {r:Value} (h:au ν (.bool b) r):r=.bool b:=by cases h; rfl
theorem au.fG {ν:Nu} {k:IntKind} {x:Int} {r:Value} (h:au ν (.int k x) r):r=.int k x:=by cases h; rfl
theorem au.rT {ν:Nu} {x:ByteArray} {r:Value} (h:au ν (.string x) r):r=.string x:=by cases h; rfl
theorem au.oJ {ν:Nu} {id row:Nat} {sp:Option Nat} {r:Value} (h:au ν (.pointer (some ⟨id,row,sp⟩)) r):∃ l,ν id=some l∧r=.pointer (some (l.at row (sp.getD 0))):=by
 cases h with | ptr _ _ _ l h=>exact ⟨l,h,rfl⟩
theorem Zv {c x y:Operand} (h:OE tmps c x y k):eW P (.pick c x y) tmps H aK k:=by
 obtain ⟨cv,h,hc⟩:=cQ h
 split at h
 ·rename_i t;obtain ⟨av,h,hx⟩:=cQ h;obtain ⟨bv,h,hy⟩:=cQ h
  split at h
  ·refine .value (by simp) h fun o ν a w ho ha _=>⟨_,.bool _,?_⟩
   have hc:=(hc ν a (ha c (by simp [Op.operands]))).jV
   have hx:=(hx ν a (ha x (by simp [Op.operands]))).jV
   have hy:=(hy ν a (ha y (by simp [Op.operands]))).jV
   cases t <;> simp [execOp,ho,hc,hx,hy,asBool]
  ·cases t with
   | true =>
    refine .value (by simp) h fun o ν a w ho ha _=>⟨_,hx ν a (ha x (by simp [Op.operands])),?_⟩
    have hc:=(hc ν a (ha c (by simp [Op.operands]))).jV
    simp [execOp,ho,hc,asBool]
   | false =>
    refine .value (by simp) h fun o ν a w ho ha _=>⟨_,hy ν a (ha y (by simp [Op.operands])),?_⟩
    have hc:=(hc ν a (ha c (by simp [Op.operands]))).jV
    simp [execOp,ho,hc,asBool]
 ·exact h.elim
theorem My {ν:Nu} {aK:Nat} (hn:ν aK=none) {ah:Nat} {cs:List Value} {eM:List Value} (hl:cs.length=ah) (hr:bg ν cs eM)
  (h1:∀ v∈cs,v.oneCell'=true) (w:World) (t:TypeId) :
  bN (ν.add aK ⟨w.heap.size,0,ah,1⟩) ⟨w.heap.size,0,ah,1⟩ (.aS true ah [cs]) { w with heap:=w.heap.push (.cells ⟨eM⟩ t) }:=by
 have dx:({ w with heap:=w.heap.push (.cells ⟨eM⟩ t) }:World).heap[w.heap.size]?=some (.cells ⟨eM⟩ t (0,0)):=by simp
 refine ⟨rfl,fun r iG=>?_,fun r iG j v hv=>?_,fun h=>by simp [aj.iN] at h,fun r iG v hv=>?_,fun _ _=>⟨_,_,dx,?_,?_⟩,(fun r h=>nomatch h),?_⟩
 ·have:r=0:=by simp [aj.n] at iG; exact iG
  subst this; simpa [aj.row,aj.ah] using hl
 ·have:r=0:=by simp [aj.n] at iG; exact iG
  subst this;have hv:cs[j]?=some v:=by simpa [aj.row] using hv
  obtain ⟨v',J,h3⟩:=hr.get hv;refine ⟨v',?_,h3.mono (Nu.jX hn)⟩;simp only [Loc.at,World.cell?,Nat.zero_mul,Nat.zero_add];rw [dx]
  simpa using J
 ·have:r=0:=by simp [aj.n] at iG; exact iG
  subst this; exact h1 v (by simpa [aj.row] using hv)
 ·simp [← hl,hr.1]
 ·simp [aj.n]
 ·simp
theorem mL {ν:Nu} {aK:Nat} (hn:ν aK=none) {b:aj} {w w':World} {l:Loc} {v v':Value} (hb:bN (ν.add aK l) l b w') (hB:Below w.heap.size w w') (hl:w.heap.size≤l.aJ)
  (hv:au (ν.add aK l) v v'):mT ν (ν.add aK l) aK w w' v v' (some b) :=
 ⟨Nu.jX hn,fun id bm=>Nu.iM bm,hv,hB,(fun h=>by cases h),(fun b' bA=>by cases bA; exact ⟨l,Nu.add_same,hb,hl⟩)⟩
theorem yd (w:World) (o:Obj):Below w.heap.size w { w with heap:=w.heap.push o }:=(Below.refl _ w).alloc (Nat.le_refl _) o
theorem AU:∀ {z l l':List Value},mQ z l=some l'→l=z++l'∧∀ v∈z,cH v=true
 | [],l,l',h=>by simp [mQ] at h; exact ⟨by simp [h],fun v hv=>by cases hv⟩
 | .int q n::z,[],l',h=>by simp [mQ] at h
 | .int q n::z,x::l,l',h=>by
  cases x <;> simp only [mQ] at h <;> try (cases h)
  split at h
  ·rename_i hd;simp only [Bool.and_eq_true,decide_eq_true_eq] at hd;obtain ⟨rfl,rfl⟩:=hd;obtain ⟨h1,J⟩:=AU h;exact ⟨by rw [h1]; rfl,fun v hv=>(List.mem_cons.1 hv).elim (fun e=>by rw [e]; rfl) (fun e=>J v e)⟩
  ·cases h
 | .bool b::z,[],l',h=>by simp [mQ] at h
 | .bool b::z,x::l,l',h=>by
  cases x <;> simp only [mQ] at h <;> try (cases h)
  split at h
  ·rename_i hd;have hd:=eq_of_beq hd;subst hd;obtain ⟨h1,J⟩:=AU h;exact ⟨by rw [h1]; rfl,fun v hv=>(List.mem_cons.1 hv).elim (fun e=>by rw [e]; rfl) (fun e=>J v e)⟩
  ·cases h
 | .string s::z,[],l',h=>by simp [mQ] at h
 | .string s::z,x::l,l',h=>by
  cases x <;> simp only [mQ] at h <;> try (cases h)
  split at h
  ·rename_i s' _ hd;simp only [Bool.and_eq_true] at hd;have e1:=Nat.eq_of_beq_eq_true hd.1;have e2:=Nat.eq_of_beq_eq_true hd.2;have e:s=s':=by
    apply ByteArray.ext;apply Array.ext
    ·show s.size=s'.size; omega
    ·intro i h1 J;have:i < s.size:=h1;omega
   subst e;obtain ⟨h1,J⟩:=AU h;exact ⟨by rw [h1]; rfl,fun v hv=>(List.mem_cons.1 hv).elim (fun e=>by rw [e]; rfl) (fun e=>J v e)⟩
  ·cases h
theorem KQ {z:List Value}:∀ {n:Nat} {l:List Value},yZ z n l=true→l.length=n*z.length∧(∀ r,r < n→∀ (j:Nat) v,z[j]?=some v→l[r*z.length+j]?=some v)∧(0 < n→∀ v∈z,cH v=true)
 | 0,[],_=>⟨by simp,fun r hr=>absurd hr (by omega),fun h=>absurd h (by omega)⟩
 | 0,_::_,h=>by simp [yZ] at h
 | n+1,l,h=>by
  simp only [yZ] at h
  split at h
  ·rename_i l' he;obtain ⟨h1,J⟩:=AU he;obtain ⟨h3,h4,_⟩:=KQ h;refine ⟨by rw [h1,List.length_append,h3,Nat.add_mul]; omega,fun r hr j v hv=>?_,fun _=>J⟩
   have hj:j < z.length:=(List.getElem?_eq_some_iff.1 hv).1;rw [h1];cases r with
   | zero=>rw [Nat.zero_mul,Nat.zero_add,List.getElem?_append_left hj]; exact hv
   | succ r =>
    rw [List.getElem?_append_right (by rw [Nat.add_mul]; omega),show (r+1)*z.length+j - z.length=r*z.length+j by rw [Nat.add_mul]; omega]
    exact h4 r (by omega) j v hv
  ·cases h
theorem Wz (hT:∀ t ti,tt t=some ti→aD P t ti) {t:TypeId} (h:N1 tt t aK k):eW P (.alloc t) tmps H aK k:=by
 obtain ⟨ti,ht,h⟩:=cN h;have bf:=hT _ _ ht;obtain ⟨i,hi,_,_,z,hz,ig⟩:=bf.info;have iH:k (.pointer (some ⟨aK,0,none⟩)) (some (.aS true ti.size [ti.zero]))→eW P (.alloc t) tmps H aK k:=fun h=>by
  refine ⟨_,_,h,fun o ν a w r n ho ha hH hn next Q hN=>jy (w':={ w with heap:=w.heap.push (.cells ⟨ti.zero⟩ t) }) (v':=.pointer (some ⟨w.heap.size,0,none⟩)) (by simp [ho]) ?_ next Q (hN _ _ (ν.add aK ⟨w.heap.size,0,ti.size,1⟩) (mL hn (My hn bf.len (bf.self ν) bf.one w t) (yd _ _) (Nat.le_refl _) ?_))⟩
  ·simp [execOp,ho,Instr.alloc,vO hi hz,newVar,newRow,ig]
  ·have:=au.ptr (ν:=ν.add aK ⟨w.heap.size,0,ti.size,1⟩) aK 0 none _ Nu.add_same
   simpa [Loc.at] using this
 split at h
 ·rename_i n e hk;obtain ⟨te,he,h⟩:=cN h;have C1:=hT _ _ he
  split at h
  ·rename_i o9;rw [Bool.and_eq_true] at o9;obtain ⟨z1,z2,z3⟩:=KQ o9.2;refine ⟨_,_,h,fun o ν a w r nn ho ha hH hn next Q hN=>jy (w':={ w with heap:=w.heap.push (.cells ⟨ti.zero⟩ t) }) (v':=.pointer (some ⟨w.heap.size,0,none⟩)) (by simp [ho]) ?_ next Q (hN _ _ (ν.add aK ⟨w.heap.size,0,te.size,n⟩) (mL hn ?_ (yd _ _) (Nat.le_refl _) ?_))⟩
   ·simp [execOp,ho,Instr.alloc,vO hi hz,newVar,newRow,ig]
   ·have dx:({ w with heap:=w.heap.push (.cells ⟨ti.zero⟩ t) }:World).heap[w.heap.size]?=some (.cells ⟨ti.zero⟩ t (0,0)):=by show (w.heap.push _)[w.heap.size]?=_; simp
    refine ⟨rfl,fun r hr=>C1.len,fun r hr j v hv=>⟨v,?_,au.jT (z3 (by have:r < n:=hr; omega) v (List.mem_of_getElem? hv))⟩,fun _ r hr v hv=>z3 (by have:r < n:=hr; omega) v hv,fun r hr v hv=>C1.one v hv,fun _ _=>⟨_,_,dx,?_,Nat.le_refl _⟩,(fun r h=>nomatch h),?_⟩
    ·have hr:r < n:=hr;have hv:te.zero[j]?=some v:=hv;have J:=z2 r hr j v hv;simp only [Loc.at,World.cell?,Nat.zero_add];rw [dx];simp only [Option.isSome_none,Bool.false_eq_true,if_false];rw [← C1.len]
     simpa using J
    ·simp [z1,C1.len]
    ·show w.heap.size < (w.heap.push _).size
     simp
   ·have:=au.ptr (ν:=ν.add aK ⟨w.heap.size,0,te.size,n⟩) aK 0 none _ Nu.add_same
    simpa [Loc.at] using this
  ·exact iH h
 ·exact iH h
theorem abK (hT:∀ t ti,tt t=some ti→aD P t ti) {t:TypeId} {x:Operand} (h:Pc tt tmps t x aK k):eW P (.box t x) tmps H aK k:=by
 obtain ⟨ti,ht,h⟩:=cN h;obtain ⟨v,h,hv⟩:=cQ h;have h:=AS h;have bf:=hT _ _ ht
 split at h
 ·rename_i he;obtain ⟨h1,J⟩:=x0 he;refine ⟨_,_,h,fun o ν a w r n ho ha hH hn next Q hN=>?_⟩
  have hc:=(hv ν a (ha x (by simp [Op.operands]))).cells
  refine jy (w':={ w with heap:=w.heap.push (.cells (a.eval x).cells t) }) (v':=.pointer (some ⟨w.heap.size,0,none⟩)) (by simp [ho]) ?_ next Q (hN _ _ (ν.add aK ⟨w.heap.size,0,ti.size,1⟩) (mL hn (My hn h1 hc J w t) (yd _ _) (Nat.le_refl _) ?_))
  ·simp [execOp,ho,Instr.box,newVar,newRow]
  ·have:=au.ptr (ν:=ν.add aK ⟨w.heap.size,0,ti.size,1⟩) aK 0 none _ Nu.add_same
   simpa [Loc.at] using this
 ·exact h.elim
theorem LC {ag:Bool} {cs:List Value} {k:Value→Prop} (h:CY ag cs k):k (valOf ag cs):=by
 unfold CY at h
 split at h
 ·exact h
 ·exact vP h
 ·exact h
theorem E5 {ν:Nu} {ag:Bool} {cs eM:List Value} (h:bg ν cs eM):au ν (valOf ag cs) (if ag then .agg ⟨eM⟩ else eM.getD 0 undef):=by
 cases ag with
 | true=>exact .agg _ _ h.1 h.2
 | false =>
  cases cs with
  | nil=>rw [h.iL]; exact .undef ν
  | cons v l=>obtain ⟨y,ys,rfl,h1,_⟩:=h.jd; exact h1
theorem KR {l:Loc} {b:aj} (hb:bN ν l b w) {row off sz:Nat} {vs:List Value} (hr:row < b.n) (hl:vs.length=sz) (hv:∀ j v,vs[j]?=some v→(b.row row)[off+j]?=some v) :
  ∃ fL,bg ν vs fL∧fL.length=sz∧∀ j v,fL[j]?=some v→w.cell? ((l.at row off).add j)=some v:=by
 have key:∀ (vs:List Value) (off:Nat),(∀ j v,vs[j]?=some v→(b.row row)[off+j]?=some v)→∃ fL,bg ν vs fL∧∀ j v,fL[j]?=some v→w.cell? ((l.at row off).add j)=some v:=by
  intro vs
  induction vs with
  | nil=>exact fun _ _=>⟨[],.nil ν,fun j v hj=>by simp at hj⟩
  | cons v vs ih =>
   intro off hv;obtain ⟨v',h1,J⟩:=hb.cell row hr off v (by have:=hv 0 v rfl; simpa using this)
   obtain ⟨fL,h3,h4⟩:=ih (off+1) (fun j u hu=>by have:=hv (j+1) u (by simpa using hu); rwa [show off+(j+1)=off+1+j by omega] at this)
   refine ⟨v'::fL,.cons J h3,fun j u hu=>?_⟩
   cases j with
   | zero=>rw [Loc.jC]; simp at hu; subst hu; simpa using h1
   | succ j=>have:=h4 j u (by simpa using hu); rw [Loc.jC] at this ⊢; rwa [show off+(j+1)=off+1+j by omega]
 obtain ⟨fL,h1,J⟩:=key vs off hv;exact ⟨fL,h1,by rw [← h1.1,hl],J⟩
theorem Nj (hT:∀ t ti,tt t=some ti→aD P t ti) {t:TypeId} {x:Operand} (h:Hd tt tmps H t x k):sC P (.load t x) tmps H k:=by
 obtain ⟨av,h,hv⟩:=cQ h
 split at h
 ·rename_i id row sp;obtain ⟨ti,ht,h⟩:=cN h;obtain ⟨b,hb,h⟩:=gu h;obtain ⟨hr,h⟩:=Lz h;have h:=Mw h;obtain ⟨vs,h,hl,fm⟩:=x9 h;have h:=LC h;refine .value (by simp) h fun o ν a w ho ha hH=>?_
  obtain ⟨l,pf,hB⟩:=hH.aJ id b hb;obtain ⟨l',iV,he⟩:=(hv ν a (ha x (by simp [Op.operands]))).oJ
  rw [pf] at iV; cases iV;obtain ⟨fL,h1,J,h3⟩:=KR hB hr hl fm;exact ⟨_,E5 h1,by simp [execOp,ho,Instr.loadAt,he,Instr.sureAddr,J4 (hT _ _ ht) J h3]⟩
 ·exact h.elim
theorem Zw (hT:∀ t ti,tt t=some ti→aD P t ti) {t:TypeId} {x:Operand} (h:Hd tt tmps H t x k):eW P (.load t x) tmps H aK k:=(Nj hT h).ok
theorem RZ (hT:∀ t ti,tt t=some ti→aD P t ti) {t:TypeId} {x:Operand} {f:Nat} (h:KO tt tmps t x f k):eW P (.fieldAddr t x f) tmps H aK k:=by
 obtain ⟨av,h,hv⟩:=cQ h
 split at h
 ·rename_i id row sp;obtain ⟨ti,ht,h⟩:=cN h
  split at h
  ·rename_i fs hk;obtain ⟨x',qN,h⟩:=AT h;have h:=Mw h;obtain ⟨d,hu,hd⟩:=(hT _ _ ht).under;rw [hk] at hd;obtain ⟨fields,rfl,bc,hf⟩:=hd;have al:f < fields.size:=by rw [bc]; exact (List.getElem?_eq_some_iff.1 qN).1
   have jM:fields[f]?=some fields[f]:=Array.getElem?_eq_getElem al;obtain ⟨h1,J,⟨i,h3,h4⟩,_⟩:=hf f _ _ jM qN;refine .value (by simp) h fun o ν a w ho ha hH=>?_
   obtain ⟨l,hl,he⟩:=(hv ν a (ha x (by simp [Op.operands]))).oJ
   refine ⟨.pointer (some (l.at row (sp.getD 0+x'.1))),.ptr _ _ (some _) _ hl,?_⟩;have aI:¬ (i.size=0):=by omega
   simp [execOp,ho,Instr.fieldAt,dA hu,jM,he,Instr.sureAddr,fieldPlace,gl h3,aI,h1,Loc.jC]
  ·exact h.elim
 ·exact h.elim
theorem FD {P:Program} {f:Field} {x:Nat × Nat × Bool} (hf:yD P f x) {cs vs:List Value} (hl:vs.length=x.2.1) (hv:∀ j v,vs[j]?=some v→cs[x.1+j]?=some v) (w:World) :
  (part f.type ⟨cs⟩ f.offset).run P w=.ok (if x.2.2 then .agg ⟨vs⟩ else vs.getD 0 undef) w:=by
 obtain ⟨h1,J,⟨i,h3,h4⟩,d,h5,h6⟩:=hf;unfold part;simp only [Sem.run_bind,Ly h5,Result.andThen_ok,Sem.run_ite,h6]
 split
 ·simp only [Sem.run_bind,gl h3,Result.andThen_ok,h1,h4,← hl,Sem.run_pure]
  congr 2
  apply Array.ext';simp only [Array.toList_extract];apply List.ext_getElem?;intro j;by_cases hj:j < vs.length
  ·have:=hv j vs[j] (List.getElem?_eq_getElem hj);simp [List.extract,List.getElem?_take,List.getElem?_drop,hj,this]
  ·rw [List.getElem?_eq_none (by omega:vs.length≤j)]
   simp [List.extract,List.getElem?_take,hj]
 ·cases vs with
  | nil=>simp at hl; omega
  | cons v l =>
   have:=hv 0 v rfl;simp only [Nat.add_zero] at this;simp [h1,this]
theorem WA (hT:∀ t ti,tt t=some ti→aD P t ti) {t:TypeId} {x:Operand} {f:Nat} (h:N2 tt tmps t x f k):eW P (.field t x f) tmps H aK k:=by
 obtain ⟨av,h,hv⟩:=cQ h
 split at h
 ·rename_i cs;obtain ⟨ti,ht,h⟩:=cN h
  split at h
  ·rename_i fs hk;obtain ⟨x',qN,h⟩:=AT h;obtain ⟨vs,h,hl,fm⟩:=x9 h;have h:=LC h;obtain ⟨d,hu,hd⟩:=(hT _ _ ht).under;rw [hk] at hd;obtain ⟨fields,rfl,bc,hf⟩:=hd;have al:f < fields.size:=by rw [bc]; exact (List.getElem?_eq_some_iff.1 qN).1
   have jM:fields[f]?=some fields[f]:=Array.getElem?_eq_getElem al;have bf:=hf f _ _ jM qN;refine .value (by simp) h fun o ν a w ho ha hH=>?_
   obtain ⟨ys,he,hy⟩:=au.uh (xs:=cs.toList) (hv ν a (ha x (by simp [Op.operands])))
   -- the same stretch of the real cells
   have adr:∃ fL,bg ν vs fL∧fL.length=x'.2.1∧∀ j v,fL[j]?=some v→ys[x'.1+j]?=some v:=by
    refine ⟨(ys.drop x'.1).take vs.length,⟨?_,fun j a b ha hb=>?_⟩,?_,fun j v hj=>?_⟩
    ·rw [List.length_take,List.length_drop];have:∀ m,m < vs.length→x'.1+m < cs.toList.length:=fun m hm=>(List.getElem?_eq_some_iff.1 (fm m _ (List.getElem?_eq_getElem hm))).1
     have h0:=hy.1;by_cases zQ:vs.length=0
     ·omega
     ·have:=this (vs.length - 1) (by omega); omega
    ·rw [List.getElem?_take,List.getElem?_drop] at hb
     split at hb
     ·exact hy.2 _ a b (fm j a ha) hb
     ·cases hb
    ·rw [List.length_take,List.length_drop,hl];have:∀ m,m < vs.length→x'.1+m < cs.toList.length:=fun m hm=>(List.getElem?_eq_some_iff.1 (fm m _ (List.getElem?_eq_getElem hm))).1
     have h0:=hy.1;have hp:=bf.2.1;have:=this (vs.length - 1) (by omega); omega
    ·rw [List.getElem?_take,List.getElem?_drop] at hj
     split at hj
     ·exact hj
     ·cases hj
   obtain ⟨fL,h1,J,h3⟩:=adr;exact ⟨_,E5 h1,by simp [execOp,ho,Instr.field,dA hu,jM,he,asAgg,FD bf J h3]⟩
  ·exact h.elim
 ·exact h.elim
theorem TZ {x:Operand} {ix:Nat} (h:FB tmps x ix k):eW P (.extract x ix) tmps H aK k:=by
 obtain ⟨v,h,hv⟩:=cQ h
 split at h
 ·rename_i vs;obtain ⟨u,h1,J⟩:=ox h;refine .value (by simp) J fun o ν a w ho ha hH=>?_
  obtain ⟨ys,he,hy⟩:=au.nC (xs:=vs.toList) (hv ν a (ha x (by simp [Op.operands])))
  obtain ⟨u',h3,h4⟩:=hy.get h1;exact ⟨_,h4,by simp [execOp,ho,he,Instr.extract,h3]⟩
 ·exact h.elim
theorem Sv {fn:Fn} {f c:Array Operand} (h:LA tmps fn f.toList c.toList k):eW P (.makeFunc fn f c) tmps H aK k:=by
 obtain ⟨vs,h,h1⟩:=A7 h;obtain ⟨us,h,J⟩:=A7 h;refine .value (by simp) h fun o ν a w ho ha hH=>?_
 have h1:=h1 ν a (fun x hx=>ha x (by simp [Op.operands]; exact .inl (by simpa using hx)))
 have J:=J ν a (fun x hx=>ha x (by simp [Op.operands]; exact .inr (by simpa using hx)))
 refine ⟨.func fn ⟨f.toList.map a.eval⟩ ⟨c.toList.map a.eval⟩,.func fn _ _ _ _ h1.1 h1.2 J.1 J.2,?_⟩;simp only [execOp,ho,Instr.makeFunc];have e1:f.map a.eval=⟨f.toList.map a.eval⟩:=by apply Array.ext'; simp
 have e2:c.map a.eval=⟨c.toList.map a.eval⟩:=by apply Array.ext'; simp
 rw [e1,e2]; rfl
theorem ads {op:UnOp} {t:TypeId} {x:Operand} (h:P6 tmps op x k):eW P (.unOp op t x) tmps H aK k:=by
 obtain ⟨v,h,hv⟩:=cQ h
 split at h
 ·refine .value (by simp) h fun o ν a w ho ha hH=>⟨_,.int _ _,?_⟩
  have hv:=(hv ν a (ha x (by simp [Op.operands]))).fG
  simp [execOp,ho,hv,Op.unary,Op.intArith]
 ·refine .value (by simp) h fun o ν a w ho ha hH=>⟨_,.bool _,?_⟩
  have hv:=(hv ν a (ha x (by simp [Op.operands]))).jV
  simp [execOp,ho,hv,Op.unary]
 ·rename_i q m
  split at h
  ·rename_i u hu;have h:=vP h
   split at h
   ·rename_i hs;refine .value (by simp) h fun o ν a w ho ha hH=>⟨_,au.jT hs,?_⟩
    have hv:=(hv ν a (ha x (by simp [Op.operands]))).fG
    simp [execOp,ho,hv,Op.unary,hu]
   ·exact h.elim
  ·exact h.elim
 ·exact h.elim
end
open Go Go.RowKit
section
variable {P:Program} {tt:TT} {w:World} {ν:Nu} {aK:Nat} {k:QK} {tmps:List Value} {H:aA}
theorem au.tP {ν:Nu} {id row m c:Nat} {x:Value} (h:au ν (.slice (some ⟨id,row,none⟩) m c) x) :
  (∃ l c',ν id=some l∧(c'=c∨c=aO)∧m≤c'∧row+c'≤l.cap∧x=.slice (some (l.at row 0)) m c')∨(m=0∧(0=c∨c=aO)∧∃ b,x=.slice (some b) 0 0):=by
 cases h with
 | slice _ _ _ _ c' l h hc hn hr=>exact .inl ⟨l,c',h,hc,hn,hr,rfl⟩
 | void _ _ _ b hc=>exact .inr ⟨rfl,hc,b,rfl⟩
theorem au.N5 {ν:Nu} {id row b0 m c:Nat} {x:Value} (h:au ν (.slice (some ⟨id,row,some b0⟩) m c) x) :
  (∃ l c',ν id=some l∧b0≤c'∧m≤c'∧row+c'≤l.cap∧x=.slice (some (l.at row 0)) m c')∨(m=0∧b0=0∧∃ b,x=.slice (some b) 0 0):=by
 cases h with
 | lI _ _ _ _ c' l h hm hn hr=>exact .inl ⟨l,c',h,hm,hn,hr,rfl⟩
 | kE _ _ a=>exact .inr ⟨rfl,rfl,a,rfl⟩
theorem au.WB {ν:Nu} {id row b0 m c:Nat} {x:Value} (h:au ν (.slice (some ⟨id,row,some b0⟩) m c) x) :
  (∃ l c',ν id=some l∧b0≤c'∧m≤c'∧row+c'≤l.cap∧c=aO∧x=.slice (some (l.at row 0)) m c')∨(m=0∧b0=0∧c=aO∧∃ b,x=.slice (some b) 0 0):=by
 cases h with
 | lI _ _ _ _ c' l h hm hn hr=>exact .inl ⟨l,c',h,hm,hn,hr,rfl,rfl⟩
 | kE _ _ a=>exact .inr ⟨rfl,rfl,rfl,a,rfl⟩
theorem au.Cg {ν:Nu} {id row m c:Nat} {sp:Option Nat} {x:Value} (h:au ν (.slice (some ⟨id,row,sp⟩) m c) x) :
  (∃ l c',ν id=some l∧m≤c'∧row+c'≤l.cap∧x=.slice (some (l.at row 0)) m c')∨(m=0∧∃ b,x=.slice (some b) 0 0):=by
 cases h with
 | slice _ _ _ _ c' l h hc hn hr=>exact .inl ⟨l,c',h,hn,hr,rfl⟩
 | void _ _ _ b hc=>exact .inr ⟨rfl,b,rfl⟩
 | lI _ _ _ _ c' l h hm hn hr=>exact .inl ⟨l,c',h,hn,hr,rfl⟩
 | kE _ _ a=>exact .inr ⟨rfl,a,rfl⟩
theorem au.pP {ν:Nu} {x:Value} (h:au ν (.slice none 0 0) x):x=.slice none 0 0:=by cases h; rfl
theorem lV {x:Option Operand} {d:Int} {k:Int→Prop} (h:lf tmps x d k):∃ n,k n∧∀ (ν:Nu) (a:Act),(∀ y∈x.toArray,fh ν tmps a y)→(x=none∧n=d)∨∃ q,x.map a.eval=some (.int q n):=by
 cases x with
 | none=>exact ⟨d,h,fun ν a _=>.inl ⟨rfl,rfl⟩⟩
 | some x =>
  obtain ⟨v,h,hv⟩:=cQ h
  split at h
  ·rename_i q n;exact ⟨n,h,fun ν a ha=>.inr ⟨q,by simp [(hv ν a (ha x (by simp))).fG]⟩⟩
  ·exact h.elim
theorem v9 {q:IntKind} {n:Int} {y:Nat} {code:BoundsCode} (h0:0≤n) (h1:n≤y) (w:World):(Instr.sliceBound (.int q n) y code).run P w=.ok n.toNat w:=by
 simp [Instr.sliceBound,asIntOf,h0,h1]
theorem ow {len cap:Nat} {lo hi mx:Option Value} {l h m:Int} (hl:(lo=none∧l=0)∨∃ q,lo=some (.int q l)) (hh:(hi=none∧h=(len:Int))∨∃ q,hi=some (.int q h))
  (hm:(mx=none∧m=(cap:Int))∨((∃ q,mx=some (.int q m))∧∃ v,hi=some v)) (b0:0≤l) (b1:l≤h) (b2:h≤m) (b3:m≤cap) (gR:Bool) (w:World) :
  (Instr.sliceBounds gR len cap lo hi mx).run P w=.ok (l.toNat,h.toNat,m.toNat) w:=by
 unfold Instr.sliceBounds;rcases hm with ⟨rfl,rfl⟩ | ⟨⟨q,rfl⟩,v,rfl⟩
 ·rcases hh with ⟨rfl,rfl⟩ | ⟨q,rfl⟩
  ·rcases hl with ⟨rfl,rfl⟩ | ⟨q,rfl⟩
   ·simp
   ·simp [v9 (P:=P) (q:=q) (n:=l) (y:=len) b0 (by omega)]
  ·have e:=v9 (P:=P) (q:=q) (n:=h) (y:=cap) (code:=if gR then .sliceAcap else .sliceAlen) (by omega) (by omega) w
   rcases hl with ⟨rfl,rfl⟩ | ⟨q',rfl⟩
   ·simp [e]
   ·simp [e,v9 (P:=P) (q:=q') (n:=l) (y:=h.toNat) b0 (by omega)]
 ·rcases hh with ⟨h',_⟩ | ⟨q',h'⟩
  ·cases h'
  ·cases h';have e0:=v9 (P:=P) (q:=q) (n:=m) (y:=cap) (code:=if gR then .slice3Acap else .slice3Alen) (by omega) (by omega) w
   have e:=v9 (P:=P) (q:=q') (n:=h) (y:=m.toNat) (code:=.slice3B) (by omega) (by omega) w
   rcases hl with ⟨rfl,rfl⟩ | ⟨q',rfl⟩
   ·simp [e0,e]
   ·simp [e0,e,v9 (P:=P) (q:=q') (n:=l) (y:=h.toNat) b0 (by omega)]
theorem J5 (hT:∀ t ti,tt t=some ti→aD P t ti) {t:TypeId} {x:Operand} {lo hi mx:Option Operand} (h:GK tt tmps H t x lo hi mx k):∃ v,k v none∧∀ (bn:Nu) (w0:World),bQ bn H w0→p8 P bn (.slice t x lo hi mx) tmps v:=by
 obtain ⟨xv,J,hx⟩:=cQ h;clear h;obtain ⟨ti,ht,h⟩:=cN J;clear J;obtain ⟨d,hu,hd⟩:=(hT _ _ ht).under;have mem:∀ (o:Option Operand) y,(o=lo∨o=hi∨o=mx)→y∈o.toArray→y∈(Op.slice t x lo hi mx).operands:=by
  intro o y ho hy;simp only [Op.operands,Array.mem_append];rcases ho with rfl | rfl | rfl
  ·exact .inl (.inl (.inr hy))
  ·exact .inl (.inr hy)
  ·exact .inr hy
 have uT:x∈(Op.slice t x lo hi mx).operands:=by simp [Op.operands]
 split at h
 ·rename_i s hk;rw [hk] at hd;have hd:d=.string:=hd;subst hd
  split at h
  ·obtain ⟨l,h,hl⟩:=lV h;obtain ⟨hh,h,jn⟩:=lV h;obtain ⟨⟨b0,b1,b2⟩,h⟩:=h;refine ⟨_,h,fun bn w0 hH=>⟨by simp,fun o ν a w hle ho ha=>⟨_,.str _,?_⟩⟩⟩
   have hx:=(hx ν a (ha x uT)).rT;have e1:=hl ν a (fun y hy=>ha y (mem _ y (.inl rfl) hy))
   have e2:=jn ν a (fun y hy=>ha y (mem _ y (.inr (.inl rfl)) hy))
   have:=ow (P:=P) (len:=s.size) (cap:=s.size) (lo:=lo.map a.eval) (hi:=hi.map a.eval) (mx:=none) (l:=l) (h:=hh) (m:=s.size) (e1.imp (fun ⟨p,q⟩=>⟨by rw [p]; rfl,q⟩) (fun x=>x)) (e2.imp (fun ⟨p,q⟩=>⟨by rw [p]; rfl,q⟩) (fun x=>x)) (.inl ⟨rfl,rfl⟩) b0 b1 b2 (Int.le_refl _) false w
   simp [execOp,ho,Instr.sliceAt,dA hu,Instr.slice,hx,this]
  ·exact h.elim
 ·rename_i e id row n c hk;rw [hk] at hd;have hd:d=.slice e:=hd;subst hd;obtain ⟨te,he,J⟩:=cN h;clear h;obtain ⟨b,hb,h⟩:=gu J;clear J;obtain ⟨ei,fo,iW,_⟩:=(hT _ _ he).info
  split at h
  ·rename_i hq;have hq:b.ah=te.size:=Nat.eq_of_beq_eq_true hq
   -- what both forms come to
   have fin:∀ (o:Oper) (ν:Nu) (a:Act) (w:World) (l hh m:Int) (c1:Nat),o.op=.slice t x lo hi mx→(∀ x'∈(Op.slice t x lo hi mx).operands,fh ν tmps a x')→∀ (bn:Nu) (w0:World),bQ bn H w0→bn.le ν →
     (∀ (lv hv:Nat) (c':Nat),n≤c'→(c'=c∨c=aO)→∃ mm:Int,(Instr.sliceBounds true n c' (lo.map a.eval) (hi.map a.eval) (mx.map a.eval)).run P w=.ok (l.toNat,hh.toNat,mm.toNat) w∧hh.toNat≤mm.toNat∧mm.toNat≤c'∧(mm.toNat - l.toNat=c1∨c1=aO)) →
     0≤l→l≤hh→hh≤n →
     ∃ v',au ν (.slice (some ⟨id,e9 row l.toNat,none⟩) (hh.toNat - l.toNat) c1) v'∧(execOp a.eval o).run P w=.ok (.value v') w:=by
    intro o ν a w l hh m c1 ho ha bn w0 hH hle P7 b0 b1 b2;obtain ⟨l0,eO,hB⟩:=hH.aJ id b hb;have eO:=hle _ _ eO;rcases (hx ν a (ha x uT)).tP with ⟨lc,c',dG,hc,hn,hr,ck⟩ | ⟨hn,hc,bb,ck⟩
    ·rw [eO] at dG; cases dG;obtain ⟨mm,bE,m1,m2,m3⟩:=P7 0 0 c' hn hc;by_cases hz:mm.toNat=l.toNat
     ·have e0:hh.toNat - l.toNat=0:=by omega
      refine ⟨.slice (some (l0.at row 0)) 0 0,?_,?_⟩
      ·rw [e0]; exact .void _ _ _ _ (m3.imp (fun h=>by omega) (fun h=>h))
      ·simp [execOp,ho,Instr.sliceAt,dA hu,Instr.slice,ck,bE,gl fo,hz,e0]
     ·refine ⟨.slice (some (l0.at (row+l.toNat) 0)) (hh.toNat - l.toNat) (mm.toNat - l.toNat),?_,?_⟩
      ·rw [aB]; exact .slice _ _ _ _ _ l0 eO m3 (by omega) (by omega)
      ·have kF:(l0.at row 0).add (l.toNat*ei.size)=l0.at (row+l.toNat) 0:=by
        rw [Loc.jC];unfold Loc.at
        congr 1
        rw [iW,← hq,← hB.ah,Nat.add_mul]; omega
       simp [execOp,ho,Instr.sliceAt,dA hu,Instr.slice,ck,bE,gl fo,hz,kF]
    ·obtain ⟨mm,bE,m1,m2,m3⟩:=P7 0 0 0 (by omega) (hc.imp (fun h=>h) (fun h=>h))
     have e0:hh.toNat - l.toNat=0:=by omega
     have e1:mm.toNat - l.toNat=0:=by omega
     have e2:l.toNat=0:=by omega
     have e3:mm.toNat=0:=by omega
     have e4:hh.toNat=0:=by omega
     refine ⟨.slice (some bb) 0 0,?_,?_⟩
     ·rw [e0]; exact .void _ _ _ _ (m3.imp (fun h=>by omega) (fun h=>h))
     ·rw [e2,e3,e4] at bE;subst hn;simp [execOp,ho,Instr.sliceAt,dA hu,Instr.slice,ck,bE,gl fo]
   split at h
   ·obtain ⟨l,h,hl⟩:=lV h;obtain ⟨hh,h,jn⟩:=lV h;obtain ⟨⟨b0,b1,b2⟩,h⟩:=h;refine ⟨_,h,fun bn w0 hH=>⟨by simp,fun o ν a w hle ho ha=>fin o ν a w l hh 0 _ ho ha bn w0 hH hle (fun _ _ c' hn hc=>⟨c',?_,by omega,by omega,?_⟩) b0 b1 b2⟩⟩
    ·have e1:=hl ν a (fun y hy=>ha y (mem _ y (.inl rfl) hy))
     have e2:=jn ν a (fun y hy=>ha y (mem _ y (.inr (.inl rfl)) hy))
     exact ow (P:=P) (e1.imp (fun ⟨p,q⟩=>⟨by rw [p]; rfl,q⟩) (fun x=>x)) (e2.imp (fun ⟨p,q⟩=>⟨by rw [p]; rfl,q⟩) (fun x=>x)) (.inl ⟨rfl,rfl⟩) b0 b1 (by omega) (Int.le_refl _) true w
    ·unfold uj;by_cases dp:c=aO
     ·right; simp [dp]
     ·left
      have:c'=c:=hc.resolve_right dp;simp [dp,this]
   ·rename_i h0 m0;obtain ⟨l,J,hl⟩:=lV h;clear h;obtain ⟨hv,h,jn⟩:=cQ J;clear J;obtain ⟨mv,J,hm⟩:=cQ h;clear h;have h:=J;clear J
    split at h
    ·rename_i q1 hh q2 m;obtain ⟨⟨b0,b1,b2,b3⟩,h⟩:=h;refine ⟨_,h,fun bn w0 hH=>⟨by simp,fun o ν a w hle ho ha=>fin o ν a w l hh m _ ho ha bn w0 hH hle (fun _ _ c' hn hc=>⟨m,?_,by omega,by omega,.inl rfl⟩) b0 b1 (by omega)⟩⟩
     have e1:=hl ν a (fun y hy=>ha y (mem _ y (.inl rfl) hy))
     have e2:=(jn ν a (ha h0 (mem _ h0 (.inr (.inl rfl)) (by simp)))).fG
     have e3:=(hm ν a (ha m0 (mem _ m0 (.inr (.inr rfl)) (by simp)))).fG
     exact ow (P:=P) (e1.imp (fun ⟨p,q⟩=>⟨by rw [p]; rfl,q⟩) (fun x=>x)) (.inr ⟨q1,by simp [e2]⟩)
      (.inr ⟨⟨q2,by simp [e3]⟩,_,rfl⟩) b0 b1 (by omega) (by omega) true w
    ·exact h.elim
   ·exact h.elim
  ·exact h.elim
 ·rename_i e id row b0 n c hk;rw [hk] at hd;have hd:d=.slice e:=hd;subst hd;obtain ⟨te,he,J⟩:=cN h;clear h;obtain ⟨b,hb,h⟩:=gu J;clear J;obtain ⟨ei,fo,iW,_⟩:=(hT _ _ he).info
  split at h
  ·rename_i hq;have hq:b.ah=te.size:=Nat.eq_of_beq_eq_true hq
   split at h
   ·obtain ⟨l,h,hl⟩:=lV h;obtain ⟨hh,h,jn⟩:=lV h;obtain ⟨⟨k0,k1,k2⟩,h⟩:=h;refine ⟨_,h,fun bn w0 hH=>⟨by simp,fun o ν a w hle ho ha=>?_⟩⟩
    obtain ⟨l0,eO,hB⟩:=hH.aJ id b hb;have eO:=hle _ _ eO;have e1:=hl ν a (fun y hy=>ha y (mem _ y (.inl rfl) hy))
    have e2:=jn ν a (fun y hy=>ha y (mem _ y (.inr (.inl rfl)) hy))
    rcases (hx ν a (ha x uT)).N5 with ⟨lc,c',dG,pg,hn,hr,ck⟩ | ⟨hn,iX,bb,ck⟩
    ·rw [eO] at dG; cases dG;have bE:=ow (P:=P) (len:=n) (cap:=c') (lo:=lo.map a.eval) (hi:=hi.map a.eval) (mx:=none) (l:=l) (h:=hh) (m:=c') (e1.imp (fun ⟨p,q⟩=>⟨by rw [p]; rfl,q⟩) (fun x=>x)) (e2.imp (fun ⟨p,q⟩=>⟨by rw [p]; rfl,q⟩) (fun x=>x)) (.inl ⟨rfl,rfl⟩) k0 k1 (by omega) (Int.le_refl _) true w
     rw [Int.toNat_natCast] at bE;by_cases hz:c'=l.toNat
     ·have e0:hh.toNat - l.toNat=0:=by omega
      have e3:b0 - l.toNat=0:=by omega
      refine ⟨.slice (some (l0.at row 0)) 0 0,?_,?_⟩
      ·rw [e0,e3]; exact .kE _ _ _
      ·simp [execOp,ho,Instr.sliceAt,dA hu,Instr.slice,ck,bE,gl fo,hz.symm,← hz]
       first | done | omega
     ·refine ⟨.slice (some (l0.at (row+l.toNat) 0)) (hh.toNat - l.toNat) (c' - l.toNat),?_,?_⟩
      ·rw [aB]; exact .lI _ _ _ _ _ l0 eO (by omega) (by omega) (by omega)
      ·have kF:(l0.at row 0).add (l.toNat*ei.size)=l0.at (row+l.toNat) 0:=by
        rw [Loc.jC];unfold Loc.at
        congr 1
        rw [iW,← hq,← hB.ah,Nat.add_mul]; omega
       simp [execOp,ho,Instr.sliceAt,dA hu,Instr.slice,ck,bE,gl fo,hz,kF]
    ·have bE:=ow (P:=P) (len:=n) (cap:=0) (lo:=lo.map a.eval) (hi:=hi.map a.eval) (mx:=none) (l:=l) (h:=hh) (m:=(0:Nat)) (e1.imp (fun ⟨p,q⟩=>⟨by rw [p]; rfl,q⟩) (fun x=>x)) (e2.imp (fun ⟨p,q⟩=>⟨by rw [p]; rfl,q⟩) (fun x=>x)) (.inl ⟨rfl,rfl⟩) k0 k1 (by omega) (Int.le_refl _) true w
     have e2:l.toNat=0:=by omega
     have e4:hh.toNat=0:=by omega
     refine ⟨.slice (some bb) 0 0,?_,?_⟩
     ·rw [e4,e2,iX]; exact .kE _ _ _
     ·rw [e2,e4] at bE;subst hn;simp [execOp,ho,Instr.sliceAt,dA hu,Instr.slice,ck,bE,gl fo]
   ·rename_i h0 m0;obtain ⟨l,J,hl⟩:=lV h;clear h;obtain ⟨hv,h,jn⟩:=cQ J;clear J;obtain ⟨mv,J,hm⟩:=cQ h;clear h;have h:=J;clear J
    split at h
    ·rename_i q1 hh q2 m;obtain ⟨⟨k0,k1,k2,k3⟩,h⟩:=h;refine ⟨_,h,fun bn w0 hH=>⟨by simp,fun o ν a w hle ho ha=>?_⟩⟩
     obtain ⟨l0,eO,hB⟩:=hH.aJ id b hb;have eO:=hle _ _ eO;have e1:=hl ν a (fun y hy=>ha y (mem _ y (.inl rfl) hy))
     have e2:=(jn ν a (ha h0 (mem _ h0 (.inr (.inl rfl)) (by simp)))).fG
     have e3:=(hm ν a (ha m0 (mem _ m0 (.inr (.inr rfl)) (by simp)))).fG
     rcases (hx ν a (ha x uT)).N5 with ⟨lc,c',dG,pg,hn,hr,ck⟩ | ⟨hn,iX,bb,ck⟩
     ·rw [eO] at dG; cases dG;have bE:=ow (P:=P) (len:=n) (cap:=c') (lo:=lo.map a.eval) (hi:=some (a.eval h0)) (mx:=some (a.eval m0)) (l:=l) (h:=hh) (m:=m) (e1.imp (fun ⟨p,q⟩=>⟨by rw [p]; rfl,q⟩) (fun x=>x)) (.inr ⟨q1,by rw [e2]⟩) (.inr ⟨⟨q2,by rw [e3]⟩,_,rfl⟩) k0 k1 (by omega) (by omega) true w
      by_cases hz:m.toNat=l.toNat
      ·have e0:hh.toNat - l.toNat=0:=by omega
       have e4:m.toNat - l.toNat=0:=by omega
       refine ⟨.slice (some (l0.at row 0)) 0 0,?_,?_⟩
       ·rw [e0,e4]; exact .void _ _ _ _ (.inl rfl)
       ·simp [execOp,ho,Instr.sliceAt,dA hu,Instr.slice,ck,bE,gl fo,hz,e0]
      ·refine ⟨.slice (some (l0.at (row+l.toNat) 0)) (hh.toNat - l.toNat) (m.toNat - l.toNat),?_,?_⟩
       ·rw [aB]; exact .slice _ _ _ _ _ l0 eO (.inl rfl) (by omega) (by omega)
       ·have kF:(l0.at row 0).add (l.toNat*ei.size)=l0.at (row+l.toNat) 0:=by
         rw [Loc.jC];unfold Loc.at
         congr 1
         rw [iW,← hq,← hB.ah,Nat.add_mul]; omega
        simp [execOp,ho,Instr.sliceAt,dA hu,Instr.slice,ck,bE,gl fo,hz,kF]
     ·have bE:=ow (P:=P) (len:=n) (cap:=0) (lo:=lo.map a.eval) (hi:=some (a.eval h0)) (mx:=some (a.eval m0)) (l:=l) (h:=hh) (m:=m) (e1.imp (fun ⟨p,q⟩=>⟨by rw [p]; rfl,q⟩) (fun x=>x)) (.inr ⟨q1,by rw [e2]⟩) (.inr ⟨⟨q2,by rw [e3]⟩,_,rfl⟩) k0 k1 (by omega) (by omega) true w
      have e5:l.toNat=0:=by omega
      have e6:hh.toNat=0:=by omega
      have e7:m.toNat=0:=by omega
      refine ⟨.slice (some bb) 0 0,?_,?_⟩
      ·rw [e5,e6,e7]; exact .void _ _ _ _ (.inl rfl)
      ·rw [e5,e6,e7] at bE;subst hn;simp [execOp,ho,Instr.sliceAt,dA hu,Instr.slice,ck,bE,gl fo]
    ·exact h.elim
   ·exact h.elim
  ·exact h.elim
 ·rename_i n e id row hk;rw [hk] at hd;have hd:d=.array n e:=hd;subst hd;obtain ⟨te,he,J⟩:=cN h;clear h;obtain ⟨b,hb,h⟩:=gu J;clear J;obtain ⟨ei,fo,iW,_⟩:=(hT _ _ he).info
  split at h
  ·rename_i hq;have hq:b.ah=te.size:=Nat.eq_of_beq_eq_true hq
   split at h
   ·obtain ⟨l,h,hl⟩:=lV h;obtain ⟨hh,h,jn⟩:=lV h;obtain ⟨⟨b0,b1,b2,b3,b4⟩,h⟩:=h;refine ⟨_,h,fun bn w0 hH=>⟨by simp,fun o ν a w hle ho ha=>?_⟩⟩
    obtain ⟨l0,eO,hB⟩:=hH.aJ id b hb;have eO:=hle _ _ eO;obtain ⟨lp,P8,ck⟩:=(hx ν a (ha x uT)).oJ;rw [eO] at P8; cases P8;have ck:a.eval x=.pointer (some (l0.at row 0)):=ck;obtain ⟨_,_,_,_,fJ⟩:=hB.own (aj.cX b4).1 (aj.cX b4).2;have e1:=hl ν a (fun y hy=>ha y (mem _ y (.inl rfl) hy))
    have e2:=jn ν a (fun y hy=>ha y (mem _ y (.inr (.inl rfl)) hy))
    have bE:=ow (P:=P) (len:=n) (cap:=n) (lo:=lo.map a.eval) (hi:=hi.map a.eval) (mx:=none) (l:=l) (h:=hh) (m:=n) (e1.imp (fun ⟨p,q⟩=>⟨by rw [p]; rfl,q⟩) (fun x=>x)) (e2.imp (fun ⟨p,q⟩=>⟨by rw [p]; rfl,q⟩) (fun x=>x)) (.inl ⟨rfl,rfl⟩) b0 b1 b2 (Int.le_refl _) false w
    rw [Int.toNat_natCast] at bE;by_cases hz:n=l.toNat
    ·have e0:hh.toNat - l.toNat=0:=by omega
     have e3:n - l.toNat=0:=by omega
     refine ⟨.slice (some (l0.at row 0)) 0 0,?_,?_⟩
     ·rw [e0,e3]; exact .void _ _ _ _ (.inl rfl)
     ·simp [execOp,ho,Instr.sliceAt,dA hu,Instr.sureAddr,ck,bE,gl fo,hz.symm,← hz,e0]
      first | done | omega
    ·refine ⟨.slice (some (l0.at (row+l.toNat) 0)) (hh.toNat - l.toNat) (n - l.toNat),?_,?_⟩
     ·rw [aB]; exact .slice _ _ _ _ _ l0 eO (.inl rfl) (by omega) (by omega)
     ·have kF:(l0.at row 0).add (l.toNat*ei.size)=l0.at (row+l.toNat) 0:=by
       rw [Loc.jC];unfold Loc.at
       congr 1
       rw [iW,← hq,← hB.ah,Nat.add_mul]; omega
      simp [execOp,ho,Instr.sliceAt,dA hu,Instr.sureAddr,ck,bE,gl fo,hz,kF]
   ·exact h.elim
  ·exact h.elim
 ·rename_i e hk;rw [hk] at hd;have hd:d=.slice e:=hd;subst hd;obtain ⟨te,he,J⟩:=cN h;clear h;obtain ⟨ei,fo,iW,_⟩:=(hT _ _ he).info
  split at J
  ·obtain ⟨l,h,hl⟩:=lV J;obtain ⟨hh,h,jn⟩:=lV h;obtain ⟨⟨b0,b1,b2⟩,h⟩:=h;refine ⟨_,h,fun bn w0 hH=>⟨by simp,fun o ν a w hle ho ha=>⟨_,.iD,?_⟩⟩⟩
   have hx:=(hx ν a (ha x uT)).pP;have e1:=hl ν a (fun y hy=>ha y (mem _ y (.inl rfl) hy))
   have e2:=jn ν a (fun y hy=>ha y (mem _ y (.inr (.inl rfl)) hy))
   have:=ow (P:=P) (len:=0) (cap:=0) (lo:=lo.map a.eval) (hi:=hi.map a.eval) (mx:=none) (l:=l) (h:=hh) (m:=0) (e1.imp (fun ⟨p,q⟩=>⟨by rw [p]; rfl,q⟩) (fun x=>x)) (e2.imp (fun ⟨p,q⟩=>⟨by rw [p]; rfl,q⟩) (fun x=>x)) (.inl ⟨rfl,rfl⟩) b0 b1 b2 (by omega) true w
   rw [show l.toNat=0 by omega,show hh.toNat=0 by omega] at this
   simp [execOp,ho,Instr.sliceAt,dA hu,Instr.slice,hx,this,gl fo]
  ·rename_i h0 m0;obtain ⟨l,h,hl⟩:=lV J;clear J;obtain ⟨hv,J,jn⟩:=cQ h;clear h;obtain ⟨mv,h,hm⟩:=cQ J;clear J
   split at h
   ·rename_i q1 hh q2 m;obtain ⟨⟨b0,b1,b2,b3⟩,h⟩:=h;refine ⟨_,h,fun bn w0 hH=>⟨by simp,fun o ν a w hle ho ha=>⟨_,.iD,?_⟩⟩⟩
    have hx:=(hx ν a (ha x uT)).pP;have e1:=hl ν a (fun y hy=>ha y (mem _ y (.inl rfl) hy))
    have e2:=(jn ν a (ha h0 (mem _ h0 (.inr (.inl rfl)) (by simp)))).fG
    have e3:=(hm ν a (ha m0 (mem _ m0 (.inr (.inr rfl)) (by simp)))).fG
    have:=ow (P:=P) (len:=0) (cap:=0) (lo:=lo.map a.eval) (hi:=some (a.eval h0)) (mx:=some (a.eval m0)) (l:=l) (h:=hh) (m:=m) (e1.imp (fun ⟨p,q⟩=>⟨by rw [p]; rfl,q⟩) (fun x=>x)) (.inr ⟨q1,by rw [e2]⟩)
     (.inr ⟨⟨q2,by rw [e3]⟩,_,rfl⟩) b0 b1 b2 (by omega) true w
    rw [show l.toNat=0 by omega,show hh.toNat=0 by omega,show m.toNat=0 by omega] at this
    simp [execOp,ho,Instr.sliceAt,dA hu,Instr.slice,hx,this,gl fo]
   ·exact h.elim
  ·exact J.elim
 ·exact h.elim
theorem WC (hT:∀ t ti,tt t=some ti→aD P t ti) {t:TypeId} {x:Operand} {lo hi mx:Option Operand} (h:GK tt tmps H t x lo hi mx k):eW P (.slice t x lo hi mx) tmps H aK k:=by
 obtain ⟨v,hk,hp⟩:=J5 hT h;exact .value (by simp) hk fun o ν a w ho ha hH=>(hp ν w hH).2 o ν a w ν.le_refl ho ha
end
open Go Go.RowKit
section
variable {P:Program} {tt:TT} {Φ:yY} {o:Oper} {a:Act} {w:World} {ν:Nu} {aK:Nat} {k:QK} {tmps:List Value} {H:aA}
theorem au.abL {ν:Nu} {b:Option Addr} {m c:Nat} {z:Value} (h:au ν (.slice b m c) z):∃ b' c',z=.slice b' m c':=by cases h <;> exact ⟨_,_,rfl⟩
theorem au.rN {ν:Nu} {fn:Fn} {x y:Array Value} {z:Value} (h:au ν (.func fn x y) z):∃ ys c9,z=.func fn ⟨ys⟩ ⟨c9⟩∧bg ν x.toList ys∧bg ν y.toList c9:=by
 cases h with | func _ xs ys nh c9 h1 J h3 h4=>exact ⟨ys,c9,rfl,⟨h1,J⟩,⟨h3,h4⟩⟩
theorem J6 (hT:∀ t ti,tt t=some ti→aD P t ti) {t:TypeId} {x ix:Operand} (h:EH tt tmps H t x ix k):sC P (.indexAddr t x ix) tmps H k:=by
 obtain ⟨xv,J,hx⟩:=cQ h;clear h;obtain ⟨iv,h,hi⟩:=cQ J;clear J
 split at h
 ·rename_i q i;obtain ⟨ti,ht,J⟩:=cN h;clear h;have h:=J;clear J;obtain ⟨d,hu,hd⟩:=(hT _ _ ht).under
  split at h
  ·rename_i e hk;rw [hk] at hd;have hd:d=.slice e:=hd;subst hd
   split at h
   ·rename_i id row m c;obtain ⟨te,he,h⟩:=cN h;obtain ⟨b,hb,h⟩:=gu h;obtain ⟨⟨h0,h1⟩,h⟩:=h
    split at h
    ·rename_i hq;have hq:b.ah=te.size:=Nat.eq_of_beq_eq_true hq;obtain ⟨ei,fo,iW,_⟩:=(hT _ _ he).info;rw [aB] at h;refine .value (by simp) h fun o ν a w ho ha hH=>?_
     have hi:=(hi ν a (ha ix (by simp [Op.operands]))).fG
     obtain ⟨l0,eO,hB⟩:=hH.aJ id b hb;rcases (hx ν a (ha x (by simp [Op.operands]))).tP with ⟨l,c',hl,hc,hm,hr,ck⟩ | ⟨hm,_⟩
     ·rw [eO] at hl; cases hl;refine ⟨.pointer (some (l0.at (row+i.toNat) 0)),.ptr _ _ none _ eO,?_⟩;have al:i < (m:Int):=h1;have kF:(l0.at row 0).add (i.toNat*ei.size)=l0.at (row+i.toNat) 0:=by
       rw [Loc.jC];unfold Loc.at
       congr 1
       rw [iW,← hq,← hB.ah,Nat.add_mul]; omega
      simp [execOp,ho,Instr.indexAt,hi,asIntOf,dA hu,ck,h0,al,gl fo,kF]
     ·omega
    ·exact h.elim
   ·exact h.elim
  ·rename_i m e hk;rw [hk] at hd;have hd:d=.array m e:=hd;subst hd
   split at h
   ·rename_i id row;obtain ⟨te,he,h⟩:=cN h;obtain ⟨b,hb,h⟩:=gu h;obtain ⟨⟨h0,h1⟩,h⟩:=h;obtain ⟨ei,fo,iW,_⟩:=(hT _ _ he).info
    split at h
    ·rename_i hq;have hq:b.ah=te.size:=Nat.eq_of_beq_eq_true hq;rw [aB] at h;refine .value (by simp) h fun o ν a w ho ha hH=>?_
     have hi:=(hi ν a (ha ix (by simp [Op.operands]))).fG
     obtain ⟨l0,eO,hB⟩:=hH.aJ id b hb;obtain ⟨l,hl,ck⟩:=(hx ν a (ha x (by simp [Op.operands]))).oJ
     rw [eO] at hl; cases hl;refine ⟨.pointer (some (l0.at (row+i.toNat) 0)),.ptr _ _ none _ eO,?_⟩;have kF:(l0.at row 0).add (i.toNat*ei.size)=l0.at (row+i.toNat) 0:=by
      rw [Loc.jC];unfold Loc.at
      congr 1
      rw [iW,← hq,← hB.ah,Nat.add_mul]; omega
     have ck:a.eval x=.pointer (some (l0.at row 0)):=ck;simp [execOp,ho,Instr.indexAt,hi,asIntOf,dA hu,ck,Instr.sureAddr,h0,h1,gl fo,kF]
    ·refine .value (by simp) h fun o ν a w ho ha hH=>?_
     have hi:=(hi ν a (ha ix (by simp [Op.operands]))).fG
     obtain ⟨l,hl,ck⟩:=(hx ν a (ha x (by simp [Op.operands]))).oJ
     have ck:a.eval x=.pointer (some (l.at row 0)):=ck;refine ⟨.pointer (some (l.at row (0+i.toNat*te.size))),.ptr _ _ (some _) _ hl,?_⟩;simp [execOp,ho,Instr.indexAt,hi,asIntOf,dA hu,ck,Instr.sureAddr,h0,h1,gl fo,Loc.jC,iW]
   ·rename_i id row c;obtain ⟨te,he,h⟩:=cN h;obtain ⟨⟨h0,h1⟩,h⟩:=h;obtain ⟨ei,fo,iW,_⟩:=(hT _ _ he).info;refine .value (by simp) h fun o ν a w ho ha hH=>?_
    have hi:=(hi ν a (ha ix (by simp [Op.operands]))).fG
    obtain ⟨l,hl,ck⟩:=(hx ν a (ha x (by simp [Op.operands]))).oJ
    have ck:a.eval x=.pointer (some (l.at row c)):=ck;refine ⟨.pointer (some (l.at row (c+i.toNat*te.size))),.ptr _ _ (some _) _ hl,?_⟩;simp [execOp,ho,Instr.indexAt,hi,asIntOf,dA hu,ck,Instr.sureAddr,h0,h1,gl fo,Loc.jC,iW]
   ·exact h.elim
  ·exact h.elim
 ·exact h.elim
theorem R0 (hT:∀ t ti,tt t=some ti→aD P t ti) {t:TypeId} {x ix:Operand} (h:EH tt tmps H t x ix k):eW P (.indexAddr t x ix) tmps H aK k:=(J6 hT h).ok
theorem Sw (s:ByteArray) (i:Nat) (h:i < s.size):s[i]?=some (s[i]'h)∧((s[i]'h).toNat=bZ s i):=by
 refine ⟨by simp [h],?_⟩
 unfold bZ;rw [List.getD_eq_getElem?_getD,Array.getElem?_toList];have:s.data[i]?=some (s[i]'h):=by rw [Array.getElem?_eq_getElem (by simpa using h)]; rfl
 rw [this]; rfl
theorem WD (hT:∀ t ti,tt t=some ti→aD P t ti) {t:TypeId} {x ix:Operand} (h:N3 tt tmps t x ix k):eW P (.index t x ix) tmps H aK k:=by
 obtain ⟨xv,J,hx⟩:=cQ h;clear h;obtain ⟨iv,h,hi⟩:=cQ J;clear J
 split at h
 ·rename_i q i;obtain ⟨ti,ht,J⟩:=cN h;clear h;have h:=J;clear J;obtain ⟨d,hu,hd⟩:=(hT _ _ ht).under
  split at h
  ·rename_i hk;rw [hk] at hd;have hd:d=.string:=hd;subst hd
   split at h
   ·rename_i s;obtain ⟨⟨h0,h1⟩,h⟩:=h;have al:i.toNat < s.size:=by omega
    obtain ⟨J,h3⟩:=Sw s i.toNat al;refine .value (by simp) h fun o ν a w ho ha hH=>⟨_,.int _ _,?_⟩
    have hi:=(hi ν a (ha ix (by simp [Op.operands]))).fG
    have hx:=(hx ν a (ha x (by simp [Op.operands]))).rT
    simp [execOp,ho,Instr.index,hi,asIntOf,dA hu,hx,h0,J,h3]
   ·exact h.elim
  ·exact h.elim
 ·exact h.elim
def Ch (op:BinOp) (q:IntKind) (a b:Int):Sem Value :=
 match op with
 | .add | .sub | .mul=>Op.intArith op q a b
 | .quo | .rem=>Op.intDiv op q a b
 | .and | .or | .xor | .andNot=>Op.intBits op q a b
 | _=>Op.intCmp op a b
theorem T0 (op:BinOp) (t:TypeId) (q:IntKind) (a b:Int) (h1:op≠.shl) (J:op≠.shr):binOp op t (.int q a) (.int q b)=Ch op q a b:=by
 cases op <;> first | exact absurd rfl h1 | exact absurd rfl J | (cases q <;> rfl)
theorem binOp_shl (t:TypeId) (q q':IntKind) (a b:Int):binOp .shl t (.int q a) (.int q' b)=Op.shift .shl q a q' b:=rfl
theorem binOp_shr (t:TypeId) (q q':IntKind) (a b:Int):binOp .shr t (.int q a) (.int q' b)=Op.shift .shr q a q' b:=rfl
theorem T1 (op:BinOp) (t:TypeId) (x y:Operand) (q q':IntKind) (a b:Int) (w:World):(eqGuard op t x y (.int q a) (.int q' b)).run P w=.ok () w:=by cases op <;> rfl
theorem T2 (op:BinOp) (t:TypeId) (x y:Operand) (a b:ByteArray) (w:World):(eqGuard op t x y (.string a) (.string b)).run P w=.ok () w:=by cases op <;> rfl
theorem Sx (op:BinOp) (t:TypeId) (x y:Operand) (a b:Bool) (w:World):(eqGuard op t x y (.bool a) (.bool b)).run P w=.ok () w:=by cases op <;> rfl
theorem yE {op:BinOp} {t ty:TypeId} {x y:Operand} (ho:o.op=.binOp op t x y ty) {u v z:Value} (hx:a.eval x=u) (hy:a.eval y=v) (hg:(eqGuard op t x y u v).run P w=.ok () w)
  (hb:(binOp op t u v).run P w=.ok z w):(execOp a.eval o).run P w=.ok (.value z) w:=by
 simp only [execOp,ho,hx,hy,Sem.run_bind,hg,hb,Result.andThen_ok,Sem.run_pure]
theorem Ci {op:BinOp} {t:TypeId} {q:IntKind} {x y:Int} (h:OF op q x y k):∃ z,k z none∧cH z=true∧∀ w,(Ch op q x y).run P w=.ok z w:=by
 cases op <;> first | exact h.elim | skip
 case and=>exact ⟨.int q (q.wrap (BitVec.ofInt q.bits x &&& BitVec.ofInt q.bits y).toNat),h,rfl,fun w=>rfl⟩
 case or=>exact ⟨.int q (q.wrap (BitVec.ofInt q.bits x ||| BitVec.ofInt q.bits y).toNat),h,rfl,fun w=>rfl⟩
 case xor=>exact ⟨.int q (q.wrap (BitVec.ofInt q.bits x ^^^ BitVec.ofInt q.bits y).toNat),h,rfl,fun w=>rfl⟩
 case andNot=>exact ⟨.int q (q.wrap (BitVec.ofInt q.bits x &&& ~~~(BitVec.ofInt q.bits y)).toNat),h,rfl,fun w=>rfl⟩
theorem U5 {op:BinOp} {t:TypeId} {q q':IntKind} {x y:Int} (h:BQ op q q' x y k):∃ z,k z none∧cH z=true∧∀ w,(binOp op t (.int q x) (.int q' y)).run P w=.ok z w:=by
 by_cases qO:op=.shl
 ·subst qO;obtain ⟨h0,h⟩:=Bf h;exact ⟨_,h,rfl,fun w=>by rw [binOp_shl]; simp [Op.shift,show ¬ y < 0 by omega]⟩
 by_cases Dn:op=.shr
 ·subst Dn;obtain ⟨h0,h⟩:=Bf h;exact ⟨_,h,rfl,fun w=>by rw [binOp_shr]; simp [Op.shift,show ¬ y < 0 by omega]⟩
 by_cases hq:q=q'
 ·subst hq;have e:=T0 op t q x y qO Dn;rw [e];have hd:decide (q=q)=true:=by simp
  cases op <;> first | exact absurd rfl qO | exact absurd rfl Dn | skip
  all_goals (unfold BQ at h; rw [hd] at h; dsimp only at h)
  case quo=>obtain ⟨h0,h⟩:=Bf h; exact ⟨_,h,rfl,fun w=>by simp [Ch,Op.intDiv,h0]⟩
  case rem=>obtain ⟨h0,h⟩:=Bf h; exact ⟨_,h,rfl,fun w=>by simp [Ch,Op.intDiv,h0]⟩
  case and=>exact Ci (t:=t) h
  case or=>exact Ci (t:=t) h
  case xor=>exact Ci (t:=t) h
  case andNot=>exact Ci (t:=t) h
  all_goals exact ⟨_,h,rfl,fun w=>rfl⟩
 ·have hd:decide (q=q')=false:=by simp [hq]
  cases op <;> first | exact absurd rfl qO | exact absurd rfl Dn | (unfold BQ at h; rw [hd] at h; exact h.elim)
theorem U6 {op:BinOp} {t:TypeId} {x y:ByteArray} (h:Ni op x y k):∃ z,k z none∧cH z=true∧∀ w,(binOp op t (.string x) (.string y)).run P w=.ok z w:=by
 cases op <;> first | exact h.elim | exact ⟨_,h,rfl,fun w=>rfl⟩ | skip
 obtain ⟨h0,h⟩:=h;refine ⟨_,h,rfl,fun w=>?_⟩
 have:¬ (((x.size+y.size:Nat):Int) > IntKind.i64.max):=by
  have:IntKind.i64.max=9223372036854775807:=by decide
  rw [this]; omega
 show (Op.stringOp .add x y).run P w=_
 unfold Op.stringOp
 dsimp only
 rw [if_neg this]
 rfl
theorem rO {t:TypeId} {x y:Value} {b:Bool} (hs:∀ q a,x≠.int q a) (ax:∀ s,x≠.string s) (hf:∀ q a,x≠.float q a) (hc:∀ q a b,x≠.complex q a b) (hp:∀ a,x≠.pointer a)
  (h:(Op.equal t x y).run P w=.ok b w):(binOp .eql t x y).run P w=.ok (.bool b) w∧(binOp .neq t x y).run P w=.ok (.bool !b) w:=by
 have e1:binOp .eql t x y=(do pure (.bool (← Op.equal t x y)):Sem Value):=by
  cases x <;> first | exact absurd rfl (hs _ _) | exact absurd rfl (ax _) | exact absurd rfl (hf _ _) | exact absurd rfl (hc _ _ _) | exact absurd rfl (hp _) | rfl
 have e2:binOp .neq t x y=(do pure (.bool (!(← Op.equal t x y))):Sem Value):=by
  cases x <;> first | exact absurd rfl (hs _ _) | exact absurd rfl (ax _) | exact absurd rfl (hf _ _) | exact absurd rfl (hc _ _ _) | exact absurd rfl (hp _) | rfl
 rw [e1,e2];simp only [Sem.run_bind,h,Result.andThen_ok];exact ⟨rfl,rfl⟩
theorem run_equal_bool {t:TypeId} (hu:P.underlying t=some .bool) (b b':Bool) (w:World):(Op.equal t (.bool b) (.bool b')).run P w=.ok (b == b') w:=by
 show (Op.equalIn (9999+1) t (.bool b) (.bool b')).run P w=_
 rw [Op.equalIn];simp only [Sem.run_bind,dA hu,Result.andThen_ok]
 rfl
theorem T3 {ti:TI} {op:BinOp} {t:TypeId} {x y:Bool} (hu:ti.kind=.bool→P.underlying t=some .bool) (h:FC ti.kind op x y k):∃ z,k z none∧cH z=true∧∀ w,(binOp op t (.bool x) (.bool y)).run P w=.ok z w:=by
 unfold FC at h
 split at h
 ·rename_i hk;exact ⟨_,h,rfl,fun w=>(rO (by simp) (by simp) (by simp) (by simp) (by simp) (run_equal_bool (hu hk) x y w)).1⟩
 ·rename_i hk;exact ⟨_,h,rfl,fun w=>(rO (by simp) (by simp) (by simp) (by simp) (by simp) (run_equal_bool (hu hk) x y w)).2⟩
 ·exact h.elim
theorem tx:∀ {l m:List Value},eZ l m=true→∀ v∈l,cH v=true
 | [],[],_=>fun v hv=>by simp at hv
 | .bool _::l,.bool _::m,h=>fun v hv=>by
  rcases List.mem_cons.1 hv with e | e
  ·rw [e]; rfl
  ·exact tx (l:=l) (m:=m) h v e
 | .int q _::l,.int q' _::m,h=>fun v hv=>by
  rcases List.mem_cons.1 hv with e | e
  ·rw [e]; rfl
  ·exact tx (l:=l) (m:=m) (by simp only [eZ,Bool.and_eq_true] at h; exact h.2) v e
 | .string _::l,.string _::m,h=>fun v hv=>by
  rcases List.mem_cons.1 hv with e | e
  ·rw [e]; rfl
  ·exact tx (l:=l) (m:=m) h v e
theorem bg.jU {ν:Nu}:∀ {l m:List Value},(∀ v∈l,cH v=true)→bg ν l m→m=l
 | [],m,_,h=>h.iL
 | v::l,m,hs,h=>by
  obtain ⟨y,ys,rfl,h1,J⟩:=h.jd;rw [h1.jU (hs v (by simp)),bg.jU (fun u hu=>hs u (by simp [hu])) J]
theorem U7 {eqs:List TypeId} {zero:List Value} {op:BinOp} {t:TypeId} {xs ys:List Value} (hE:∀ t∈eqs,∀ ti,tt t=some ti→xx P t ti.zero) {ti:TI} (ht:tt t=some ti) (h:Gb eqs t ti.zero op xs ys k) :
  ∃ z,k z none∧cH z=true∧(∀ v∈xs,cH v=true)∧(∀ v∈ys,cH v=true)∧∀ w,(binOp op t (.agg ⟨xs⟩) (.agg ⟨ys⟩)).run P w=.ok z w∧∀ x y,(eqGuard op t x y (.agg ⟨xs⟩) (.agg ⟨ys⟩)).run P w=.ok () w:=by
 unfold Gb at h
 split at h
 ·rename_i hb;simp only [Bool.and_eq_true] at hb;obtain ⟨⟨h1,J⟩,h3⟩:=hb;have hq:=hE t (by simpa using h1) ti ht
  exact ⟨_,h,rfl,tx J,tx h3,fun w=>⟨(rO (by simp) (by simp) (by simp) (by simp) (by simp) (hq xs ys w J h3).1).1,fun x y=>(hq xs ys w J h3).2 x y _⟩⟩
 ·rename_i hb;simp only [Bool.and_eq_true] at hb;obtain ⟨⟨h1,J⟩,h3⟩:=hb;have hq:=hE t (by simpa using h1) ti ht
  exact ⟨_,h,rfl,tx J,tx h3,fun w=>⟨(rO (by simp) (by simp) (by simp) (by simp) (by simp) (hq xs ys w J h3).1).2,fun x y=>(hq xs ys w J h3).2 x y _⟩⟩
 ·exact h.elim
theorem R1 (op:BinOp) (t:TypeId) (x y:Operand) (a b:Option Addr) (n c n' c':Nat) (w:World):(eqGuard op t x y (.slice a n c) (.slice b n' c')).run P w=.ok () w:=by cases op <;> rfl
theorem au.T4 {ν:Nu} {a:Option Addr} {n c:Nat} {z:Value} (h:au ν (.slice a n c) z):∃ a' n' c',z=.slice a' n' c'∧a'.isNone=a.isNone:=by
 cases h with
 | iD=>exact ⟨none,0,0,rfl,rfl⟩
 | slice id row n c c' l h hc hn hr=>exact ⟨_,_,_,rfl,rfl⟩
 | void id row c a hc=>exact ⟨_,_,_,rfl,rfl⟩
 | lI id row m n c' l h hm hn hr=>exact ⟨_,_,_,rfl,rfl⟩
 | kE id row a=>exact ⟨_,_,_,rfl,rfl⟩
theorem AJ {t e:TypeId} (hu:P.underlying t=some (.slice e)) (a:Option Addr) (n c:Nat) (w:World):(Op.equal t (.slice a n c) (.slice none 0 0)).run P w=.ok a.isNone w:=by
 show (Op.equalIn (9999+1) t (.slice a n c) (.slice none 0 0)).run P w=_
 rw [Op.equalIn];simp only [Sem.run_bind,dA hu,Result.andThen_ok];cases a <;> rfl
theorem U8 {ti:TI} {op:BinOp} {t:TypeId} {a:Option Addr} (hu:∀ e,ti.kind=.slice e→P.underlying t=some (.slice e)) (h:Gc ti.kind op a k) :
  ∃ z,k z none∧cH z=true∧∀ (a':Option Addr) (n c:Nat) w,a'.isNone=a.isNone→(binOp op t (.slice a' n c) (.slice none 0 0)).run P w=.ok z w:=by
 unfold Gc at h
 split at h
 ·rename_i e hk;refine ⟨_,h,rfl,fun a' n c w ha=>?_⟩
  rw [(rO (by simp) (by simp) (by simp) (by simp) (by simp) (AJ (hu _ hk) a' n c w)).1,ha]; rfl
 ·rename_i e b hk;refine ⟨_,h,rfl,fun a' n c w ha=>?_⟩
  rw [(rO (by simp) (by simp) (by simp) (by simp) (by simp) (AJ (hu _ hk) a' n c w)).1,ha]; rfl
 ·rename_i e hk;refine ⟨_,h,rfl,fun a' n c w ha=>?_⟩
  rw [(rO (by simp) (by simp) (by simp) (by simp) (by simp) (AJ (hu _ hk) a' n c w)).2,ha]; rfl
 ·rename_i e b hk;refine ⟨_,h,rfl,fun a' n c w ha=>?_⟩
  rw [(rO (by simp) (by simp) (by simp) (by simp) (by simp) (AJ (hu _ hk) a' n c w)).2,ha]; rfl
 ·exact h.elim
theorem KS (hT:∀ t ti,tt t=some ti→aD P t ti) {eqs:List TypeId} (hE:∀ t∈eqs,∀ ti,tt t=some ti→xx P t ti.zero) {op:BinOp} {t ty:TypeId} {x y:Operand} (h:CZ tt eqs tmps op t x y k):∃ v,k v none∧∀ bn,p8 P bn (.binOp op t x y ty) tmps v:=by
 obtain ⟨xv,J,hx⟩:=cQ h;clear h;obtain ⟨yv,h,hy⟩:=cQ J;clear J
 split at h
 ·obtain ⟨z,hk,hs,hr⟩:=U5 (P:=P) (t:=t) h;refine ⟨_,hk,fun bn=>⟨by simp,fun o ν a w hle ho ha=>⟨_,au.jT hs,?_⟩⟩⟩
  exact yE ho (hx ν a (ha x (by simp [Op.operands]))).fG (hy ν a (ha y (by simp [Op.operands]))).fG (T1 ..) (hr w)
 ·obtain ⟨z,hk,hs,hr⟩:=U6 (P:=P) (t:=t) h;refine ⟨_,hk,fun bn=>⟨by simp,fun o ν a w hle ho ha=>⟨_,au.jT hs,?_⟩⟩⟩
  exact yE ho (hx ν a (ha x (by simp [Op.operands]))).rT (hy ν a (ha y (by simp [Op.operands]))).rT (T2 ..) (hr w)
 ·obtain ⟨ti,ht,h⟩:=cN h;obtain ⟨d,hu,hd⟩:=(hT _ _ ht).under;obtain ⟨z,hk,hs,hr⟩:=T3 (P:=P) (t:=t) (fun hk=>by rw [hk] at hd; have hd:d=.bool:=hd; rw [hu,hd]) h
  refine ⟨_,hk,fun bn=>⟨by simp,fun o ν a w hle ho ha=>⟨_,au.jT hs,?_⟩⟩⟩
  exact yE ho (hx ν a (ha x (by simp [Op.operands]))).jV (hy ν a (ha y (by simp [Op.operands]))).jV (Sx ..) (hr w)
 ·rename_i xs ys;obtain ⟨ti,ht,h⟩:=cN h;obtain ⟨z,hk,hs,h1,J,hr⟩:=U7 (xs:=xs.toList) (ys:=ys.toList) (zero:=[]) hE ht h;refine ⟨_,hk,fun bn=>⟨by simp,fun o ν a w hle ho ha=>⟨_,au.jT hs,?_⟩⟩⟩
  obtain ⟨nh,jo,nZ⟩:=au.uh (xs:=xs.toList) (hx ν a (ha x (by simp [Op.operands])))
  obtain ⟨c9,gq,n3⟩:=au.uh (xs:=ys.toList) (hy ν a (ha y (by simp [Op.operands])))
  rw [bg.jU h1 nZ] at jo;rw [bg.jU J n3] at gq;exact yE ho jo gq ((hr w).2 x y) (hr w).1
 ·rename_i b n c;obtain ⟨ti,ht,h⟩:=cN h;obtain ⟨d,hu,hd⟩:=(hT _ _ ht).under;obtain ⟨z,hk,hs,hr⟩:=U8 (P:=P) (t:=t) (fun e hk=>by rw [hk] at hd; have hd:d=.slice e:=hd; rw [hu,hd]) h
  refine ⟨_,hk,fun bn=>⟨by simp,fun o ν a w hle ho ha=>⟨_,au.jT hs,?_⟩⟩⟩
  obtain ⟨a1,n1,c1,e1,h1⟩:=(hx ν a (ha x (by simp [Op.operands]))).T4
  have e2:a.eval y=.slice none 0 0:=by
   have J:=hy ν a (ha y (by simp [Op.operands]))
   generalize a.eval y=z at J;cases J
   rfl
  exact yE ho e1 e2 (R1 ..) (hr a1 n1 c1 w h1)
 ·exact h.elim
theorem abM (hT:∀ t ti,tt t=some ti→aD P t ti) {eqs:List TypeId} (hE:∀ t∈eqs,∀ ti,tt t=some ti→xx P t ti.zero) {op:BinOp} {t ty:TypeId} {x y:Operand} (h:CZ tt eqs tmps op t x y k):eW P (.binOp op t x y ty) tmps H aK k:=by
 obtain ⟨v,hk,hp⟩:=KS hT hE (ty:=ty) h;exact .value (by simp) hk fun o ν a w ho ha hH=>(hp ν).2 o ν a w ν.le_refl ho ha
theorem Nk {P:Program} {t:TypeId} {ty:TypeId} {d:TypeDesc} (hu:P.underlying t=some d) {x:Value} {m:Int} (w:World)
  (h:(∃ s,d=.string∧x=.string s∧m=s.size)∨(∃ e b n c,d=.slice e∧x=.slice b n c∧m=(n:Int))) :
  (Builtin.len_ #[t] ty #[x]).run P w=.ok (.int .i64 m) w:=by
 rcases h with ⟨s,rfl,rfl,rfl⟩ | ⟨e,b,n,c,rfl,rfl,rfl⟩ <;> simp [Builtin.len_,dA hu,goInt]
theorem N6 (hT:∀ t ti,tt t=some ti→aD P t ti) {c:Call} (hc:c.callee=.builtin .len) {t:TypeId} {x:Operand} (hx:c.args=#[x]) (ht:c.argTypes=#[t]) (h:HH tmps tt t x k):sC P (.call c) tmps H k:=by
 obtain ⟨xv,J,hv⟩:=cQ h;clear h;obtain ⟨ti,Iy,h⟩:=cN J;clear J;obtain ⟨d,hu,hd⟩:=(hT _ _ Iy).under
 split at h
 ·rename_i s hk;rw [hk] at hd;refine .value (by simp) h fun o ν a w ho ha hH=>⟨_,.int _ _,?_⟩
  have hv:=hv ν a (ha x (by simp [Op.operands,Call.operands,hc,hx]))
  have hr:=Nk (P:=P) (ty:=o.type) hu w (.inl ⟨_,hd,hv.rT,rfl⟩);simp [execOp,ho,resolve,hc,hx,ht,invoke,builtin,hr]
 ·rename_i e b m c hk;rw [hk] at hd;refine .value (by simp) h fun o ν a w ho ha hH=>⟨_,.int _ _,?_⟩
  obtain ⟨b',c',he⟩:=(hv ν a (ha x (by simp [Op.operands,Call.operands,hc,hx]))).abL
  have hr:=Nk (P:=P) (ty:=o.type) hu w (.inr ⟨_,_,_,_,hd,he,rfl⟩);simp [execOp,ho,resolve,hc,hx,ht,invoke,builtin,hr]
 ·exact h.elim
theorem abN (hT:∀ t ti,tt t=some ti→aD P t ti) {c:Call} (hc:c.callee=.builtin .len) {t:TypeId} {x:Operand} (hx:c.args=#[x]) (ht:c.argTypes=#[t]) (h:HH tmps tt t x k):eW P (.call c) tmps H aK k:=(N6 hT hc hx ht h).ok
theorem abO {c:Call} (hc:c.callee=.builtin .max) {x y:Operand} (hx:c.args=#[x,y]) (h:Pd tmps x y k):eW P (.call c) tmps H aK k:=by
 obtain ⟨xv,J,h1⟩:=cQ h;clear h;obtain ⟨yv,h,J⟩:=cQ J
 split at h
 ·refine .value (by simp) h fun o ν a w ho ha hH=>⟨_,.int _ _,?_⟩
  have h1:=(h1 ν a (ha x (by simp [Op.operands,Call.operands,hc,hx]))).fG
  have J:=(J ν a (ha y (by simp [Op.operands,Call.operands,hc,hx]))).fG
  simp [execOp,ho,resolve,hc,hx,invoke,builtin,Builtin.max_,h1,J,Builtin.max2]
 ·exact h.elim
theorem abP {c:Call} (hc:c.callee=.builtin .min) {x y:Operand} (hx:c.args=#[x,y]) (h:Pe tmps x y k):eW P (.call c) tmps H aK k:=by
 obtain ⟨xv,J,h1⟩:=cQ h;clear h;obtain ⟨yv,h,J⟩:=cQ J
 split at h
 ·refine .value (by simp) h fun o ν a w ho ha hH=>⟨_,.int _ _,?_⟩
  have h1:=(h1 ν a (ha x (by simp [Op.operands,Call.operands,hc,hx]))).fG
  have J:=(J ν a (ha y (by simp [Op.operands,Call.operands,hc,hx]))).fG
  simp [execOp,ho,resolve,hc,hx,invoke,builtin,Builtin.min_,h1,J,Builtin.min2]
 ·exact h.elim
theorem E6 {fs:List (Nat × Nat × Bool)}
  {Cj:Nat→Option (Nat × Nat)} (hp:∀ (i:Nat) x,fs[i]?=some x→Cj i=some (x.1,x.2.1)) :
  ∀ {ps:List (Nat × Operand)} {cs:List Value} {k:List Value→Prop},CA tmps fs ps cs k →
  ∃ ds,k ds∧∀ (ν:Nu) (a:Act),(∀ p∈ps,fh ν tmps a p.2)→∀ (eM:List Value),bg ν cs eM→∃ sQ,bg ν ds sQ∧Instr.fill Cj ⟨eM⟩ (ps.map fun p=>(p.1,a.eval p.2))=some ⟨sQ⟩
 | [],cs,k,h=>⟨cs,h,fun ν a _ eM hc=>⟨eM,hc,rfl⟩⟩
 | p::ps,cs,k,h=>by
  obtain ⟨v,J,hv⟩:=cQ h;clear h;have h:=AS J;clear J;obtain ⟨x,hx,J⟩:=AT h;clear h
  split at J
  ·rename_i bf;obtain ⟨hl,h1⟩:=x0 bf;obtain ⟨cs2,h3,iV,hle,ph,xy⟩:=yi J;obtain ⟨ds,k1,k0⟩:=E6 hp h3;refine ⟨ds,k1,fun ν a ha eM hc=>?_⟩
   have vh:=(hv ν a (ha p (by simp))).cells
   -- the same cells written over in the real struct
   have Hf:∀ (us:List Value) (o:Nat) (acc:List Value) (m:Nat),((us.zipIdx m).foldl (fun cs (c,j)=>cs.setIfInBounds (o+j) c) (⟨acc⟩:Array Value)).size=acc.length ∧
     ∀ j,((us.zipIdx m).foldl (fun cs (c,j)=>cs.setIfInBounds (o+j) c) (⟨acc⟩:Array Value))[j]?=if j < acc.length∧o+m≤j∧j < o+m+us.length then us[j - (o+m)]? else acc[j]?:=by
    intro us
    induction us with
    | nil =>
     intro o acc m;refine ⟨by simp,fun j=>?_⟩
     simp
     intros
     omega
    | cons u us ih =>
     intro o acc m;simp only [List.zipIdx_cons,List.foldl_cons];have e:(⟨acc⟩:Array Value).setIfInBounds (o+m) u=⟨acc.set (o+m) u⟩:=by apply Array.ext'; simp
     rw [e];obtain ⟨i1,i2⟩:=ih o (acc.set (o+m) u) (m+1);refine ⟨by rw [i1]; simp,fun j=>?_⟩
     rw [i2 j];simp only [List.length_set,List.length_cons];by_cases hj:j < acc.length
     ·by_cases h1:o+(m+1)≤j∧j < o+(m+1)+us.length
      ·rw [if_pos ⟨hj,h1⟩,if_pos ⟨hj,by omega,by omega⟩]
       rw [show j - (o+m)=(j - (o+(m+1)))+1 by omega]; simp
      ·rw [if_neg (by omega)]
       by_cases J:j=o+m
       ·subst J;rw [if_pos ⟨hj,by omega,by omega⟩]
        simp [List.getElem?_set,hj]
       ·rw [if_neg (by omega),List.getElem?_set_ne (by omega)]
     ·rw [if_neg (by omega),if_neg (by omega)]
      rw [List.getElem?_eq_none (by simp; omega),List.getElem?_eq_none (by omega)]
   obtain ⟨f1,f2⟩:=Hf (a.eval p.2).cells.toList x.1 eM 0;generalize HJ:(((a.eval p.2).cells.toList.zipIdx 0).foldl (fun cs (c,j)=>cs.setIfInBounds (x.1+j) c) (⟨eM⟩:Array Value))=G at f1 f2
   have HK:bg ν cs2 G.toList:=by
    refine ⟨by rw [iV,hc.1]; simpa using f1.symm,fun j y z hy hz=>?_⟩
    rw [Array.getElem?_toList,f2 j] at hz
    split at hz
    ·rename_i hj;have al:j - (x.1+0) < v.cells.toList.length:=by rw [vh.1]; omega
     have:=ph (j - (x.1+0)) _ (List.getElem?_eq_getElem al);rw [show x.1+(j - (x.1+0))=j by omega] at this
     rw [this] at hy; cases hy;exact vh.2 _ _ _ (List.getElem?_eq_getElem al) hz
    ·rename_i hj;have abQ:=xy j (by
      have Iz:j < eM.length:=(List.getElem?_eq_some_iff.1 hz).1;have:=vh.1;omega)
     rw [abQ] at hy;exact hc.2 _ _ _ hy hz
   obtain ⟨sQ,k2,k3⟩:=k0 ν a (fun q hq=>ha q (by simp [hq])) _ HK
   refine ⟨sQ,k2,?_⟩;have uA:(a.eval p.2).cells.size=x.2.1:=by rw [← Array.length_toList,← vh.1,hl]
   simp only [List.map_cons,Instr.fill,hp p.1 x hx];rw [if_neg]
   ·have:(((a.eval p.2).cells.zipIdx).foldl (fun cs (c,j)=>cs.setIfInBounds (x.1+j) c) (⟨eM⟩:Array Value))=⟨G.toList⟩:=by
     rw [← HJ,← Array.foldl_toList];simp
    rw [this];exact k3
   ·have:((⟨eM⟩:Array Value).size)=cs.length:=by simp [hc.1]
    simp only [uA,this];simp;omega
  ·exact J.elim
theorem LD {sz:Nat}:∀ {n off i:Nat} {x:Nat × Nat × Bool},(xd sz off n)[i]?=some x→x.1=off+i*sz∧x.2.1=sz
 | 0,off,i,x,h=>by simp [xd] at h
 | n+1,off,0,x,h=>by simp [xd] at h; subst h; simp
 | n+1,off,i+1,x,h=>by
  obtain ⟨h1,J⟩:=LD (n:=n) (off:=off+sz) (i:=i) (by simpa [xd] using h)
  exact ⟨by rw [h1,Nat.succ_mul]; omega,J⟩
theorem WE (hT:∀ t ti,tt t=some ti→aD P t ti) {t:TypeId} {ps:Array (Nat × Operand)} (h:N4 tt tmps t ps.toList k):eW P (.build t ps) tmps H aK k:=by
 obtain ⟨ti,ht,J⟩:=cN h;clear h;have bf:=hT _ _ ht;obtain ⟨d,hu,hd⟩:=bf.under;obtain ⟨i,hi,_,_,z,hz,ig⟩:=bf.info
 split at J
 ·rename_i fs hk;rw [hk] at hd;obtain ⟨fields,rfl,bc,hf⟩:=hd
  -- the places that the model reckons
  have adt:∀ (w:World) (l:List Field) (m:List (Nat × Nat × Bool)),l.length=m.length→(∀ (i:Nat) f x,l[i]?=some f→m[i]?=some x→yD P f x) →
    (l.mapM (m:=Sem) fun f=>do pure (f.offset,← sizeOf f.type)).run P w=.ok (m.map fun x=>(x.1,x.2.1)) w:=by
   intro w l
   induction l with
   | nil=>intro m hl _; cases m with
    | nil=>rfl
    | cons=>simp at hl
   | cons f l ih =>
    intro m hl hf;cases m with
    | nil=>simp at hl
    | cons x m =>
     obtain ⟨h1,J,⟨i,h3,h4⟩,_⟩:=hf 0 f x rfl rfl;have ih:=ih m (by simpa using hl) (fun i f' x' h h'=>hf (i+1) f' x' (by simpa using h) (by simpa using h'))
     simp only [List.mapM_cons,Sem.run_bind,gl h3,Result.andThen_ok,Sem.run_pure,ih,List.map_cons,h1,h4]
  obtain ⟨ds,k1,k0⟩:=E6 (Cj:=((fs.map fun x=>(x.1,x.2.1)).toArray[·]?)) (fun i x hx=>by simp [hx]) J
  refine .value (by simp) k1 fun o ν a w ho ha hH=>?_
  have hm:=adt w fields.toList fs (by simpa using bc) (fun i f x h h'=>hf i f x (by simpa using h) h')
  obtain ⟨sQ,k2,k3⟩:=k0 ν a (fun p hp=>ha p.2 (by simp [Op.operands]; exact ⟨p.1,by simpa using hp⟩)) _ (bf.self ν)
  refine ⟨.agg ⟨sQ⟩,.agg _ _ k2.1 k2.2,?_⟩;simp only [execOp,ho,Instr.build,Sem.run_bind,vO hi hz,Result.andThen_ok,dA hu,ig];have IA:(fields.mapM (m:=Sem) fun f=>do pure (f.offset,← sizeOf f.type)).run P w=.ok (fs.map fun x=>(x.1,x.2.1)).toArray w:=by
   rw [Array.mapM_eq_mapM_toList];simp only [Sem.run_map,hm,Result.andThen_ok]
  simp only [IA,Sem.run_bind,Result.andThen_ok];have e:(ps.map fun x=>(x.1,a.eval x.2)).toList=ps.toList.map fun p=>(p.1,a.eval p.2):=by simp
  have e2:(ps.map fun (x:Nat × Operand)=>match x with | (i,x)=>(i,a.eval x))=(ps.map fun x=>(x.1,a.eval x.2)):=rfl
  rw [e2,e,k3]
  rfl
 ·rename_i n e hk;rw [hk] at hd;have hd:d=.array n e:=hd;subst hd;obtain ⟨te,he,h⟩:=cN J;obtain ⟨ei,fo,iW,_⟩:=(hT _ _ he).info;obtain ⟨ds,k1,k0⟩:=E6 (Cj:=fun i=>some (i*ei.size,ei.size)) (fun i x hx=>by
   obtain ⟨h1,J⟩:=LD hx;rw [h1,J,iW,Nat.zero_add]) h
  refine .value (by simp) k1 fun o ν a w ho ha hH=>?_
  obtain ⟨sQ,k2,k3⟩:=k0 ν a (fun p hp=>ha p.2 (by simp [Op.operands]; exact ⟨p.1,by simpa using hp⟩)) _ (bf.self ν)
  refine ⟨.agg ⟨sQ⟩,.agg _ _ k2.1 k2.2,?_⟩;simp only [execOp,ho,Instr.build,Sem.run_bind,vO hi hz,Result.andThen_ok,dA hu,ig,gl fo];have e:(ps.map fun x=>(x.1,a.eval x.2)).toList=ps.toList.map fun p=>(p.1,a.eval p.2):=by simp
  have e2:(ps.map fun (x:Nat × Operand)=>match x with | (i,x)=>(i,a.eval x))=(ps.map fun x=>(x.1,a.eval x.2)):=rfl
  rw [e2,e,k3]
  rfl
 ·exact J.elim
end
open Go Go.RowKit
section
variable {P:Program} {tt:TT} {w:World} {ν:Nu} {aK:Nat} {k:QK} {tmps:List Value} {H:aA}
theorem JZ (z:Array Value) (n j:Nat) (h:j < n) (hz:0 < z.size):(madeCells z n)[j]?=z[j % z.size]?:=by
 unfold madeCells;rw [Array.getElem?_map,Array.getElem?_range,if_pos h];simp only [Option.map_some];have:j % z.size < z.size:=Nat.mod_lt _ hz;rw [Array.getElem?_eq_getElem this];simp [this]
theorem Gd (r e j:Nat) (h:j < e):(r*e+j) % e=j:=by
 rw [Nat.add_comm,Nat.add_mul_mod_self_right,Nat.mod_eq_of_lt h]
theorem R4 (hT:∀ t ti,tt t=some ti→aD P t ti) {t:TypeId} {x y:Operand} (h:KP tt tmps t x y aK k):eW P (.makeSlice t x y) tmps H aK k:=by
 obtain ⟨xv,J,hx⟩:=cQ h;clear h;obtain ⟨yv,h,hy⟩:=cQ J;clear J;obtain ⟨ti,ht,J⟩:=cN h;clear h;obtain ⟨d,hu,hd⟩:=(hT _ _ ht).under
 split at J
 ·rename_i e hk;rw [hk] at hd;have hd:d=.slice e:=hd;subst hd;obtain ⟨te,he,h⟩:=cN J;clear J;have bf:=hT _ _ he;obtain ⟨i,hi,gr,ni,z,hz,ig⟩:=bf.info
  split at h
  ·rename_i q n q' m cS;obtain ⟨⟨b0,b1,b2⟩,h⟩:=h;refine ⟨_,_,h,fun o ν a w r nn ho ha hH hn next Q hN=>?_⟩
   have hx:=(hx ν a (ha x (by simp [Op.operands]))).fG
   have hy:=(hy ν a (ha y (by simp [Op.operands]))).fG
   have lg:=bf.bit;have P9:m≤m*te.bytes:=by
    have:m*1≤m*(te.bytes:Int):=Int.mul_le_mul_of_nonneg_left (by omega) (by omega)
    omega
   have bE:=run_make (P:=P) w t e i z hu hi hz q q' n m b0 b1 (by rw [ni,Int.mul_comm]; omega) (by omega)
   refine jy (w':=w.alloc (.cells (madeCells z.cells (m.toNat*i.size)) e)) (v':=.slice (some ⟨w.heap.size,0,none⟩) n.toNat m.toNat) (by simp [ho]) (by simp [execOp,ho,hx,hy,bE]) next Q
    (hN _ _ (ν.add aK ⟨w.heap.size,0,te.size,m.toNat⟩) (mL hn ?_ (yd _ _) (Nat.le_refl _) ?_))
   ·have dx:(w.alloc (.cells (madeCells z.cells (m.toNat*i.size)) e)).heap[w.heap.size]?=some (.cells (madeCells z.cells (m.toNat*i.size)) e (0,0)):=by show (w.heap.push _)[w.heap.size]?=_; simp
    have jq:z.cells.size=te.size:=by rw [ig]; simpa using bf.len
    refine ⟨rfl,fun r hr=>bf.len,fun r hr j v hv=>⟨v,?_,au.jT (dC cS v (List.mem_of_getElem? hv))⟩,fun _ r hr v hv=>dC cS v hv,fun r hr v hv=>bf.one v hv,fun _ _=>⟨_,_,dx,?_,?_⟩,(fun r h=>nomatch h),?_⟩
    ·have hr:r < n.toNat:=hr;have hv:te.zero[j]?=some v:=hv;have hj:j < te.size:=by rw [← bf.len]; exact (List.getElem?_eq_some_iff.1 hv).1
     simp only [Loc.at,World.cell?,Nat.zero_add];rw [dx];have al:r*te.size+j < m.toNat*i.size:=by
      rw [gr];have:(r+1)*te.size≤m.toNat*te.size:=Nat.mul_le_mul_right _ (by omega)
      rw [Nat.add_mul] at this; omega
     simp only [Option.isSome_none,Bool.false_eq_true,if_false];rw [JZ _ _ _ al (by omega),jq,Gd _ _ _ hj,ig]
     simpa using hv
    ·simp [size_madeCells,gr]
    ·simp only [aj.n]; omega
    ·show w.heap.size < (w.alloc _).heap.size
     simp
   ·have:=au.slice (ν:=ν.add aK ⟨w.heap.size,0,te.size,m.toNat⟩) aK 0 n.toNat m.toNat m.toNat _ Nu.add_same (.inl rfl) (by omega) (by simp)
    simpa [Loc.at] using this
  ·exact h.elim
 ·exact J.elim
theorem LF:∀ {n:Nat} {r:List Value} {k:List (List Value)→Prop},HI n r k→k (List.replicate n r)
 | 0,_,_,h=>h
 | n+1,r,k,h=>by have:=LF (n:=n) h; simpa [List.replicate_succ] using this
theorem Ku:∀ {rs:List (List Value)} {n:Nat} {r:List Value} {k:List (List Value)→Prop},setRow rs n r k→n < rs.length∧k (rs.set n r)
 | [],_,_,_,h=>h.elim
 | _::rs,0,_,_,h=>⟨by simp,h⟩
 | q::rs,n+1,r,k,h=>by obtain ⟨h1,J⟩:=Ku (rs:=rs) h; exact ⟨by simpa using h1,by simpa using J⟩
def BR (ν:Nu) (sz:Nat) (rows:List (List Value)) (C:Array Value):Prop :=
 C.size=rows.length*sz∧(∀ row∈rows,row.length=sz)∧∀ r j row v,rows[r]?=some row→row[j]?=some v→∃ v',C[r*sz+j]?=some v'∧au ν v v'
theorem Kv {sz n:Nat}:∀ {ps:List (Nat × Operand)} {rows:List (List Value)} {k:List (List Value)→Prop},rowsOf tmps sz ps rows k→rows.length=n →
  ∃ iQ,k iQ∧iQ.length=n∧((∀ row∈rows,∀ v∈row,v.oneCell'=true)→∀ row∈iQ,∀ v∈row,v.oneCell'=true) ∧
   ∀ (ν:Nu) (a:Act),(∀ p∈ps,fh ν tmps a p.2)→∀ C,BR ν sz rows C→∃ C',BR ν sz iQ C'∧Instr.fill (fun i=>some (i*sz,sz)) C (ps.map fun p=>(p.1,a.eval p.2))=some C'
 | [],rows,k,h,hl=>⟨rows,h,hl,fun h=>h,fun ν a _ C hC=>⟨C,hC,rfl⟩⟩
 | p::ps,rows,k,h,hl=>by
  obtain ⟨v,J,hv⟩:=cQ h;clear h;have h:=AS J;clear J
  split at h
  ·rename_i bf;obtain ⟨hlen,qB⟩:=x0 bf;obtain ⟨al,J⟩:=Ku h;obtain ⟨iQ,k1,k2,k3,k4⟩:=Kv (n:=n) (ps:=ps) J (by rw [List.length_set]; exact hl)
   refine ⟨iQ,k1,k2,fun h0=>k3 (fun row aZ u hu=>?_),fun ν a ha C hC=>?_⟩
   ·rcases List.mem_or_eq_of_mem_set aZ with h | h
    ·exact h0 row h u hu
    ·rw [h] at hu; exact qB u hu
   ·obtain ⟨c1,c2,c3⟩:=hC;have vh:=(hv ν a (ha p (by simp))).cells
    have uA:(a.eval p.2).cells.size=sz:=by rw [← Array.length_toList,← vh.1,hlen]
    have Hf:∀ (us:List Value) (o:Nat) (acc:Array Value) (m:Nat),((us.zipIdx m).foldl (fun cs (c,j)=>cs.setIfInBounds (o+j) c) acc).size=acc.size ∧
      ∀ j,((us.zipIdx m).foldl (fun cs (c,j)=>cs.setIfInBounds (o+j) c) acc)[j]?=if j < acc.size∧o+m≤j∧j < o+m+us.length then us[j - (o+m)]? else acc[j]?:=by
     intro us
     induction us with
     | nil =>
      intro o acc m;refine ⟨by simp,fun j=>?_⟩
      simp
      intros
      omega
     | cons u us ih =>
      intro o acc m;simp only [List.zipIdx_cons,List.foldl_cons];obtain ⟨i1,i2⟩:=ih o (acc.setIfInBounds (o+m) u) (m+1);refine ⟨by rw [i1]; simp,fun j=>?_⟩
      rw [i2 j];simp only [Array.size_setIfInBounds,List.length_cons];by_cases hj:j < acc.size
      ·by_cases h1:o+(m+1)≤j∧j < o+(m+1)+us.length
       ·rw [if_pos ⟨hj,h1⟩,if_pos ⟨hj,by omega,by omega⟩]
        rw [show j - (o+m)=(j - (o+(m+1)))+1 by omega]; simp
       ·rw [if_neg (by omega)]
        by_cases J:j=o+m
        ·subst J;rw [if_pos ⟨hj,by omega,by omega⟩]
         simp [hj]
        ·rw [if_neg (by omega),Array.getElem?_setIfInBounds_ne (by omega)]
      ·rw [if_neg (by omega),if_neg (by omega)]
       rw [Array.getElem?_eq_none (by simp; omega),Array.getElem?_eq_none (by omega)]
    obtain ⟨f1,f2⟩:=Hf (a.eval p.2).cells.toList (p.1*sz) C 0;have eX:(a.eval p.2).cells.toList.length=sz:=by simpa using uA
    have hbound:(p.1+1)*sz≤rows.length*sz:=Nat.mul_le_mul_right _ al;rw [Nat.add_mul] at hbound;have HJ:(((a.eval p.2).cells.toList.zipIdx 0).foldl (fun cs (c,j)=>cs.setIfInBounds (p.1*sz+j) c) C)=((a.eval p.2).cells.zipIdx.foldl (fun cs (c,j)=>cs.setIfInBounds (p.1*sz+j) c) C):=by
     rw [← Array.foldl_toList]; simp
    have HK:BR ν sz (rows.set p.1 v.cells.toList) ((a.eval p.2).cells.zipIdx.foldl (fun cs (c,j)=>cs.setIfInBounds (p.1*sz+j) c) C):=by
     rw [← HJ];refine ⟨by rw [f1,c1,List.length_set],fun row aZ=>?_,fun r j row u hr hj=>?_⟩
     ·rcases List.mem_or_eq_of_mem_set aZ with h | h
      ·exact c2 row h
      ·rw [h]; exact hlen
     ·rw [f2];have aeq:j < sz:=by
       have gB:=List.mem_of_getElem? hr;have:row.length=sz:=by
        rcases List.mem_or_eq_of_mem_set gB with h | h
        ·exact c2 row h
        ·rw [h]; exact hlen
       rw [← this]; exact (List.getElem?_eq_some_iff.1 hj).1
      by_cases e:r=p.1
      ·subst e;rw [List.getElem?_set_self al] at hr;cases hr;rw [if_pos ⟨by omega,by omega,by omega⟩]
       rw [show p.1*sz+j - (p.1*sz+0)=j by omega]
       exact vh.get hj
      ·rw [List.getElem?_set_ne (Ne.symm e)] at hr;have aI:¬ (p.1*sz+0≤r*sz+j∧r*sz+j < p.1*sz+0+(a.eval p.2).cells.toList.length):=by
        rw [eX];rcases Nat.lt_or_ge r p.1 with h | h
        ·have:(r+1)*sz≤p.1*sz:=Nat.mul_le_mul_right _ h;rw [Nat.add_mul] at this; omega
        ·have:(p.1+1)*sz≤r*sz:=Nat.mul_le_mul_right _ (by omega)
         rw [Nat.add_mul] at this; omega
       rw [if_neg (fun h=>aI h.2)]
       exact c3 r j row u hr hj
    obtain ⟨C',q1,q2⟩:=k4 ν a (fun q hq=>ha q (by simp [hq])) _ HK
    refine ⟨C',q1,?_⟩;simp only [List.map_cons,Instr.fill];rw [if_neg]
    ·exact q2
    ·simp only [uA];simp;omega
  ·exact h.elim
theorem R5 {ah:Nat} {rows:List (List Value)} {k:aj→Prop} (h:GJ ah rows k):∃ b,k b∧∀ (ν:Nu) (l:Loc) (w:World),bN ν l (.aS true ah rows) w→bN ν l b w:=by
 unfold GJ at h
 split at h
 ·refine ⟨_,h,fun ν l w hB=>⟨hB.ah,fun r hr=>absurd hr (Nat.not_lt_zero r),fun r hr=>absurd hr (Nat.not_lt_zero r),fun _ r hr=>absurd hr (Nat.not_lt_zero r),fun r hr=>absurd hr (Nat.not_lt_zero r),fun _ _=>?_,(fun r h=>nomatch h),hB.live⟩⟩
  obtain ⟨cur,t,h1,J,_⟩:=hB.own rfl rfl;exact ⟨cur,t,h1,J,Nat.zero_le _⟩
 ·exact ⟨_,h,fun ν l w hB=>hB⟩
theorem RE (hT:∀ t ti,tt t=some ti→aD P t ti) {t:TypeId} {n:Nat} {ps:Array (Nat × Operand)} (h:Kt tt tmps t n ps.toList aK k):eW P (.buildSlice t n ps) tmps H aK k:=by
 obtain ⟨ti,ht,J⟩:=cN h;clear h;obtain ⟨d,hu,hd⟩:=(hT _ _ ht).under
 split at J
 ·rename_i e hk;rw [hk] at hd;have hd:d=.slice e:=hd;subst hd;obtain ⟨te,he,h⟩:=cN J;clear J;have bf:=hT _ _ he;obtain ⟨i,hi,gr,ni,z,hz,ig⟩:=bf.info
  split at h
  ·rename_i sD;have sD:=Nat.le_of_ble_eq_true sD;have h:=LF h;obtain ⟨rows,k1,k2,k3,k4⟩:=Kv (n:=n) h (by simp)
   obtain ⟨b,k1,kb⟩:=R5 k1;refine ⟨_,_,k1,fun o ν a w r nn ho ha hH hn next Q hN=>?_⟩
   have jq:z.cells.size=te.size:=by rw [ig]; simpa using bf.len
   -- the zero rows
   have zR:BR ν te.size (List.replicate n te.zero) (madeCells z.cells (n*te.size)):=by
    refine ⟨by simp [size_madeCells],fun row aZ=>by rw [(List.mem_replicate.1 aZ).2]; exact bf.len,fun r j row v hr hj=>?_⟩
    have aZ:=(List.mem_replicate.1 (List.mem_of_getElem? hr)).2;subst aZ;have adu:r < n:=by have:=(List.getElem?_eq_some_iff.1 hr).1; simpa using this
    have gh:j < te.size:=by rw [← bf.len]; exact (List.getElem?_eq_some_iff.1 hj).1
    have al:r*te.size+j < n*te.size:=by
     have:(r+1)*te.size≤n*te.size:=Nat.mul_le_mul_right _ adu;rw [Nat.add_mul] at this; omega
    obtain ⟨v',h1,J⟩:=(bf.self ν).get hj;rw [hj] at h1; cases h1;exact ⟨v,by rw [JZ _ _ _ al (by have:=bf.bit.1; omega),jq,Gd _ _ _ gh,ig]; simpa using hj,J⟩
   obtain ⟨C',q1,q2⟩:=k4 ν a (fun p hp=>ha p.2 (by simp [Op.operands]; exact ⟨p.1,by simpa using hp⟩)) _ zR
   have bE:(execOp a.eval o).run P w=.ok (.value (.slice (some ⟨w.heap.size,0,none⟩) n n)) { w with heap:=w.heap.push (.cells C' e) }:=by
    have e1:(ps.map fun (x:Nat × Operand)=>match x with | (i,x)=>(i,a.eval x))=(ps.map fun x=>(x.1,a.eval x.2)):=rfl
    have e2:(ps.map fun x=>(x.1,a.eval x.2)).toList=ps.toList.map fun p=>(p.1,a.eval p.2):=by simp
    have Qa:¬ (n*te.size > 2 ^ 24):=by omega
    have Dp:Instr.fill (fun i=>some (i*te.size,te.size)) ((Array.range (n*te.size)).map (z.cells[· % z.cells.size]!)) (ps.map fun x=>(x.1,a.eval x.2)).toList=some C':=by rw [e2]; exact q2
    simp only [execOp,ho,Instr.buildSlice,Sem.run_bind,dA hu,Result.andThen_ok,gl hi,gr,e1];rw [if_neg Qa];by_cases h0:n*te.size=0
    ·have e0:(Array.range (n*te.size)).map (z.cells[· % z.cells.size]!)=(Array.range (n*te.size)).map ((#[]:Array Value)[· % (#[]:Array Value).size]!):=by rw [h0]; simp
     rw [e0] at Dp;simp only [Sem.run_bind,Sem.run_ite,h0,if_true,Sem.run_pure,Result.andThen_ok,newRow,run_newObj];rw [h0] at Dp;simp only [Dp,Sem.run_bind,Sem.run_pure,Result.andThen_ok,newRow,run_newObj]
    ·simp only [Sem.run_bind,Sem.run_ite,h0,if_false,Sem.run_pure,vO hi hz,Result.andThen_ok];simp only [Dp,Sem.run_bind,Sem.run_pure,Result.andThen_ok,newRow,run_newObj]
   have dx:({ w with heap:=w.heap.push (.cells C' e) }:World).heap[w.heap.size]?=some (.cells C' e (0,0)):=by simp
   obtain ⟨c1,c2,c3⟩:=q1;refine jy (by simp [ho]) bE next Q (hN _ _ (ν.add aK ⟨w.heap.size,0,te.size,n⟩) (mL hn ?_ (yd _ _) (Nat.le_refl _) ?_))
   ·refine kb _ _ _ ⟨rfl,fun r hr=>?_,fun r hr j v hv=>?_,fun h=>by simp [aj.iN] at h,fun r hr v hv=>?_,fun _ _=>⟨_,_,dx,?_,?_⟩,(fun r h=>nomatch h),by simp⟩
    ·have hr:r < rows.length:=hr;simp only [aj.row,List.getD,List.getElem?_eq_getElem hr,Option.getD_some];exact c2 _ (List.getElem_mem _)
    ·have hr:r < rows.length:=hr;simp only [aj.row,List.getD,List.getElem?_eq_getElem hr,Option.getD_some] at hv;obtain ⟨v',h1,J⟩:=c3 r j _ v (List.getElem?_eq_getElem hr) hv;refine ⟨v',?_,J.mono (Nu.jX hn)⟩;simp only [Loc.at,World.cell?,Nat.zero_add];rw [dx]
     simpa using h1
    ·have hr:r < rows.length:=hr;simp only [aj.row,List.getD,List.getElem?_eq_getElem hr,Option.getD_some] at hv;exact k3 (fun row aZ u hu=>by rw [(List.mem_replicate.1 aZ).2] at hu; exact bf.one u hu) _ (List.getElem_mem _) v hv
    ·simp [c1,k2]
    ·simp [aj.n,k2]
   ·have:=au.slice (ν:=ν.add aK ⟨w.heap.size,0,te.size,n⟩) aK 0 n n n _ Nu.add_same (.inl rfl) (Nat.le_refl _) (by simp)
    simpa [Loc.at] using this
  ·exact h.elim
 ·exact J.elim
end
open Go Go.RowKit
section
variable {P:Program} {tt:TT} {w:World} {ν:Nu} {aK:Nat} {k:QK} {tmps:List Value} {H:aA}
theorem foldl_push (ns:List Int):∀ r:ByteArray,ns.foldl (fun r n=>r.push (UInt8.ofNat n.toNat)) r=⟨r.data++(ns.map fun n=>UInt8.ofNat n.toNat).toArray⟩:=by
 induction ns with
 | nil=>intro r; simp
 | cons n ns ih=>intro r; rw [List.foldl_cons,ih]; simp [ByteArray.push]
theorem Sy {a:Addr} {c:Nat} (w:World):(Conv.bytesToString (.slice (some a) 0 c)).run P w=.ok (.string ⟨#[]⟩) w:=by
 rw [run_bytesToString w a 0 c [] (by simpa using run_loadCells_list (P:=P) w a [] (fun j v h=>by simp at h))]
 rfl
theorem T5 (hT:∀ t ti,tt t=some ti→aD P t ti) {s d:TypeId} {x:Operand} (h:Mx tt tmps H s d x aK k):eW P (.convert s d x) tmps H aK k:=by
 obtain ⟨xv,J,hx⟩:=cQ h;clear h;obtain ⟨ts,hs,h⟩:=cN J;clear J;obtain ⟨td,hd,J⟩:=cN h;clear h;have h:=J;clear J;obtain ⟨ds,sR,eP⟩:=(hT _ _ hs).under;obtain ⟨dd,xJ,c7⟩:=(hT _ _ hd).under
 split at h
 ·rename_i q q' m hk;rw [hk] at c7;have c7:dd=.int q:=c7;subst c7
  split at h
  ·rename_i qs jr;rw [jr] at eP;have eP:ds=.int qs:=eP;subst eP;refine .value (by simp) h fun o ν a w ho ha hH=>⟨_,.int _ _,?_⟩
   have hx:=(hx ν a (ha x (by simp [Op.operands]))).fG
   simp [execOp,ho,hx,convert,dA sR,dA xJ,Conv.intToInt]
  ·exact h.elim
 ·rename_i s hk;rw [hk] at c7;have c7:dd=.string:=c7;subst c7
  split at h
  ·rename_i jr;rw [jr] at eP;have eP:ds=.string:=eP;subst eP;refine .value (by simp) h fun o ν a w ho ha hH=>⟨_,.str _,?_⟩
   have hx:=(hx ν a (ha x (by simp [Op.operands]))).rT
   simp [execOp,ho,hx,convert,dA sR,dA xJ]
  ·exact h.elim
 ·rename_i id row n c hk;rw [hk] at c7;have c7:dd=.string:=c7;subst c7
  split at h
  ·rename_i e jr;rw [jr] at eP;have eP:ds=.slice e:=eP;subst eP;obtain ⟨te,he,J⟩:=cN h;clear h;obtain ⟨de,xK,ke⟩:=(hT _ _ he).under
   split at J
   ·rename_i zS;rw [zS] at ke;have ke:de=.int .u8:=ke;subst ke;have OG:∀ (o:Oper) (ν:Nu) (a:Act) (w:World),o.op=.convert s d x→(∀ x'∈(Op.convert s d x).operands,fh ν tmps a x')→∃ ad c',a.eval x=.slice (some ad) n c'∧(0 < n→∃ l,ν id=some l∧ad=l.at row 0):=by
     intro o ν a w ho ha;rcases (hx ν a (ha x (by simp [Op.operands]))).tP with ⟨l,c',hl,hc,hn,hr,ck⟩ | ⟨hn,hc,bb,ck⟩
     ·exact ⟨_,_,ck,fun _=>⟨l,hl,rfl⟩⟩
     ·subst hn;exact ⟨_,_,ck,fun h=>absurd h (by omega)⟩
    split at J
    ·refine .value (by simp) J fun o ν a w ho ha hH=>⟨_,.str _,?_⟩
     obtain ⟨ad,c',ck,_⟩:=OG o ν a w ho ha;have:=run_convert_bytes_string (P:=P) w s d e (some ad) 0 c' sR xK xJ;simp [execOp,ho,ck,this,Sy]
    ·rename_i m;obtain ⟨b,hb,h⟩:=gu J;clear J
     split at h
     ·rename_i HL;obtain ⟨⟨hle,OH⟩,h⟩:=h;refine .value (by simp) h fun o ν a w ho ha hH=>⟨_,.str _,?_⟩
      obtain ⟨ad,c',ck,hl⟩:=OG o ν a w ho ha;obtain ⟨l,eO,rfl⟩:=hl (by omega)
      clear hl;obtain ⟨l',cC,hB⟩:=hH.aJ id b hb;rw [eO] at cC; cases cC;have hc:=run_convert_bytes_string (P:=P) w s d e (some (l.at row 0)) (m+1) c' sR xK xJ
      let ns:List Int:=(List.range (m+1)).map fun r=>match b.row (row+r) with | .int _ x::_=>x | _=>0
      have Zx:(loadCells (l.at row 0) (m+1)).run P w=.ok (ns.map (Value.int .u8)).toArray w:=by
       have:=run_loadCells_list (P:=P) w (l.at row 0) (ns.map (Value.int .u8)) (fun j v hj=>by
        have gh:j < m+1:=by
         have:=(List.getElem?_eq_some_iff.1 hj).1
         simpa [ns] using this
        obtain ⟨y,hy⟩:=OH j gh;obtain ⟨v',h1,J⟩:=hB.cell (row+j) (by omega) 0 (.int .u8 y) (by rw [hy]; rfl)
        have J:=J.fG;subst J;have hv:v=.int .u8 y:=by
         simp only [ns,List.map_map,List.getElem?_map,List.getElem?_range gh,Option.map_some,Function.comp,hy] at hj;exact (Option.some.inj hj).symm
        rw [Loc.jC,hv,← h1];simp only [Loc.at,hB.ah,HL]
        congr 2
        omega)
       simpa [ns] using this
      have bE:=run_bytesToString (P:=P) w (l.at row 0) (m+1) c' ns Zx;rw [foldl_push] at bE;have e:(⟨ByteArray.empty.data++(ns.map fun n=>UInt8.ofNat n.toNat).toArray⟩:ByteArray)=⟨⟨bytesOf b.row row (m+1)⟩⟩:=by
       have e0:ByteArray.empty.data=#[]:=rfl;rw [e0]
       congr 1
       simp only [Array.empty_append,bytesOf,ns,List.map_map]
       congr 1
       apply List.map_congr_left;intro r hr;obtain ⟨y,hy⟩:=OH r (List.mem_range.1 hr);simp [hy]
      rw [e] at bE;simp [execOp,ho,ck,hc,bE]
     ·exact h.elim
   ·exact J.elim
  ·exact h.elim
 ·rename_i hk;rw [hk] at c7;have c7:dd=.string:=c7;subst c7
  split at h
  ·rename_i e jr;rw [jr] at eP;have eP:ds=.slice e:=eP;subst eP;obtain ⟨te,he,J⟩:=cN h;clear h;obtain ⟨de,xK,ke⟩:=(hT _ _ he).under
   split at J
   ·rename_i zS;rw [zS] at ke;have ke:de=.int .u8:=ke;subst ke;refine .value (by simp) J fun o ν a w ho ha hH=>⟨_,.str _,?_⟩
    have hx:=(hx ν a (ha x (by simp [Op.operands]))).pP
    have:=run_convert_bytes_string (P:=P) w s d e none 0 0 sR xK xJ;simp [execOp,ho,hx,this,Conv.bytesToString]
    rfl
   ·exact J.elim
  ·exact h.elim
 ·rename_i e str hk;rw [hk] at c7;have c7:dd=.slice e:=c7;subst c7
  split at h
  ·rename_i jr;rw [jr] at eP;have eP:ds=.string:=eP;subst eP;obtain ⟨te,he,J⟩:=cN h;clear h;obtain ⟨de,xK,ke⟩:=(hT _ _ he).under
   split at J
   ·rename_i zS;rw [zS] at ke;have ke:de=.int .u8:=ke;subst ke;refine ⟨_,_,J,fun o ν a w r nn ho ha hH hn next Q hN=>?_⟩
    have hx:=(hx ν a (ha x (by simp [Op.operands]))).rT
    have bE:=run_bytes_of_string (P:=P) w s d e str sR xJ xK;have dH:=grownCap_ge w str.size 0 e;have hb:Below w.heap.size w (w.drew.alloc (.cells (bytesRow str (grownCap w str.size 0 e)) e ((bytesRow str (grownCap w str.size 0 e)).size,(bytesRow str (grownCap w str.size 0 e)).size+1))):=((Below.refl _ w).drew).alloc (Nat.le_refl _) _;have abR:(execOp a.eval o).run P w=.ok (.value (.slice (some ⟨w.heap.size,0,none⟩) str.size (grownCap w str.size 0 e))) (w.drew.alloc (.cells (bytesRow str (grownCap w str.size 0 e)) e ((bytesRow str (grownCap w str.size 0 e)).size,(bytesRow str (grownCap w str.size 0 e)).size+1))):=by
     simp [execOp,ho,hx,bE]
    refine jy (by simp [ho]) abR next Q
     (hN _ _ (ν.add aK ⟨w.heap.size,0,1,grownCap w str.size 0 e⟩) (mL hn ?_ hb (Nat.le_refl _) ?_))
    ·have dx:(w.drew.alloc (.cells (bytesRow str (grownCap w str.size 0 e)) e ((bytesRow str (grownCap w str.size 0 e)).size,(bytesRow str (grownCap w str.size 0 e)).size+1))).heap[w.heap.size]?=some (.cells (bytesRow str (grownCap w str.size 0 e)) e ((bytesRow str (grownCap w str.size 0 e)).size,(bytesRow str (grownCap w str.size 0 e)).size+1)):=by
      show (w.heap.push _)[w.heap.size]?=_; simp
     refine ⟨rfl,fun r hr=>rfl,fun r hr j v hv=>⟨v,?_,au.jT ?_⟩,fun _ r hr v hv=>?_,fun r hr v hv=>?_,fun h _=>by simp [aj.own] at h,(fun r h=>nomatch h),?_⟩
     ·have hr:r < str.size:=hr;have hv:[Value.int .u8 (bZ str r)][j]?=some v:=hv;have hj:j=0:=by
       have:=(List.getElem?_eq_some_iff.1 hv).1
       simpa using this
      subst hj;simp only [Loc.at,World.cell?,Nat.zero_add];rw [dx];simp only [Option.isSome_none,Bool.false_eq_true,if_false];have al:r < str.data.size:=hr;simp [bytesRow,bZ] at hv ⊢;rw [Array.getElem?_append_left (by simpa using al)]
      have hg:str.data[r]?=some (str.data[r]'al):=Array.getElem?_eq_getElem al;rw [hg] at hv;rw [Array.getElem?_map,hg,← hv]
      rfl
     ·have hv:[Value.int .u8 (bZ str r)][j]?=some v:=hv;have:=List.mem_of_getElem? hv;simp at this;rw [this]; rfl
     ·have hv:v∈[Value.int .u8 (bZ str r)]:=hv;simp at hv; rw [hv]; rfl
     ·have hv:v∈[Value.int .u8 (bZ str r)]:=hv;simp at hv; rw [hv]; rfl
     ·show w.heap.size < (w.drew.alloc _).heap.size
      simp
    ·have:=au.slice (ν:=ν.add aK ⟨w.heap.size,0,1,grownCap w str.size 0 e⟩) aK 0 str.size aO (grownCap w str.size 0 e) _ Nu.add_same (.inr rfl) dH (by simp)
     simpa [Loc.at] using this
   ·exact J.elim
  ·exact h.elim
 ·exact h.elim
theorem abS (hT:∀ t ti,tt t=some ti→aD P t ti) {c:Call} (hc:c.callee=.builtin .cap) {t:TypeId} {x:Operand} (hx:c.args=#[x]) (ht:c.argTypes=#[t]) (h:Pf tmps tt t x k):eW P (.call c) tmps H aK k:=by
 obtain ⟨xv,J,hv⟩:=cQ h;clear h;obtain ⟨ti,Iy,h⟩:=cN J;clear J;obtain ⟨d,hu,hd⟩:=(hT _ _ Iy).under
 split at h
 ·rename_i e hk;rw [hk] at hd;have hd:d=.slice e:=hd;subst hd;refine .value (by simp) h fun o ν a w ho ha hH=>⟨_,.int _ _,?_⟩
  have he:=(hv ν a (ha x (by simp [Op.operands,Call.operands,hc,hx]))).pP
  simp [execOp,ho,resolve,hc,hx,ht,invoke,builtin,Builtin.cap_,run_underlying hu,he,goInt]
 ·exact h.elim
theorem wrap_small {m:Nat} (h:m≤140737488355328):IntKind.i64.wrap (m:Int)=(m:Int):=by
 have e:IntKind.i64.wrap (m:Int)=if (true && decide ((m:Int) % (2 ^ 64:Int) ≥ (2 ^ 63:Int)))=true then (m:Int) % (2 ^ 64:Int) - (2 ^ 64:Int) else (m:Int) % (2 ^ 64:Int):=rfl
 rw [e];simp only [Bool.true_and,decide_eq_true_eq]
 split <;> omega
theorem Rp {t u ty e:TypeId} {q:IntKind} {i:TypeInfo} {z:Value} (ht:P.underlying t=some (.slice e)) (hu:P.underlying u=some (.int q)) (hi:P.info? e=some i) (hz:i.zero=some z)
  {n:Int} (h0:0 < n) (Qb:n*i.bytes≤140737488355328) (h63:n≤140737488355328) :
  (Builtin.append_ #[t,u] ty #[.slice none 0 0,.int .i64 n]).run P w =
   .ok (.slice (some ⟨w.heap.size,0,none⟩) n.toNat (grownCap w n.toNat 0 e))
    (w.drew.alloc (.cells ((if n.toNat*i.size=0 then #[] else Builtin.zeroCells z.cells n.toNat)++Builtin.zeroCells z.cells (grownCap w n.toNat 0 e - n.toNat)) e)):=by
 obtain ⟨m,rfl⟩:∃ m:Nat,n=m:=⟨n.toNat,by omega⟩
 have hw:IntKind.i64.wrap (m:Int)=(m:Int):=wrap_small (by omega)
 have hn:m≠0:=by omega
 have h1:¬ ((m:Int) < 0):=by omega
 have J:¬ (281474976710656 < (m:Int)*(i.bytes:Int)):=by omega
 have Pg:¬ (9223372036854775807 < (m:Int)):=by omega
 have Ph:¬ (281474976710656 < Builtin.nextslicecap m 0*i.bytes):=by
  rw [nextslicecap_zero (by omega)]
  have Qb:((m*i.bytes:Nat):Int)≤140737488355328:=by rw [Int.natCast_mul]; exact Qb
  omega
 by_cases hs:m*i.size=0
 ·simp [Builtin.append_,run_underlying ht,run_underlying hu,sizeOf,typeInfo,zeroValue,hi,hz,asInt,asIntOf,hw,h1,J,hn,Pg,Ph,Question.forced,newRow,grownCap,Builtin.firstCells,hs]
 ·simp [Builtin.append_,run_underlying ht,run_underlying hu,sizeOf,typeInfo,zeroValue,hi,hz,asInt,asIntOf,hw,h1,J,hn,Pg,Ph,Question.forced,newRow,grownCap,Builtin.firstCells,hs]
theorem J0 (z:Array Value) (n j:Nat) (h:j < n*z.size) (hz:0 < z.size):(Builtin.zeroCells z n)[j]?=z[j % z.size]?:=by
 unfold Builtin.zeroCells;rw [Array.getElem?_map,Array.getElem?_range,if_pos h];simp only [Option.map_some];have:j % z.size < z.size:=Nat.mod_lt _ hz;rw [Array.getElem?_eq_getElem this];simp [this]
theorem Sz (hT:∀ t ti,tt t=some ti→aD P t ti) {c:Call} (hc:c.callee=.builtin .append) {t u:TypeId} {x y:Operand} (hx:c.args=#[x,y]) (zT:c.argTypes=#[t,u]) (h:LB tt tmps t u x y aK k):eW P (.call c) tmps H aK k:=by
 obtain ⟨xv,J,mw⟩:=cQ h;clear h;obtain ⟨yv,h,my⟩:=cQ J;clear J;obtain ⟨ti,ht,J⟩:=cN h;clear h;obtain ⟨d,hu,hd⟩:=(hT _ _ ht).under
 split at J
 ·rename_i e hk;rw [hk] at hd;have hd:d=.slice e:=hd;subst hd;obtain ⟨te,he,h⟩:=cN J;clear J;obtain ⟨tu,htu,J⟩:=cN h;clear h;obtain ⟨du,huu,Dq⟩:=(hT _ _ htu).under;have bf:=hT _ _ he;obtain ⟨i,hi,gr,ni,z,hz,ig⟩:=bf.info
  split at J
  ·rename_i q n hku cS;rw [hku] at Dq;have Dq:du=.int q:=Dq;subst Dq;obtain ⟨⟨b0,b1⟩,h⟩:=J;refine ⟨_,_,h,fun o ν a w r nn ho ha hH hn next Q hN=>?_⟩
   have qN:=(mw ν a (ha x (by simp [Op.operands,Call.operands,hc,hx]))).pP
   have zU:=(my ν a (ha y (by simp [Op.operands,Call.operands,hc,hx]))).fG
   have lg:=bf.bit.2;have zV:n≤n*te.bytes:=by
    have:n*1≤n*(te.bytes:Int):=Int.mul_le_mul_of_nonneg_left (by omega) (by omega)
    omega
   have bE:=Rp (P:=P) (w:=w) (ty:=o.type) hu huu hi hz b0 (by rw [ni]; exact b1) (by omega)
   have dH:=grownCap_ge w n.toNat 0 e;have n4:∀ C:Array Value,Below w.heap.size w (w.drew.alloc (.cells C e)):=fun C=>((Below.refl _ w).drew).alloc (Nat.le_refl _) _
   have hpz:0 < te.size:=bf.bit.1;have jq:z.cells.size=te.size:=by rw [ig]; simpa using bf.len
   have hm:¬ (n.toNat*i.size=0):=by
    rw [gr];intro h0;rcases Nat.mul_eq_zero.1 h0 with h | h <;> omega
   rw [if_neg hm] at bE;generalize hC:Builtin.zeroCells z.cells n.toNat++Builtin.zeroCells z.cells (grownCap w n.toNat 0 e - n.toNat)=C at bE;refine jy (w':=w.drew.alloc (.cells C e)) (v':=.slice (some ⟨w.heap.size,0,none⟩) n.toNat (grownCap w n.toNat 0 e)) (by simp [ho]) (by simp [execOp,ho,resolve,hc,hx,zT,invoke,builtin,qN,zU,bE]) next Q
    (hN _ _ (ν.add aK ⟨w.heap.size,0,te.size,grownCap w n.toNat 0 e⟩) (mL hn ?_ (n4 _) (Nat.le_refl _) ?_))
   ·have Dr:C.size=grownCap w n.toNat 0 e*te.size:=by
     rw [← hC,Array.size_append];simp only [Builtin.zeroCells,Array.size_map,Array.size_range,jq];rw [← Nat.add_mul]
     congr 1
     omega
    have dx:(w.drew.alloc (.cells C e)).heap[w.heap.size]?=some (.cells C e (0,0)):=by show (w.heap.push _)[w.heap.size]?=_; simp
    refine ⟨rfl,fun r hr=>bf.len,fun r hr j v hv=>⟨v,?_,au.jT (dC cS v (List.mem_of_getElem? hv))⟩,fun _ r hr v hv=>dC cS v hv,fun r hr v hv=>bf.one v hv,fun _ _=>⟨_,_,dx,?_,?_⟩,(fun r h=>nomatch h),?_⟩
    ·have hr:r < n.toNat:=hr;have hv:te.zero[j]?=some v:=hv;have hj:j < te.size:=by rw [← bf.len]; exact (List.getElem?_eq_some_iff.1 hv).1
     simp only [Loc.at,World.cell?,Nat.zero_add];rw [dx];have al:r*te.size+j < n.toNat*te.size:=by
      have:(r+1)*te.size≤n.toNat*te.size:=Nat.mul_le_mul_right _ (by omega)
      rw [Nat.add_mul] at this; omega
     simp only [Option.isSome_none,Bool.false_eq_true,if_false];rw [← hC,Array.getElem?_append_left (by simp only [Builtin.zeroCells,Array.size_map,Array.size_range,jq]; exact al),J0 _ _ _ (by rw [jq]; exact al) (by omega),jq,Gd _ _ _ hj,ig]
     simpa using hv
    ·rw [Dr]; simp
    ·simp only [aj.n]; omega
    ·show w.heap.size < (w.drew.alloc _).heap.size
     simp
   ·have:=au.slice (ν:=ν.add aK ⟨w.heap.size,0,te.size,grownCap w n.toNat 0 e⟩) aK 0 n.toNat aO (grownCap w n.toNat 0 e) _ Nu.add_same (.inr rfl) dH (by simp)
    simpa [Loc.at] using this
  ·exact J.elim
 ·exact J.elim
end
open Go Go.RowKit
section
variable {P:Program} {tt:TT} {Φ:yY} {w:World} {ν:Nu} {aK:Nat} {k:QK} {tmps:List Value} {H:aA}
def Nu.comp (ν:Nu) (τ:List Nat):Nu:=fun j=>(τ[j]?).bind ν
theorem E7 {τ:List Nat} {m:Nat} {x:Value} {xs l:List Value} (h:mg τ m (x::xs)=some l):∃ y ys,l=y::ys∧cR τ m x=some y∧mg τ m xs=some ys:=by
 unfold mg at h;rw [List.foldr_cons] at h
 split at h
 ·rename_i y ys h1 J;exact ⟨y,ys,(Option.some.inj h).symm,h1,J⟩
 ·cases h
theorem FE {τ:List Nat} {m:Nat} {l:List Value} (h:mg τ m []=some l):l=[]:=by
 simp [mg] at h; exact h
theorem tQ {τ:List Nat} {m:Nat} (h:∀ v v2 r,cR τ m v=some v2→au ν v2 r→au (ν.comp τ) v r):∀ {xs l rs:List Value},mg τ m xs=some l→bg ν l rs→bg (ν.comp τ) xs rs
 | [],l,rs,h1,J=>by rw [FE h1] at J; rw [J.iL]; exact .nil _
 | x::xs,l,rs,h1,J=>by
  obtain ⟨y,ys,rfl,e1,e2⟩:=E7 h1;obtain ⟨r,b8,rfl,k1,k2⟩:=J.jd;exact .cons (h _ _ _ e1 k1) (tQ h e2 k2)
theorem yo {τ:List Nat} {m:Nat} (h:∀ v v2 r,cR τ m v=some v2→au (ν.comp τ) v r→au ν v2 r):∀ {xs l rs:List Value},mg τ m xs=some l→bg (ν.comp τ) xs rs→bg ν l rs
 | [],l,rs,h1,J=>by rw [FE h1]; rw [J.iL]; exact .nil _
 | x::xs,l,rs,h1,J=>by
  obtain ⟨y,ys,rfl,e1,e2⟩:=E7 h1;obtain ⟨r,b8,rfl,k1,k2⟩:=J.jd;exact .cons (h _ _ _ e1 k1) (yo h e2 k2)
theorem wo {τ:List Nat}:∀ (m:Nat) (v v2 r:Value),cR τ m v=some v2→au ν v2 r→au (ν.comp τ) v r:=by
 intro m
 induction m with
 | zero=>intro v v2 r h; simp [cR] at h
 | succ m ih =>
  intro v v2 r h hr;unfold cR at h
  split at h
  ·cases h; rw [hr.jU rfl]; exact .bool _
  ·cases h; rw [hr.jU rfl]; exact .int _ _
  ·cases h; rw [hr.jU rfl]; exact .str _
  ·cases h; cases hr; exact .me
  ·split at h
   ·rename_i vg e;cases h;obtain ⟨l,h1,rfl⟩:=hr.oJ;exact .ptr _ _ _ l (by simp [Nu.comp,e,h1])
   ·cases h
  ·cases h; cases hr; exact .iD
  ·split at h
   ·rename_i vg e;cases h;rcases hr.tP with ⟨l,c',h1,J,h3,h4,rfl⟩ | ⟨rfl,J,b,rfl⟩
    ·exact .slice _ _ _ _ _ l (by simp [Nu.comp,e,h1]) J h3 h4
    ·exact .void _ _ _ _ J
   ·cases h
  ·cases h; cases hr; exact .mf
  ·split at h
   ·rename_i l l' e;cases h;obtain ⟨ys,rfl,hy⟩:=hr.uh;have:=tQ ih e hy;exact .agg _ _ this.1 this.2
   ·cases h
  ·split at h
   ·rename_i l l' e;cases h;obtain ⟨ys,rfl,hy⟩:=hr.nC;have:=tQ ih e hy;exact .tuple _ _ this.1 this.2
   ·cases h
  ·split at h
   ·rename_i l1 l2 l1' l2' e1 e2;cases h;obtain ⟨ys,c9,rfl,hy,zU⟩:=hr.rN;have t1:=tQ ih e1 hy;have t2:=tQ ih e2 zU;exact .func _ _ _ _ _ t1.1 t1.2 t2.1 t2.2
   ·cases h
  ·cases h
theorem FF {τ:List Nat}:∀ (m:Nat) (v v2 r:Value),cR τ m v=some v2→au (ν.comp τ) v r→au ν v2 r:=by
 intro m
 induction m with
 | zero=>intro v v2 r h; simp [cR] at h
 | succ m ih =>
  intro v v2 r h hr;unfold cR at h
  split at h
  ·cases h; rw [hr.jU rfl]; exact .bool _
  ·cases h; rw [hr.jU rfl]; exact .int _ _
  ·cases h; rw [hr.jU rfl]; exact .str _
  ·cases h; cases hr; exact .me
  ·split at h
   ·rename_i vg e;cases h;obtain ⟨l,h1,rfl⟩:=hr.oJ;simp [Nu.comp,e] at h1;exact .ptr _ _ _ l h1
   ·cases h
  ·cases h; cases hr; exact .iD
  ·split at h
   ·rename_i vg e;cases h;rcases hr.tP with ⟨l,c',h1,J,h3,h4,rfl⟩ | ⟨rfl,J,b,rfl⟩
    ·simp [Nu.comp,e] at h1;exact .slice _ _ _ _ _ l h1 J h3 h4
    ·exact .void _ _ _ _ J
   ·cases h
  ·cases h; cases hr; exact .mf
  ·split at h
   ·rename_i l l' e;cases h;obtain ⟨ys,rfl,hy⟩:=hr.uh;have:=yo ih e hy;exact .agg _ _ this.1 this.2
   ·cases h
  ·split at h
   ·rename_i l l' e;cases h;obtain ⟨ys,rfl,hy⟩:=hr.nC;have:=yo ih e hy;exact .tuple _ _ this.1 this.2
   ·cases h
  ·split at h
   ·rename_i l1 l2 l1' l2' e1 e2;cases h;obtain ⟨ys,c9,rfl,hy,zU⟩:=hr.rN;have t1:=yo ih e1 hy;have t2:=yo ih e2 zU;exact .func _ _ _ _ _ t1.1 t1.2 t2.1 t2.2
   ·cases h
  ·cases h
structure Ck (b c:aj):Prop extends ar b c where
 rc:b.rc=none
theorem EJ {k:Prop}:∀ {σ:List Nat} {bs:List aj},y5 H σ bs k→σ.length=bs.length∧(∀ (j s:Nat) (b:aj),σ[j]?=some s→bs[j]?=some b→∃ c,H[s]?=some (some c)∧Ck b c)∧k
 | [],[],h=>⟨rfl,fun j s b h=>by simp at h,h⟩
 | s::σ,b::bs,h=>by
  have iX:b.rc=none∧gA H s fun c=>ar b c∧y5 H σ bs k:=by
   cases b with
   | aS o e r=>exact ⟨rfl,h⟩
   | flat o n e g=>exact ⟨rfl,h⟩
   | cc r=>exact h.elim
  obtain ⟨iX,h⟩:=iX;obtain ⟨c,h1,J,h3⟩:=gu h;obtain ⟨e1,e2,e3⟩:=EJ h3;refine ⟨by simp [e1],fun j s' b' hs hb=>?_,e3⟩
  cases j with
  | zero=>simp at hs hb; subst hs; subst hb; exact ⟨c,h1,J,iX⟩
  | succ j=>exact e2 j s' b' (by simpa using hs) (by simpa using hb)
 | [],_::_,h=>h.elim
 | _::_,[],h=>h.elim
theorem bN.FG {ν ak:Nu} {l:Loc} {b:aj} {w:World} (h:bN ν l b w) (hs:∀ r,r < b.n→∀ v∈b.row r,cH v=true):bN ak l b w :=
 ⟨h.ah,h.len,fun r hr j v hv=>by
  obtain ⟨v',h1,J⟩:=h.cell r hr j v hv;have zW:=hs r hr v (List.mem_of_getElem? hv);rw [J.jU zW] at h1;exact ⟨v,h1,au.jT zW⟩,h.plain,h.one,h.own,h.lr,h.live⟩
theorem bN.le {ν ak:Nu} {l:Loc} {b c:aj} {w:World} (h:bN ν l c w) (hle:Ck b c):bN ak l b w:=by
 refine ⟨h.ah.trans hle.ah,fun r hr=>?_,fun r hr j v hv=>?_,fun _ r hr v hv=>hle.flat r hr v hv,fun r hr v hv=>?_,fun ho _=>?_,(fun r h=>by rw [hle.rc] at h; cases h),h.live⟩
 ·rw [hle.row r hr,h.len r (Nat.lt_of_lt_of_le hr hle.n),hle.ah]
 ·rw [hle.row r hr] at hv;obtain ⟨v',h1,J⟩:=h.cell r (Nat.lt_of_lt_of_le hr hle.n) j v hv;have zW:=hle.flat r hr v (by rw [hle.row r hr]; exact List.mem_of_getElem? hv)
  rw [J.jU zW] at h1;exact ⟨v,h1,au.jT zW⟩
 ·rw [hle.row r hr] at hv;exact h.one r (Nat.lt_of_lt_of_le hr hle.n) v hv
 ·obtain ⟨h1,J⟩:=hle.own ho;obtain ⟨cur,t,q1,q2,q3⟩:=h.own (aj.cX h1).1 (aj.cX h1).2;exact ⟨cur,t,q1,q2,by omega⟩
theorem Nl {σ:List Nat}:(ν.comp σ).le (ν.comp (σ++[aK])):=by
 intro j l h;unfold Nu.comp at h ⊢;cases e:σ[j]? with
 | none=>rw [e] at h; cases h
 | some s =>
  rw [List.getElem?_append_left (List.getElem?_eq_some_iff.1 e).1,e]
  rwa [e] at h
theorem Kw {k:Prop} {τ:List Nat}:∀ {σ:List Nat} {bs:List aj},Cf H τ σ bs k→σ.length=bs.length∧(∀ (j s:Nat) (b:aj),σ[j]?=some s→bs[j]?=some b→∃ c,H[s]?=some (some c)∧C0 τ b c∧b.rc=none)∧k
 | [],[],h=>⟨rfl,fun j s b h=>by simp at h,h⟩
 | s::σ,b::bs,h=>by
  have iX:b.rc=none∧gA H s fun c=>C0 τ b c∧Cf H τ σ bs k:=by
   cases b with
   | aS o e r=>exact ⟨rfl,h⟩
   | flat o n e g=>exact ⟨rfl,h⟩
   | cc r=>exact h.elim
  obtain ⟨iX,h⟩:=iX;obtain ⟨c,h1,J,h3⟩:=gu h;obtain ⟨e1,e2,e3⟩:=Kw h3;refine ⟨by simp [e1],fun j s' b' hs hb=>?_,e3⟩
  cases j with
  | zero=>simp at hs hb; subst hs; subst hb; exact ⟨c,h1,J,iX⟩
  | succ j=>exact e2 j s' b' (by simpa using hs) (by simpa using hb)
 | [],_::_,h=>h.elim
 | _::_,[],h=>h.elim
theorem Mz {τ:List Nat} {m:Nat}:∀ {xs l:List Value},mg τ m xs=some l→xs.length=l.length∧∀ (j:Nat) v,xs[j]?=some v→∃ v2,l[j]?=some v2∧cR τ m v=some v2
 | [],l,h=>by rw [FE h]; exact ⟨rfl,fun j v h=>by simp at h⟩
 | x::xs,l,h=>by
  obtain ⟨y,ys,rfl,h1,J⟩:=E7 h;obtain ⟨h3,h4⟩:=Mz J;refine ⟨by simp [h3],fun j v hj=>?_⟩
  cases j with
  | zero=>simp at hj; subst hj; exact ⟨y,rfl,h1⟩
  | succ j=>exact h4 j v (by simpa using hj)
theorem U9 {τ:List Nat} {m:Nat} {v v2:Value} (h:cR τ m v=some v2) (J:v2.oneCell'=true):v.oneCell'=true:=by
 cases m with
 | zero=>simp [cR] at h
 | succ m =>
  unfold cR at h
  split at h <;> first | rfl | (cases h; exact J) | (split at h <;> cases h <;> exact J) | (cases h)
theorem bN.ler {ν:Nu} {σ:List Nat} {l:Loc} {b c:aj} {w:World} (h:bN ν l c w) (hle:C0 σ b c) (IB:b.rc=none):bN (ν.comp σ) l b w:=by
 rcases hle with hle | ⟨o,e,r,r',rfl,rfl,hr⟩
 ·exact h.le ⟨hle,IB⟩
 ·obtain ⟨h1,J⟩:=Mz hr;have one:∀ q,q < 1→q=0:=fun q hq=>by omega
  refine ⟨h.ah,fun q hq=>?_,fun q hq j v hv=>?_,(fun h=>nomatch h),fun q hq v hv=>?_,(fun h=>nomatch h),(fun r h=>nomatch h),h.live⟩
  ·obtain rfl:=one q hq;exact h1.trans (h.len 0 hq)
  ·obtain rfl:=one q hq;obtain ⟨v2,h3,h4⟩:=J j v hv;obtain ⟨v',h5,h6⟩:=h.cell 0 hq j v2 h3;exact ⟨v',h5,wo 3 _ _ _ h4 h6⟩
  ·obtain rfl:=one q hq;obtain ⟨j,hj⟩:=List.getElem?_of_mem (show v∈r from hv)
   obtain ⟨v2,h3,h4⟩:=J j v hj;exact U9 h4 (h.one 0 hq v2 (List.mem_of_getElem? h3))
theorem Zy {c:Call} {f:Operand} (hc:c.callee=.value f) (IC:∀ g S,Φ g=some S→CX P g S)
  (h:bU tmps f fun fv=>match fv with
   | .func (.func g) x y=>pX tmps c.args.toList fun vs=>qA x.toList vs fun l=>qA l y.toList fun args=>He Φ g args H aK k
   | _=>False):eW P (.call c) tmps H aK k:=by
 obtain ⟨fv,J,hf⟩:=cQ h;clear h
 split at J
 ·rename_i g x y;obtain ⟨vs,h,fm⟩:=A7 J;clear J;have J:=v8 (v8 h);clear h;have N7:∀ (o:Oper) (ν:Nu) (a:Act),(∀ z∈(Op.call c).operands,fh ν tmps a z)→∃ ys c9,a.eval f=.func (.func g) ⟨ys⟩ ⟨c9⟩∧bg ν (x.toList++vs++y.toList) ((ys++c.args.toList.map a.eval)++c9):=by
   intro o ν a ha;have fm:=fm ν a (fun z hz=>ha z (by simp [Op.operands,Call.operands,hc]; exact .inr (by simpa using hz)))
   obtain ⟨ys,c9,jM,h1,J⟩:=(hf ν a (ha f (by simp [Op.operands,Call.operands,hc]))).rN
   exact ⟨ys,c9,jM,(h1.append fm).append J⟩
  have OI:∀ (o:Oper) (a:Act) (w:World) (ys c9:List Value),(∀ args w,(callFunc g args).run P w=.ok (.enter g args) w)→o.op=.call c→a.eval f=.func (.func g) ⟨ys⟩ ⟨c9⟩ →
    (execOp a.eval o).run P w=.ok (.enter g ⟨(ys++c.args.toList.map a.eval)++c9⟩) w:=by
   intro o a w ys c9 n5 ho jM;simp only [execOp,ho,resolve,hc,jM,Deferred.ofValue,Sem.run_bind,Sem.run_pure,Result.andThen_ok,invoke,n5]
   congr 2
   apply Array.ext';simp
  have core:∀ (S:cG) (i:S.ι) (σ:List Nat) (v:Value),dk P g S→mg σ 3 (S.args i)=some (x.toList++vs++y.toList)→S.pre i→σ.length=(S.ae i).length →
    (∀ (ν:Nu) (w:World),bQ ν H w→∀ id b,(S.ae i)[id]?=some b→∃ l,(ν.comp σ) id=some l∧bN (ν.comp σ) l b w)→cR (σ++[aK]) 3 (S.val i)=some v→k v (S.new i)→eW P (.call c) tmps H aK k:=by
   intro S i σ v hs nQ hp hlen HM hv h;refine ⟨_,_,h,fun o ν a w r n ho ha hH hn next Q hN=>⟨fun _ _=>trivial,?_⟩⟩
   obtain ⟨ys,c9,jM,nL⟩:=N7 o ν a ha;have Zz:=tQ (wo (ν:=ν) 3) nQ nL;rw [Oper.semAt_eq _ _ _ (by simp [ho]),OI o a w ys c9 hs.enters ho jM]
   refine ⟨fun h=>by simp [WF,Fence.wide] at h,?_⟩
   have kf:bQ (ν.comp σ) ((S.ae i).map some) w:=by
    have kG:∀ (id:Nat) (b:aj),((S.ae i).map some)[id]?=some (some b)→(S.ae i)[id]?=some b:=by
     intro id b bm;rw [List.getElem?_map] at bm;cases e:(S.ae i)[id]? with
     | none=>rw [e] at bm; cases bm
     | some b'=>rw [e] at bm; simp at bm; rw [bm]
    refine ⟨fun id b bm=>HM ν w hH id b (kG id b bm),fun p q bp bq lp lq ID _ _ ho=>?_⟩
    have:=hs.ro i bp (List.mem_of_getElem? (kG p bp ID));rw [this] at ho; cases ho
   have gi:∀ id,(S.ae i).length≤id→(ν.comp σ) id=none:=by
    intro id bm;simp [Nu.comp,List.getElem?_eq_none (show σ.length≤id by omega)]
   have y6:=hs.calls i hp (ν.comp σ) _ w (n - 1) Zz kf gi;have yI:CallsIn (WF r) (n - 1) P g ⟨(ys++c.args.toList.map a.eval)++c9⟩ w fun e w'=>∃ v' ak,e=.returned v'∧mT (ν.comp σ) ak (S.ae i).length w w' (S.val i) v' (S.new i):=y6
   refine yI.mono ?_
   rintro e w' ⟨v',dQ,rfl,hq⟩
   cases dx:S.new i with
   | none =>
    have e1:=hq.zO dx;refine hN _ _ ν ⟨ν.le_refl,fun _ _=>rfl,?_,hq.below,fun _=>rfl,(fun b hb=>by rw [dx] at hb; cases hb)⟩
    refine FF 3 _ _ _ hv (hq.val.mono ?_);rw [e1]; exact Nl
   | some b =>
    obtain ⟨l,h1,J,h3⟩:=hq.gR b dx;have hle:dQ.le ((ν.add aK l).comp (σ++[aK])):=by
     intro j lj hj;by_cases e:j=(S.ae i).length
     ·subst e;rw [h1] at hj; cases hj;simp [Nu.comp,← hlen,Nu.add_same]
     ·rw [hq.only j e] at hj;have:=Nl (aK:=aK) j lj hj;unfold Nu.comp at this ⊢;cases e2:(σ++[aK])[j]? with
      | none=>rw [e2] at this; cases this
      | some s =>
       rw [e2] at this;exact Nu.jX hn s lj this
    have sS:=hs.fl i b dx;refine hN _ _ (ν.add aK l) ⟨Nu.jX hn,fun id bm=>Nu.iM bm,FF 3 _ _ _ hv (hq.val.mono hle),hq.below,(fun h=>by rw [dx] at h; cases h),(fun b' bA=>?_)⟩
    rw [dx] at bA; cases bA;exact ⟨l,Nu.add_same,J.FG (J.plain sS),h3⟩
  unfold He at J
  split at J
  ·rename_i S hS;obtain ⟨i,hi,hp,h⟩:=J;have h:=vP h;have hs:bh P g S:=IC g _ hS;refine ⟨_,none,h,fun o ν a w r n ho ha hH hn next Q hN=>⟨fun _ _=>trivial,?_⟩⟩
   obtain ⟨ys,c9,jM,nL⟩:=N7 o ν a ha;rw [← hi] at nL;rw [Oper.semAt_eq _ _ _ (by simp [ho]),OI o a w ys c9 hs.enters ho jM]
   refine ⟨fun h=>by simp [WF,Fence.wide] at h,?_⟩
   have y6:=hs.calls i hp ν _ w (n - 1) nL;have yI:CallsIn (WF r) (n - 1) P g ⟨(ys++c.args.toList.map a.eval)++c9⟩ w fun e w'=>∃ v',e=.returned v'∧au ν (S.val i) v'∧Below w.heap.size w w':=y6
   refine yI.mono ?_
   rintro e w' ⟨v',rfl,hv,hb⟩
   exact hN _ _ ν ⟨ν.le_refl,fun _ _=>rfl,hv,hb,fun _=>rfl,(fun b hb=>by cases hb)⟩
  ·rename_i S hS;obtain ⟨i,σ,nQ,hp,h⟩:=J;obtain ⟨hlen,n4,v,hv,h⟩:=EJ h;refine core S i σ v (IC g _ hS) nQ hp hlen (fun ν w hH id b bm=>?_) hv (vP h)
   have al:id < σ.length:=by rw [hlen]; exact (List.getElem?_eq_some_iff.1 bm).1
   obtain ⟨cb,h1,J⟩:=n4 id _ b (List.getElem?_eq_getElem al) bm;obtain ⟨l,h3,h4⟩:=hH.aJ _ _ h1;exact ⟨l,by simp [Nu.comp,List.getElem?_eq_getElem al,h3],h4.le J⟩
  ·rename_i S hS;obtain ⟨i,σ,nQ,hp,h⟩:=J;obtain ⟨hlen,n4,v,hv,h⟩:=Kw h;refine core S i σ v (IC g _ hS) nQ hp hlen (fun ν w hH id b bm=>?_) hv (vP h)
   have al:id < σ.length:=by rw [hlen]; exact (List.getElem?_eq_some_iff.1 bm).1
   obtain ⟨cb,h1,J,h5⟩:=n4 id _ b (List.getElem?_eq_getElem al) bm;obtain ⟨l,h3,h4⟩:=hH.aJ _ _ h1;exact ⟨l,by simp [Nu.comp,List.getElem?_eq_getElem al,h3],h4.ler J h5⟩
  ·exact J.elim
 ·exact J.elim
structure Kept (O:Nat→Prop) (w w':World):Prop where
 os:w'.os=w.os
 tape:w'.tape=w.tape
 output:w'.output=w.output
 size:w.heap.size≤w'.heap.size
 aJ:∀ b,b < w.heap.size→¬ O b→w'.heap[b]?=w.heap[b]?
theorem Kept.refl {O:Nat→Prop} (w:World):Kept O w w:=⟨rfl,rfl,rfl,Nat.le_refl _,fun _ _ _=>rfl⟩
theorem Kept.below {O:Nat→Prop} {W w w':World} (h:Kept O W w) (hb:Below w.heap.size w w'):Kept O W w' :=
 ⟨hb.os.trans h.os,hb.tape.trans h.tape,hb.output.trans h.output,Nat.le_trans h.size hb.size,fun b h1 J=>(hb.block b (Nat.lt_of_lt_of_le h1 h.size)).trans (h.aJ b h1 J)⟩
theorem Kept.then {O O':Nat→Prop} {W w w':World} (h:Kept O W w) (h':Kept O' w w') (hO:∀ b,O' b→O b∨W.heap.size≤b):Kept O W w' :=
 ⟨h'.os.trans h.os,h'.tape.trans h.tape,h'.output.trans h.output,Nat.le_trans h.size h'.size,fun b h1 J =>
  (h'.aJ b (Nat.lt_of_lt_of_le h1 h.size) (fun h3=>(hO b h3).elim J (fun h4=>by omega))).trans (h.aJ b h1 J)⟩
structure gf (P:Program) (f:FuncId) (F:FT):Prop where
 enters:∀ args w,(callFunc f args).run P w=.ok (.enter f args) w
 calls:∀ (args:List Value) (H:aA) (K:Value→aA→Prop),F args H K→∀ (ν:Nu) (as:List Value) (w:World) (n:Nat) (O:Nat→Prop),bg ν args as→bQ ν H w→(∀ id,H.length≤id→ν id=none) →
  (∀ id b l,H[id]?=some (some b)→b.own=true→ν id=some l→O l.aJ) →
  CallsIn Fence.wide n P f ⟨as⟩ w fun e w'=>∃ v v' ak H',e=.returned v'∧K v H'∧au ak v v'∧ν.le ak∧bQ ak H' w'∧(∀ id,H'.length≤id→ak id=none)∧Kept O w w' ∧
   ∀ id b l,H'[id]?=some (some b)→b.own=true→ak id=some l→O l.aJ∨w.heap.size≤l.aJ
structure EnvOk (P:Program) (E:Env):Prop where
 ty:∀ t ti,E.tt t=some ti→aD P t ti
 eq:∀ t∈E.eqs,∀ ti,E.tt t=some ti→xx P t ti.zero
 fn:∀ g S,E.Φ g=some S→CX P g S
 ft:∀ g F,E.Ψ g=some F→gf P g F:=by intro g F h; cases h
def GL (K:Value→aA→Prop) (ν:Nu) (O:Nat→Prop) (w:World) (e:Ending) (w':World):Prop :=
 ∃ v v' ak H',e=.returned v'∧K v H'∧au ak v v'∧ν.le ak∧bQ ak H' w'∧(∀ id,H'.length≤id→ak id=none)∧Kept O w w' ∧
   ∀ id b l,H'[id]?=some (some b)→b.own=true→ak id=some l→O l.aJ∨w.heap.size≤l.aJ
def Qc (P:Program) (l:Nat) (G:FT) (bn:Nu):Prop :=
 ∀ (args:List Value) (H:aA) (K:Value→aA→Prop),G args H K→∀ (ν:Nu) (as:List Value) (w:World) (n:Nat) (O:Nat→Prop),bn.le ν→bg ν args as→bQ ν H w→(∀ id,H.length≤id→ν id=none) →
  (∀ id b l,H[id]?=some (some b)→b.own=true→ν id=some l→O l.aJ)→YieldAt Fence.wide n P l ⟨as⟩ w (GL K ν O w)
structure zv (P:Program) (f:FuncId) (I:Nat→FT→Nu→FT):Prop where
 enters:∀ args w,(callFunc f args).run P w=.ok (.enter f args) w
 calls:∀ l G bn,Qc P l G bn→∀ (args:List Value) (H:aA) (K:Value→aA→Prop),I l G bn args H K→∀ (ν:Nu) (as:List Value) (w:World) (n:Nat) (O:Nat→Prop),bn.le ν→bg ν args as→bQ ν H w→(∀ id,H.length≤id→ν id=none) →
  (∀ id b l,H[id]?=some (some b)→b.own=true→ν id=some l→O l.aJ)→CallsIn Fence.wide n P f ⟨as⟩ w (GL K ν O w)
def gG (P:Program) (E:Env):Prop:=∀ f I,E.It f=some I→zv P f I
theorem gG.none {P:Program} {E:Env} (h:E.It=fun _=>none):gG P E:=fun f I hI=>by rw [h] at hI; cases hI
structure jJ (P:Program) (E:Env):Prop extends EnvOk P E where
 IE:gG P E
 ys:∀ l G r,E.ys=(l,G)::r→Qc P l G E.nu
theorem EnvOk.x {P:Program} {E:Env} (h:EnvOk P E) (hI:gG P E) (hy:E.ys=[]):jJ P E:=⟨h,hI,fun l G r e=>by rw [hy] at e; cases e⟩
def p9 {α:Type _}:List (Nat × α)→Nat→Option α
 | [],_=>none
 | c::l,g=>match Nat.beq c.1 g with
  | true=>some c.2
  | false=>p9 l g
def uU {α:Type _} (Q:Nat→α→Prop):List (Nat × α)→Prop
 | []=>True
 | c::l=>Q c.1 c.2∧uU Q l
theorem wq {α:Type _} {Q:Nat→α→Prop}:∀ {l:List (Nat × α)} {g:Nat} {S:α},uU Q l→p9 l g=some S→Q g S
 | c::l,g,S,hq,h=>by
  unfold p9 at h
  split at h
  ·rename_i e; cases h; rw [← Nat.eq_of_beq_eq_true e]; exact hq.1
  ·exact wq hq.2 h
theorem Bg {E:Env} (hE:EnvOk P E) {op:Op} (h:kK E op tmps H aK k):eW P op tmps H aK k:=by
 cases op
 case move=>exact Zu h
 case assign=>exact U4 h
 case pick=>exact Zv h
 case alloc=>exact Wz hE.ty h
 case box=>exact abK hE.ty h
 case build=>exact WE hE.ty h
 case load=>exact Zw hE.ty h
 case fieldAddr=>exact RZ hE.ty h
 case field=>exact WA hE.ty h
 case indexAddr=>exact R0 hE.ty h
 case index=>exact WD hE.ty h
 case extract=>exact TZ h
 case makeFunc=>exact Sv h
 case unOp=>exact ads h
 case binOp=>exact abM hE.ty hE.eq h
 case convert=>exact T5 hE.ty h
 case buildSlice=>exact RE hE.ty h
 case makeSlice=>exact R4 hE.ty h
 case slice=>exact WC hE.ty h
 case call c =>
  unfold kK at h
  dsimp only at h
  split at h
  ·rename_i f hc;exact Zy hc hE.fn h
  ·rename_i hc
   split at h
   ·rename_i x t hx ht;exact abN hE.ty hc (Array.ext' hx) (Array.ext' ht) h
   ·exact h.elim
  ·rename_i hc
   split at h
   ·rename_i x y hx;exact abO hc (Array.ext' hx) h
   ·exact h.elim
  ·rename_i hc
   split at h
   ·rename_i x t hx ht;exact abS hE.ty hc (Array.ext' hx) (Array.ext' ht) h
   ·exact h.elim
  ·rename_i hc
   split at h
   ·rename_i x y t u hx ht;exact Sz hE.ty hc (Array.ext' hx) (Array.ext' ht) h
   ·exact h.elim
  ·rename_i hc
   split at h
   ·rename_i x y hx;exact abP hc (Array.ext' hx) h
   ·exact h.elim
  ·exact h.elim
 all_goals exact h.elim
end
open Go Go.RowKit
abbrev SK:=List Value→aA→Prop
def Ge:List (List Value)→Nat→Nat→List Value→(List (List Value)→Prop)→Prop
 | [],_,_,_,_=>False
 | r::rs,0,c,vs,k=>uS r c vs fun r'=>k (r'::rs)
 | r::rs,n+1,c,vs,k=>Ge rs n c vs fun b8=>k (r::b8)
theorem J7:∀ {rs:List (List Value)} {n c:Nat} {vs:List Value} {k:List (List Value)→Prop},Ge rs n c vs k →
  ∃ r r',rs[n]?=some r∧(r'.length=r.length∧c+vs.length≤r.length∧(∀ (j:Nat) v,vs[j]?=some v→r'[c+j]?=some v)∧∀ (j:Nat),(j < c∨c+vs.length≤j)→r'[j]?=r[j]?)∧k (rs.set n r')
 | [],_,_,_,_,h=>h.elim
 | r::rs,0,c,vs,k,h=>by
  obtain ⟨l',h0,h1⟩:=yi h;exact ⟨r,l',rfl,h1,by simpa using h0⟩
 | r::rs,n+1,c,vs,k,h=>by
  obtain ⟨q,q',h1,J,h3⟩:=J7 (rs:=rs) h;exact ⟨q,q',by simpa using h1,J,by simpa using h3⟩
def jA:List Value→Bool
 | []=>true
 | v::l=>cH v && jA l
theorem x4:∀ {l:List Value},jA l=true→∀ v∈l,cH v=true
 | [],_,v,hv=>by simp at hv
 | v::l,h,u,hu=>by
  simp only [jA,Bool.and_eq_true] at h;rcases List.mem_cons.1 hu with e | e
  ·rw [e]; exact h.1
  ·exact x4 h.2 u e
def MA (b:aj) (row b6:Nat) (cs:List Value) (k:aj→Prop):Prop :=
 match b with
 | .aS true ah rows=>Ge rows row b6 cs fun iQ=>k (.aS true ah iQ)
 | .flat true n ah get=>row < n∧match jA cs with
  | true=>uS (get row) b6 cs fun r'=>k (.flat true n ah fun j=>if j=row then r' else get j)
  | false=>False
 | _=>False
def Cl (E:Env) (tmps:List Value) (H:aA) (t:TypeId) (x y:Operand) (k:SK):Prop :=
 bU tmps x fun av=>match av with
  | .pointer (some ⟨id,row,sp⟩)=>bU tmps y fun v=>wU v fun cs=>cJ E.tt t fun ti=>match pO cs ti.size with
   | true=>gA H id fun b=>MA b row (sp.getD 0) cs fun b'=>jl H id (some b') fun H'=>k tmps H'
   | false=>False
  | _=>False
def dm (tmps:List Value) (d:Option Tmp) (v:Value) (k:List Value→Prop):Prop :=
 match d with
 | none=>k tmps
 | some d=>xu tmps d v k
def uV (H:aA) (nb:Option aj) (k:aA→Prop):Prop :=
 match nb with
 | none=>k H
 | some b=>oR H (some b) k
structure Fr where
 W:World
 O:Nat→Prop
 ν:Nu
 n0:Nat
 fresh:∀ id,n0≤id→ν id=none
structure kL (F:Fr) (E:Env):Prop where
 n0:F.n0≤E.base
 nu:E.nu.le F.ν
def Marks (n:Nat) (ds:List Deferred) (w:World):Prop :=
 ds.Nodup∧∀ d∈ds,∃ D,d={ target:=.collected D,args:=#[] }∧n≤D∧w.heap[D]?=some (.deferred (some []))
theorem Marks.nil (n:Nat) (w:World):Marks n [] w:=⟨.nil,fun d hd=>by cases hd⟩
theorem Bh {n:Nat} {ds:List Deferred} {w w':World} (h:Marks n ds w) (hk:∀ D:Nat,w.heap[D]?=some (Obj.deferred (some []))→w'.heap[D]?=some (Obj.deferred (some []))):Marks n ds w' :=
 ⟨h.1,fun d hd=>let ⟨D,h1,J,h3⟩:=h.2 d hd; ⟨D,h1,J,hk D h3⟩⟩
theorem Marks.below {n:Nat} {ds:List Deferred} {w w':World} (h:Marks n ds w) (hb:Below w.heap.size w w'):Marks n ds w' :=
 Bh h fun D hD=>(hb.block D (Array.getElem?_eq_some_iff.1 hD).1).trans hD
theorem Marks.eh {n:Nat} {ds:List Deferred} {w w':World} (h:Marks n ds w) {b:Nat} {cur:Array Value} {t:TypeId} {z:Nat × Nat} (hb:w.heap[b]?=some (Obj.cells cur t z)) (hk:∀ q:Nat,q≠b→w'.heap[q]?=w.heap[q]?):Marks n ds w' :=
 Bh h fun D hD=>(hk D (fun e=>by rw [e,hb] at hD; cases hD)).trans hD
structure bw (F:Fr) (ν:Nu) (tmps:List Value) (H:aA) (a:Act) (w:World):Prop where
 tm:bg ν tmps a.tmps.toList
 df:Marks F.W.heap.size a.defers w
 hp:bQ ν H w
 fr:∀ id,H.length≤id→ν id=none
 kp:Kept F.O F.W w
 own:∀ id b l,H[id]?=some (some b)→b.own=true→ν id=some l→F.O l.aJ∨F.W.heap.size≤l.aJ
 mono:F.ν.le ν
section
variable {P:Program} {E:Env} {r:Option Nat} {n:Nat} {F:Fr}
theorem bw.l8 {ν:Nu} {tmps:List Value} {H:aA} {a:Act} {w:World} (h:bw F ν tmps H a w) (x:Operand):fh ν tmps a x:=by
 intro t ht v hv;obtain ⟨v',h1,J⟩:=h.tm.get hv;exact ⟨v',by simpa using h1,J⟩
theorem rJ (a:Act) (d:Tmp) (v:Value):(a.put (some d) v).tmps.toList=a.tmps.toList.set d v:=by simp [Act.put]
theorem bw.dst {ν:Nu} {tmps:List Value} {H:aA} {a:Act} {w:World} (h:bw F ν tmps H a w) {d:Option Tmp} {v v':Value} (hv:au ν v v') {k:List Value→Prop} (hk:dm tmps d v k) :
  ∃ t',k t'∧bw F ν t' H (a.put d v') w:=by
 cases d with
 | none=>exact ⟨tmps,hk,h⟩
 | some d =>
  obtain ⟨h1,J⟩:=oz hk;exact ⟨_,J,⟨by rw [rJ]; exact h.tm.set hv d,h.df,h.hp,h.fr,h.kp,h.own,h.mono⟩⟩
theorem bw.quiet {ν ak:Nu} {tmps:List Value} {H:aA} {a:Act} {w w':World} (h:bw F ν tmps H a w) {v v':Value} {nb:Option aj} (hq:mT ν ak H.length w w' v v' nb)
  {k:aA→Prop} (hk:uV H nb k):∃ H',k H'∧bw F ak tmps H' a w':=by
 have hb:=hq.below;cases nb with
 | none =>
  have:=hq.zO rfl;subst this;exact ⟨H,hk,⟨h.tm,h.df.below hb,h.hp.below hb,h.fr,h.kp.below hb,h.own,h.mono⟩⟩
 | some b =>
  obtain ⟨l,hl,hB,hle⟩:=hq.gR b rfl;refine ⟨_,yc hk,⟨h.tm.mono hq.le,h.df.below hb,?_,fun id bm=>?_,h.kp.below hb,fun id c lc hc ho dG=>?_,Nu.le_trans h.mono hq.le⟩⟩
  ·have kF:ak=ν.add H.length l:=by
    funext id
    by_cases e:id=H.length
    ·subst e; rw [hl,Nu.add_same]
    ·rw [hq.only id e,Nu.iM e]
   subst kF;refine h.hp.push hb (h.fr _ (Nat.le_refl _)) _ (fun j c hj=>?_) hle hB
   rw [List.getElem?_append] at hj
   split at hj
   ·rename_i al; exact .inr ⟨by omega,hj⟩
   ·rename_i dH;have:j - H.length=0:=by
     have:=(List.getElem?_eq_some_iff.1 hj).1;simp at this; omega
    rw [this] at hj;simp at hj;exact .inl ⟨by omega,hj.symm⟩
  ·rw [List.length_append,List.length_singleton] at bm;rw [hq.only id (by omega)]
   exact h.fr id (by omega)
  ·rw [List.getElem?_append] at hc
   split at hc
   ·rename_i al;have aI:id≠H.length:=by omega
    rw [hq.only id aI] at dG;exact h.own id c lc hc ho dG
   ·rename_i dH;have:id - H.length=0:=by
     have:=(List.getElem?_eq_some_iff.1 hc).1;simp at this; omega
    have:id=H.length:=by omega
    subst this;rw [hl] at dG; cases dG;exact .inr (Nat.le_trans h.kp.size hle)
structure xL (b b':aj) (row b6:Nat) (cs:List Value):Prop where
 own:b.nP=true
 Pj:b'.nP=true
 n:b'.n=b.n
 ah:b'.ah=b.ah
 flat:b'.iN=b.iN
 lt:row < b.n
 len:(b'.row row).length=(b.row row).length
 fit:b6+cs.length≤(b.row row).length
 Ds:∀ j v,cs[j]?=some v→(b'.row row)[b6+j]?=some v
 out:∀ j,(j < b6∨b6+cs.length≤j)→(b'.row row)[j]?=(b.row row)[j]?
 Dt:∀ q,q≠row→b'.row q=b.row q
 pl:b.iN=true→∀ v∈cs,cH v=true
theorem Rw {b:aj} {row b6:Nat} {cs:List Value} {k:aj→Prop} (h:MA b row b6 cs k):∃ b',xL b b' row b6 cs∧k b':=by
 cases b with
 | aS o ah rows =>
  cases o with
  | false=>exact h.elim
  | true =>
   obtain ⟨q,l',h1,⟨k1,k2,k3,k4⟩,h3⟩:=J7 h;have al:row < rows.length:=(List.getElem?_eq_some_iff.1 h1).1;have e1:(aj.aS true ah (rows.set row l')).row row=l':=by simp [aj.row,List.getD,al]
   have e2:(aj.aS true ah rows).row row=q:=by simp [aj.row,List.getD,h1]
   refine ⟨.aS true ah (rows.set row l'),⟨rfl,rfl,by simp [aj.n],rfl,rfl,al,by rw [e1,e2]; exact k1,by rw [e2]; exact k2,by rw [e1]; exact k3,by rw [e1,e2]; exact k4,fun p hp=>?_,fun h=>by simp [aj.iN] at h⟩,h3⟩
   simp [aj.row,List.getD,List.getElem?_set,Ne.symm hp]
 | flat o n ah get =>
  cases o with
  | false=>exact h.elim
  | true =>
   obtain ⟨al,h⟩:=h
   split at h
   ·rename_i hs;obtain ⟨l',h0,k1,k2,k3,k4⟩:=yi h;have e1:(aj.flat true n ah fun j=>if j=row then l' else get j).row row=l':=by simp [aj.row]
    exact ⟨.flat true n ah fun j=>if j=row then l' else get j,⟨rfl,rfl,rfl,rfl,rfl,al,by rw [e1]; exact k1,k2,by rw [e1]; exact k3,by rw [e1]; exact k4,fun p hp=>by simp [aj.row,hp],fun _=>x4 hs⟩,h0⟩
   ·exact h.elim
 | cc r=>exact h.elim
theorem xL.o {b b':aj} {row b6:Nat} {cs:List Value} (h:xL b b' row b6 cs):b.own=true:=(aj.cX h.own).1
theorem xL.o' {b b':aj} {row b6:Nat} {cs:List Value} (h:xL b b' row b6 cs):b'.own=true:=(aj.cX h.Pj).1
theorem ou (b:Nat):∀ (vs:List Value) (o:Nat) (w:World),(w.setCells b o vs).heap.size=w.heap.size
 | [],_,_=>rfl
 | v::r,o,w=>by rw [World.setCells,ou b r]; simp [World.setCell]
theorem rr (b:Nat):∀ (vs:List Value) (o:Nat) (w:World) (k:Nat),k≠b→(w.setCells b o vs).heap[k]?=w.heap[k]?
 | [],_,_,_,_=>rfl
 | v::r,o,w,k,hk=>by rw [World.setCells,rr b r _ _ k hk]; exact Below.heap_setCell _ _ _ _ hk
theorem AK (b:Nat):∀ (vs:List Value) (o:Nat) (w:World) (cur:Array Value) (t:TypeId),w.heap[b]?=some (.cells cur t (0,0)) →
  ∃ oY,(w.setCells b o vs).heap[b]?=some (.cells oY t (0,0))∧oY.size=cur.size
 | [],_,w,cur,t,h=>⟨cur,h,rfl⟩
 | v::r,o,w,cur,t,h=>by
  rw [World.setCells];have h1:(w.setCell ⟨b,o,none⟩ v).heap[b]?=some (.cells (cur.setIfInBounds o v) t (0,0)):=by
   simp [World.setCell,Array.getElem?_modify,h]
  obtain ⟨oY,J,h3⟩:=AK b r (o+1) _ _ t h1;exact ⟨oY,J,by rw [h3]; simp⟩
theorem vQ (b:Nat):∀ (vs:List Value) (o:Nat) (w:World),(w.setCells b o vs).os=w.os∧(w.setCells b o vs).tape=w.tape∧(w.setCells b o vs).output=w.output
 | [],_,_=>⟨rfl,rfl,rfl⟩
 | v::r,o,w=>by rw [World.setCells]; exact vQ b r _ _
theorem bQ.store {ν:Nu} {H:aA} {w:World} (h:bQ ν H w) {id:Nat} {b b':aj} {l:Loc} (hb:H[id]?=some (some b)) (hl:ν id=some l) {row b6:Nat} {cs eM:List Value}
  (hu:xL b b' row b6 cs) (hr:bg ν cs eM) (h1:∀ v∈cs,v.oneCell'=true) :
  bQ ν (H.set id (some b')) (w.setCells l.aJ (l.base+row*l.ah+b6) eM):=by
 obtain ⟨l',cC,hB⟩:=h.aJ id b hb;rw [hl] at cC; cases cC;have bm:id < H.length:=(List.getElem?_eq_some_iff.1 hb).1;have kG:∀ j c,(H.set id (some b'))[j]?=some (some c)→(j=id∧c=b')∨(j≠id∧H[j]?=some (some c)):=by
  intro j c hj;by_cases e:j=id
  ·subst e; rw [List.getElem?_set_self bm] at hj; cases hj; exact .inl ⟨rfl,rfl⟩
  ·rw [List.getElem?_set_ne (Ne.symm e)] at hj; exact .inr ⟨e,hj⟩
 have HL:=hB.ah;have hlen:=hB.len row hu.lt;obtain ⟨cur,t,jK,fJ,OJ⟩:=hB.own hu.o (aj.cX hu.own).2;have eX:eM.length=cs.length:=hr.1.symm
 -- the cells of other places
 have xy:∀ r j,r < b.n→j < b.ah→(r≠row∨j < b6∨b6+cs.length≤j)→(w.setCells l.aJ (l.base+row*l.ah+b6) eM).cell? (l.at r j)=w.cell? (l.at r j):=by
  intro r j iG hj aI;refine World.cell?_setCells_out l.aJ _ _ _ _ (fun _ _=>?_)
  have xz:=hu.fit;rw [hlen] at xz;simp only [Loc.at,HL,eX];rcases Nat.lt_trichotomy r row with h | h | h
  ·left
   have:(r+1)*b.ah≤row*b.ah:=Nat.mul_le_mul_right _ h;rw [Nat.add_mul] at this;omega
  ·subst h;rcases aI with aI | aI | aI
   ·exact absurd rfl aI
   ·left; omega
   ·right; omega
  ·right
   have:(row+1)*b.ah≤r*b.ah:=Nat.mul_le_mul_right _ h;rw [Nat.add_mul] at this;omega
 have ph:∀ j v,eM[j]?=some v→(w.setCells l.aJ (l.base+row*l.ah+b6) eM).cell? (l.at row (b6+j))=some v:=by
  intro j v hv;have hj:j < eM.length:=(List.getElem?_eq_some_iff.1 hv).1;have xz:=hu.fit;have:=World.cell?_setCells_in l.aJ eM (l.base+row*l.ah+b6) w (fun m hm=>by
   have IA:b6+m < (b.row row).length:=by omega
   obtain ⟨u,qP,_⟩:=hB.cell row hu.lt (b6+m) _ (List.getElem?_eq_getElem IA);simp only [Loc.at] at qP;rw [show l.base+row*l.ah+b6+m=l.base+row*l.ah+(b6+m) by omega,qP]; rfl) j hj
  simp only [Loc.at];rw [show l.base+row*l.ah+(b6+j)=l.base+row*l.ah+b6+j by omega,this]
  rw [← hv];simp
 refine ⟨fun j c hj=>?_,fun i j bi bj li lj hi hj aI ho e1 e2=>?_⟩
 ·rcases kG j c hj with ⟨rfl,rfl⟩ | ⟨aI,gh⟩
  ·refine ⟨l,hl,⟨by rw [hu.ah]; exact hB.ah,fun q hq=>?_,fun q hq j v hv=>?_,fun hf q hq v hv=>?_,fun q hq v hv=>?_,fun _ _=>?_,(fun r h=>by rw [(aj.cX hu.Pj).2] at h; cases h),?_⟩⟩
   ·rw [hu.n] at hq;by_cases e:q=row
    ·subst e; rw [hu.len,hu.ah]; exact hlen
    ·rw [hu.Dt q e,hu.ah]; exact hB.len q hq
   ·rw [hu.n] at hq;by_cases e:q=row
    ·subst e;by_cases hj:b6≤j∧j < b6+cs.length
     ·have Du:j - b6 < cs.length:=by omega
      have:=hu.Ds (j - b6) _ (List.getElem?_eq_getElem Du);rw [show b6+(j - b6)=j by omega,hv] at this
      cases this;obtain ⟨v',J,h3⟩:=hr.get (List.getElem?_eq_getElem Du);have:=ph (j - b6) v' J;rw [show b6+(j - b6)=j by omega] at this
      exact ⟨v',this,h3⟩
     ·have n6:=hu.out j (by omega)
      rw [n6] at hv;obtain ⟨v',J,h3⟩:=hB.cell q hq j v hv;have gh:j < b.ah:=by rw [← hlen]; exact (List.getElem?_eq_some_iff.1 hv).1
      exact ⟨v',by rw [xy q j hq gh (.inr (by omega))]; exact J,h3⟩
    ·rw [hu.Dt q e] at hv;obtain ⟨v',J,h3⟩:=hB.cell q hq j v hv;have gh:j < b.ah:=by rw [← hB.len q hq]; exact (List.getElem?_eq_some_iff.1 hv).1
     exact ⟨v',by rw [xy q j hq gh (.inl e)]; exact J,h3⟩
   ·rw [hu.n] at hq; rw [hu.flat] at hf;by_cases e:q=row
    ·subst e;obtain ⟨j,hj,rfl⟩:=List.getElem_of_mem hv;by_cases Du:b6≤j∧j < b6+cs.length
     ·have:=hu.Ds (j - b6) _ (List.getElem?_eq_getElem (by omega:j - b6 < cs.length))
      rw [show b6+(j - b6)=j by omega,List.getElem?_eq_getElem hj] at this
      injection this with this
      rw [this];exact hu.pl hf _ (List.getElem_mem _)
     ·have:=hu.out j (by omega)
      rw [List.getElem?_eq_getElem hj] at this;exact hB.plain hf q hq _ (List.mem_of_getElem? this.symm)
    ·rw [hu.Dt q e] at hv; exact hB.plain hf q hq v hv
   ·rw [hu.n] at hq;by_cases e:q=row
    ·subst e;obtain ⟨j,hj,rfl⟩:=List.getElem_of_mem hv;by_cases Du:b6≤j∧j < b6+cs.length
     ·have:=hu.Ds (j - b6) _ (List.getElem?_eq_getElem (by omega:j - b6 < cs.length))
      rw [show b6+(j - b6)=j by omega,List.getElem?_eq_getElem hj] at this
      injection this with this
      rw [this];exact h1 _ (List.getElem_mem _)
     ·have:=hu.out j (by omega)
      rw [List.getElem?_eq_getElem hj] at this;exact hB.one q hq _ (List.mem_of_getElem? this.symm)
    ·rw [hu.Dt q e] at hv; exact hB.one q hq v hv
   ·obtain ⟨oY,J,h3⟩:=AK l.aJ eM (l.base+row*l.ah+b6) w cur t jK;exact ⟨oY,t,J,by rw [h3]; exact fJ,by rw [hu.n]; exact OJ⟩
   ·rw [ou]; exact hB.live
  ·obtain ⟨lj,cZ,qQ⟩:=h.aJ j c gh;have HN:=h.sep id j b c l lj hb gh (Ne.symm aI) hu.o hl cZ;exact ⟨lj,cZ,qQ.same (rr _ _ _ _ _ (Ne.symm HN)) (by rw [ou]; exact Nat.le_refl _)⟩
 ·rcases kG i bi hi with ⟨rfl,rfl⟩ | ⟨hni,aR⟩ <;> rcases kG j bj hj with ⟨rfl,rfl⟩ | ⟨hnj,gh⟩
  ·exact absurd rfl aI
  ·exact h.sep _ j b bj li lj hb gh aI hu.o e1 e2
  ·exact h.sep i _ bi b li lj aR hb aI ho e1 e2
  ·exact h.sep i j bi bj li lj aR gh aI ho e1 e2
theorem KT (hE:EnvOk P E) {o:Oper} {t:TypeId} {x y:Operand} (ho:o.op=.store t x y) {ν:Nu} {tmps ts:List Value} {H:aA} {a b:Act} {w:World} (hi:bw F ν ts H b w) {k:SK}
  (hx:fh ν tmps a x) (hy:fh ν tmps a y) (h:Cl E tmps H t x y k):∃ w' H',(execOp a.eval o).run P w=.ok .skip w'∧bw F ν ts H' b w'∧k tmps H':=by
 obtain ⟨av,J,hv⟩:=kq h hx;clear h
 split at J
 ·rename_i id row sp;obtain ⟨v,h,hvv⟩:=kq J hy;clear J;have J:=AS h;clear h;obtain ⟨ti,ht,h⟩:=cN J;clear J
  split at h
  ·rename_i bf;obtain ⟨hlen,qB⟩:=x0 bf;obtain ⟨bl,hb,J⟩:=gu h;clear h;obtain ⟨b',hu,h⟩:=Rw J;clear J;obtain ⟨al,J⟩:=lT h;clear h;obtain ⟨l,hl,he⟩:=hv.oJ;obtain ⟨l',cC,hB⟩:=hi.hp.aJ id bl hb;rw [hl] at cC; cases cC;have hc:=hvv.cells;obtain ⟨cur,tt',jK,fJ,OJ⟩:=hB.own hu.o (aj.cX hu.own).2;obtain ⟨i,iE,gr,_⟩:=(hE.ty _ _ ht).info;have abT:∀ u∈(a.eval y).cells.toList,u.oneCell'=true:=by
    intro u sT;obtain ⟨j,hj,rfl⟩:=List.getElem_of_mem sT;have gh:j < v.cells.toList.length:=by rw [hc.1]; exact hj
    have:=hc.2 j _ _ (List.getElem?_eq_getElem gh) (List.getElem?_eq_getElem hj);rw [this.BO]; exact qB _ (List.getElem_mem _)
   have ax:(storeCells (l.at row (sp.getD 0)) (a.eval y).cells.toList).run P w=.ok () (w.setCells l.aJ (l.base+row*l.ah+sp.getD 0) (a.eval y).cells.toList):=by
    have:=run_storeCells_cells (P:=P) l.aJ (l.base+row*l.ah+sp.getD 0) (a.eval y).cells.toList 0 w (fun j hj=>by
     have xz:=hu.fit;rw [hc.1] at xz;obtain ⟨u,qP,_⟩:=hB.cell row hu.lt (sp.getD 0+j) _ (List.getElem?_eq_getElem (by omega))
     simp only [Loc.at] at qP;rw [show l.base+row*l.ah+sp.getD 0+0+j=l.base+row*l.ah+(sp.getD 0+j) by omega,qP]; rfl) (fun j hj=>by
     simp [World.frozen?,jK]) abT
    simpa [Loc.at] using this
   have bc:(a.eval y).cells.size=i.size:=by rw [gr,← hlen,hc.1]; simp
   have bE:(execOp a.eval o).run P w=.ok .skip (w.setCells l.aJ (l.base+row*l.ah+sp.getD 0) (a.eval y).cells.toList):=by
    simp [execOp,ho,Instr.storeAt,he,Instr.sureAddr,storeVar,gl iE,bc,ax]
   have aR:bw F ν ts (H.set id (some b')) b (w.setCells l.aJ (l.base+row*l.ah+sp.getD 0) (a.eval y).cells.toList):=by
    obtain ⟨o1,o2,o3⟩:=vQ l.aJ (a.eval y).cells.toList (l.base+row*l.ah+sp.getD 0) w;refine ⟨hi.tm,hi.df.eh jK (fun q hq=>rr _ _ _ _ _ hq),hi.hp.store hb hl hu hc qB,fun j hj=>hi.fr j (by simpa using hj),⟨o1.trans hi.kp.os,o2.trans hi.kp.tape,o3.trans hi.kp.output,by rw [ou]; exact hi.kp.size,fun q h1 J=>?_⟩,fun j c lc hj n7 dG=>?_,hi.mono⟩
    ·rw [rr]
     ·exact hi.kp.aJ q h1 J
     ·intro e;subst e;rcases hi.own id bl l hb hu.o hl with h | h
      ·exact J h
      ·omega
    ·by_cases e:j=id
     ·subst e;rw [hl] at dG; cases dG;exact hi.own j bl l hb hu.o hl
     ·rw [List.getElem?_set_ne (Ne.symm e)] at hj;exact hi.own j c lc hj n7 dG
   exact ⟨_,_,bE,aR,J⟩
  ·exact h.elim
 ·exact J.elim
theorem R6 (hE:EnvOk P E) {o:Oper} {t:TypeId} {x y:Operand} (ho:o.op=.store t x y) {ν:Nu} {tmps:List Value} {H:aA} {a:Act} {w:World} (hi:bw F ν tmps H a w) {k:SK}
  (h:Cl E tmps H t x y fun t' H'=>dm t' o.dst undef fun vi=>k vi H') {next:Act→World→Prop} {Q:Exit→Act→World→Prop}
  (hk:∀ ν t' H' a' w',bw F ν t' H' a' w'→k t' H'→next a' w'):o.wpIn (WF r) n P a w next Q:=by
 obtain ⟨w',H',bE,aR,J⟩:=KT hE ho hi (hi.l8 x) (hi.l8 y) h;obtain ⟨t',IF,adv⟩:=aR.dst (.undef ν) J;refine ⟨fun _ _=>trivial,?_⟩
 rw [Oper.semAt_eq _ _ _ (by simp [ho]),bE]
 exact hk _ _ _ _ _ adv IF
end
open Go Go.RowKit
def oS (id:Nat):Nat→Value→Bool
 | 0,_=>true
 | k+1,v=>match v with
  | .bool _ | .int _ _ | .string _ | .pointer none | .slice none _ _ | .nilFunc | .chan none=>false
  | .pointer (some ⟨j,_,_⟩)=>Nat.beq j id
  | .slice (some ⟨j,_,_⟩) _ _=>Nat.beq j id
  | .func _ ⟨l⟩ ⟨m⟩=>l.foldr (fun v acc=>oS id k v || acc) false || m.foldr (fun v acc=>oS id k v || acc) false
  | .agg ⟨l⟩=>l.foldr (fun v acc=>oS id k v || acc) false
  | .tuple ⟨l⟩=>l.foldr (fun v acc=>oS id k v || acc) false
  | _=>true
def rY (id k:Nat) (l:List Value):Bool:=l.foldr (fun v acc=>oS id k v || acc) false
theorem vV {id k:Nat}:∀ {l:List Value},rY id k l=false→∀ v∈l,oS id k v=false
 | [],_,v,hv=>by simp at hv
 | x::l,h,v,hv=>by
  simp only [rY,List.foldr_cons,Bool.or_eq_false_iff] at h;rcases List.mem_cons.1 hv with e | e
  ·rw [e]; exact h.1
  ·exact vV (l:=l) h.2 v e
def Nu.off (ν ak:Nu) (id:Nat):Prop:=∀ j,j≠id→ak j=ν j
theorem bg.map {ν ak:Nu} {xs ys:List Value} (h:bg ν xs ys) (hm:∀ v∈xs,∀ r,au ν v r→au ak v r):bg ak xs ys :=
 ⟨h.1,fun i x y hx hy=>hm x (List.mem_of_getElem? hx) y (h.2 i x y hx hy)⟩
theorem Ew {id:Nat} {ν ak:Nu} (gL:ν.off ak id):∀ (k:Nat) (v r:Value),oS id k v=false→au ν v r→au ak v r:=by
 intro k
 induction k with
 | zero=>intro v r h; simp [oS] at h
 | succ k ih =>
  intro v r h hr;cases hr with
  | bool b=>exact .bool b
  | int q n=>exact .int q n
  | str s=>exact .str s
  | me=>exact .me
  | ptr j row sp l hl=>exact .ptr j row sp l (by rw [gL j (Nat.ne_of_beq_eq_false h)]; exact hl)
  | iD=>exact .iD
  | slice j row n c c' l hl hc hn hr=>exact .slice j row n c c' l (by rw [gL j (Nat.ne_of_beq_eq_false h)]; exact hl) hc hn hr
  | void j row c a hc=>exact .void j row c a hc
  | lI j row m n c' l hl hm hn hr=>exact .lI j row m n c' l (by rw [gL j (Nat.ne_of_beq_eq_false h)]; exact hl) hm hn hr
  | kE j row a=>exact .kE j row a
  | mf=>exact .mf
  | func fn xs ys nh c9 h1 J h3 h4 =>
   have h:(rY id k xs || rY id k nh)=false:=h;rw [Bool.or_eq_false_iff] at h;have a1:=bg.map (ak:=ak) ⟨h1,J⟩ (fun v hv r hr=>ih v r (vV h.1 v hv) hr)
   have a2:=bg.map (ak:=ak) ⟨h3,h4⟩ (fun v hv r hr=>ih v r (vV h.2 v hv) hr)
   exact .func fn _ _ _ _ a1.1 a1.2 a2.1 a2.2
  | agg xs ys h1 J =>
   have h:rY id k xs=false:=h;have a1:=bg.map (ak:=ak) ⟨h1,J⟩ (fun v hv r hr=>ih v r (vV h v hv) hr)
   exact .agg _ _ a1.1 a1.2
  | tuple xs ys h1 J =>
   have h:rY id k xs=false:=h;have a1:=bg.map (ak:=ak) ⟨h1,J⟩ (fun v hv r hr=>ih v r (vV h v hv) hr)
   exact .tuple _ _ a1.1 a1.2
  | dead=>exact .dead _ (by assumption)
def qe (id:Nat):Nat→Value→Option Value
 | 0,_=>none
 | k+1,v=>match oS id 3 v with
  | false=>some v
  | true=>match v.oneCell' with
   | true=>some (.chan none)
   | false=>match v with
    | .agg ⟨l⟩=>match l.foldr (fun v acc=>match qe id k v,acc with | some x,some xs=>some (x::xs) | _,_=>none) (some []) with | some l'=>some (.agg ⟨l'⟩) | none=>none
    | .tuple ⟨l⟩=>match l.foldr (fun v acc=>match qe id k v,acc with | some x,some xs=>some (x::xs) | _,_=>none) (some []) with | some l'=>some (.tuple ⟨l'⟩) | none=>none
    | _=>none
def y7 (id k:Nat) (l:List Value):Option (List Value):=l.foldr (fun v acc=>match qe id k v,acc with | some x,some xs=>some (x::xs) | _,_=>none) (some [])
theorem SA {id m:Nat} {x:Value} {xs l:List Value} (h:y7 id m (x::xs)=some l):∃ y ys,l=y::ys∧qe id m x=some y∧y7 id m xs=some ys:=by
 unfold y7 at h;rw [List.foldr_cons] at h
 split at h
 ·rename_i y ys h1 J;exact ⟨y,ys,(Option.some.inj h).symm,h1,J⟩
 ·cases h
theorem E8 {id m:Nat} {ν ak:Nu} (h:∀ v v2 r,qe id m v=some v2→au ν v r→au ak v2 r):∀ {xs l rs:List Value},y7 id m xs=some l→bg ν xs rs→bg ak l rs
 | [],l,rs,h1,J=>by
  have:l=[]:=by simp [y7] at h1; exact h1
  rw [this,J.iL]; exact .nil _
 | x::xs,l,rs,h1,J=>by
  obtain ⟨y,ys,rfl,e1,e2⟩:=SA h1;obtain ⟨r,b8,rfl,k1,k2⟩:=J.jd;exact .cons (h _ _ _ e1 k1) (E8 h e2 k2)
theorem T6 {id:Nat} {ν ak:Nu} (gL:ν.off ak id):∀ (m:Nat) (v v2 r:Value),qe id m v=some v2→au ν v r→au ak v2 r:=by
 intro m
 induction m with
 | zero=>intro v v2 r h; simp [qe] at h
 | succ m ih =>
  intro v v2 r h hr;unfold qe at h
  split at h
  ·rename_i hm;cases h;exact Ew gL 3 v r hm hr
  ·split at h
   ·rename_i h1;cases h;exact .dead _ (by rw [hr.BO]; exact h1)
   ·split at h
    ·split at h
     ·rename_i l l' e;cases h;obtain ⟨ys,rfl,hy⟩:=hr.uh;have:=E8 (ih) e hy;exact .agg _ _ this.1 this.2
     ·cases h
    ·split at h
     ·rename_i l l' e;cases h;obtain ⟨ys,rfl,hy⟩:=hr.nC;have:=E8 (ih) e hy;exact .tuple _ _ this.1 this.2
     ·cases h
    ·cases h
def zw {α:Type} (o:Option α) (k:α→Prop):Prop:=match o with | some a=>k a | none=>False
theorem E9 {α:Type} {o:Option α} {k:α→Prop} (h:zw o k):∃ a,o=some a∧k a:=by
 unfold zw at h; split at h
 ·exact ⟨_,rfl,h⟩
 ·exact h.elim
theorem Ex {P:Value→Value→Prop}:∀ {ys:List Value},(∀ y∈ys,∃ x,P x y)→∃ xs:List Value,xs.length=ys.length∧∀ (i:Nat) x y,xs[i]?=some x→ys[i]?=some y→P x y
 | [],_=>⟨[],rfl,fun i x y hx=>by simp at hx⟩
 | y::ys,h=>by
  obtain ⟨x,hx⟩:=h y (by simp)
  obtain ⟨xs,h1,J⟩:=Ex (ys:=ys) (fun z hz=>h z (by simp [hz]))
  refine ⟨x::xs,by simp [h1],fun i a b ha hb=>?_⟩
  cases i with
  | zero=>simp at ha hb; subst ha; subst hb; exact hx
  | succ i=>exact J i a b (by simpa using ha) (by simpa using hb)
theorem au.any {ν:Nu} {v r:Value} (h:au ν v r):∃ x,∀ ak,au ak x r:=by
 induction h with
 | agg xs ys h1 _ ih =>
  obtain ⟨zs,e1,e2⟩:=Ex (P:=fun x y=>∀ ak,au ak x y) (ys:=ys) (fun y hy=>by
   obtain ⟨i,hi,rfl⟩:=List.getElem_of_mem hy;exact ih i _ _ (List.getElem?_eq_getElem (h1 ▸ hi)) (List.getElem?_eq_getElem hi))
  exact ⟨.agg ⟨zs⟩,fun ak=>.agg _ _ e1 (fun i x y hx hy=>e2 i x y hx hy ak)⟩
 | tuple xs ys h1 _ ih =>
  obtain ⟨zs,e1,e2⟩:=Ex (P:=fun x y=>∀ ak,au ak x y) (ys:=ys) (fun y hy=>by
   obtain ⟨i,hi,rfl⟩:=List.getElem_of_mem hy;exact ih i _ _ (List.getElem?_eq_getElem (h1 ▸ hi)) (List.getElem?_eq_getElem hi))
  exact ⟨.tuple ⟨zs⟩,fun ak=>.tuple _ _ e1 (fun i x y hx hy=>e2 i x y hx hy ak)⟩
 | dead w hw=>exact ⟨.chan none,fun ak=>.dead w hw⟩
 | _=>exact ⟨.chan none,fun ak=>.dead _ rfl⟩
def IG (i:Nat):List Nat→Bool
 | []=>false
 | a::l=>match Nat.beq a i with
  | true=>true
  | false=>IG i l
def uB (a:Nat→Value) (id:Nat) (aa:List Nat):Nat→List Value→(List Value→Prop)→Prop
 | _,[],k=>k []
 | i,v::l,k=>match IG i aa with
  | true=>zw (qe id 3 v) fun v'=>uB a id aa (i+1) l fun l'=>k (v'::l')
  | false=>uB a id aa (i+1) l fun l'=>k (a i::l')
theorem Nm {ν:Nu} {t r:List Value} (h:bg ν t r):∃ a:Nat→Value,∀ (j:Nat) (y:Value),r[j]?=some y→∀ ak,au ak (a j) y:=by
 have hx:∀ j:Nat,∃ x:Value,∀ y:Value,r[j]?=some y→∀ ak,au ak x y:=by
  intro j;cases hj:r[j]? with
  | none=>exact ⟨undef,fun y hy=>by simp at hy⟩
  | some y =>
   have al:j < t.length:=by
    rw [h.1];exact (List.getElem?_eq_some_iff.1 hj).1
   obtain ⟨x,hx⟩:=(h.2 j t[j] y (List.getElem?_eq_getElem al) hj).any;exact ⟨x,fun y' hy=>by cases hy; exact hx⟩
 exact ⟨fun j=>Classical.choose (hx j),fun j y hy=>Classical.choose_spec (hx j) y hy⟩
theorem MB {a:Nat→Value} {i:Nat} {y:Value} {ys:List Value} (h:∀ (j:Nat) (z:Value),(y::ys)[j]?=some z→∀ ak:Nu,au ak (a (i+j)) z) :
  (∀ ak:Nu,au ak (a i) y)∧∀ (j:Nat) (z:Value),ys[j]?=some z→∀ ak:Nu,au ak (a (i+1+j)) z:=by
 refine ⟨fun ak=>h 0 y rfl ak,fun j z hz ak=>?_⟩
 have:=h (j+1) z (by simpa using hz) ak
 rw [show i+1+j=i+(j+1) by omega]
 exact this
theorem EK {a:Nat→Value} {id:Nat} {aa:List Nat}:∀ {t:List Value} {i:Nat} {k:List Value→Prop},uB a id aa i t k→∀ (ν:Nu) r,bg ν t r→(∀ (j:Nat) (y:Value),r[j]?=some y→∀ ak:Nu,au ak (a (i+j)) y)→∃ t',k t'∧∀ ak,ν.off ak id→bg ak t' r
 | [],i,k,h,ν,r,hr,ha=>⟨[],h,fun ak _=>by rw [hr.iL]; exact .nil _⟩
 | v::l,i,k,h,ν,r,hr,ha=>by
  obtain ⟨y,ys,rfl,h1,J⟩:=hr.jd;obtain ⟨hx,ha⟩:=MB ha;unfold uB at h
  split at h
  ·obtain ⟨v',e,h⟩:=E9 h;obtain ⟨l',h3,h4⟩:=EK h ν ys J ha;exact ⟨_,h3,fun ak ho=>.cons (T6 ho 3 _ _ _ e h1) (h4 ak ho)⟩
  ·obtain ⟨l',h3,h4⟩:=EK h ν ys J ha;exact ⟨_,h3,fun ak ho=>.cons (hx _) (h4 ak ho)⟩
def uC (id:Nat) (v:Value):Value:=match oS id 3 v with | false=>v | true=>.chan none
def Bx (id:Nat):List (List Value)→(List (List Value)→Prop)→Prop
 | [],k=>k []
 | r::l,k=>Bx id l fun l'=>k (r.map (uC id)::l')
theorem J1 {id:Nat}:∀ {l:List (List Value)} {k:List (List Value)→Prop},Bx id l k→k (l.map fun r=>r.map (uC id))
 | [],k,h=>h
 | r::l,k,h=>by have:=J1 (l:=l) h; simpa using this
def y8 (id:Nat):List (List Value)→Bool
 | []=>false
 | r::l=>rY id 3 r || y8 id l
theorem KU {id:Nat}:∀ {l:List (List Value)},y8 id l=false→∀ r∈l,rY id 3 r=false
 | [],_,v,hv=>by simp at hv
 | x::l,h,v,hv=>by
  simp only [y8,Bool.or_eq_false_iff] at h;rcases List.mem_cons.1 hv with e | e
  ·rw [e]; exact h.1
  ·exact KU (l:=l) h.2 v e
def y9 (id:Nat) (b:aj) (k:aj→Prop):Prop :=
 match b with
 | .flat o n e g=>k (.flat o n e g)
 | .aS o e rows=>match y8 id rows with
  | false=>k (.aS o e rows)
  | true=>Bx id rows fun iQ=>k (.aS o e iQ)
 | .cc r=>k (.cc r)
theorem KV {id:Nat} {b:aj} {k:aj→Prop} (h:y9 id b k):∃ b',k b'∧b'.own=b.own∧∀ (ν ak:Nu) (l:Loc) (w:World),ν.off ak id→bN ν l b w→bN ak l b' w:=by
 cases b with
 | flat o n e g =>
  exact ⟨_,h,rfl,fun ν ak l w ho hB=>⟨hB.ah,hB.len,fun r hr j v hv=>by
   obtain ⟨v',h1,J⟩:=hB.cell r hr j v hv;have:=hB.plain rfl r hr v (List.mem_of_getElem? hv);rw [J.jU this] at h1;exact ⟨v,h1,au.jT this⟩,hB.plain,hB.one,hB.own,hB.lr,hB.live⟩⟩
 | cc r =>
  exact ⟨_,h,rfl,fun ν ak l w ho hB=>⟨hB.ah,fun r hr=>absurd hr (Nat.not_lt_zero r),fun r hr=>absurd hr (Nat.not_lt_zero r),(fun h=>nomatch h),fun r hr=>absurd hr (Nat.not_lt_zero r),fun _ h=>(nomatch h),hB.lr,hB.live⟩⟩
 | aS o e rows =>
  have h:(match y8 id rows with
   | false=>k (.aS o e rows)
   | true=>Bx id rows fun iQ=>k (.aS o e iQ)):=h
  split at h
  ·rename_i hm;exact ⟨_,h,rfl,fun ν ak l w ho hB=>⟨hB.ah,hB.len,fun r hr j v hv=>by
    obtain ⟨v',h1,J⟩:=hB.cell r hr j v hv;refine ⟨v',h1,Ew ho 3 v v' ?_ J⟩;have iG:r < rows.length:=hr;simp only [aj.row,List.getD,List.getElem?_eq_getElem iG,Option.getD_some] at hv;exact vV (KU hm _ (List.getElem_mem _)) v (List.mem_of_getElem? hv),hB.plain,hB.one,hB.own,hB.lr,hB.live⟩⟩
  ·rename_i hm;have h:=J1 h;have aZ:∀ r,(aj.aS o e (rows.map fun r=>r.map (uC id))).row r=((aj.aS o e rows).row r).map (uC id):=by
    intro r;simp only [aj.row,List.getD,List.getElem?_map];cases rows[r]? <;> rfl
   have h1c:∀ v,v.oneCell'=true→(uC id v).oneCell'=true:=by
    intro v hv;unfold uC
    split
    ·exact hv
    ·rfl
   refine ⟨_,h,rfl,fun ν ak l w ho hB=>⟨hB.ah,fun r hr=>?_,fun r hr j v hv=>?_,fun h=>by simp [aj.iN] at h,fun r hr v hv=>?_,fun h _=>?_,(fun r h=>nomatch h),hB.live⟩⟩
   ·have hr:r < (aj.aS o e rows).n:=by simpa [aj.n] using hr
    rw [aZ,List.length_map]; exact hB.len r hr
   ·have hr:r < (aj.aS o e rows).n:=by simpa [aj.n] using hr
    rw [aZ,List.getElem?_map] at hv;cases hx:((aj.aS o e rows).row r)[j]? with
    | none=>rw [hx] at hv; cases hv
    | some x =>
     rw [hx] at hv;cases hv;obtain ⟨v',h1,J⟩:=hB.cell r hr j x hx;refine ⟨v',h1,?_⟩;unfold uC
     split
     ·rename_i sU; exact Ew ho 3 x v' sU J
     ·exact .dead _ (by rw [J.BO]; exact hB.one r hr x (List.mem_of_getElem? hx))
   ·have hr:r < (aj.aS o e rows).n:=by simpa [aj.n] using hr
    rw [aZ] at hv;obtain ⟨x,hx,rfl⟩:=List.mem_map.1 hv;exact h1c x (hB.one r hr x hx)
   ·obtain ⟨cur,t,q1,q2,q3⟩:=hB.own h rfl;exact ⟨cur,t,q1,q2,by simpa [aj.n] using q3⟩
def xe (id:Nat):aA→(aA→Prop)→Prop
 | [],k=>k []
 | none::H,k=>xe id H fun H'=>k (none::H')
 | some b::H,k=>y9 id b fun b'=>xe id H fun H'=>k (some b'::H')
theorem EL {id:Nat}:∀ {H:aA} {k:aA→Prop},xe id H k→∃ H',k H'∧H'.length=H.length∧∀ (j:Nat) (b':aj),H'[j]?=some (some b')→∃ b,H[j]?=some (some b)∧b'.own=b.own ∧
  ∀ (ν ak:Nu) (l:Loc) (w:World),ν.off ak id→bN ν l b w→bN ak l b' w
 | [],k,h=>⟨[],h,rfl,fun j b' hj=>by simp at hj⟩
 | none::H,k,h=>by
  obtain ⟨H',h1,J,h3⟩:=EL (H:=H) h;refine ⟨_,h1,by simp [J],fun j b' hj=>?_⟩
  cases j with
  | zero=>simp at hj
  | succ j=>exact h3 j b' (by simpa using hj)
 | some b::H,k,h=>by
  obtain ⟨b1,h,hb⟩:=KV h;obtain ⟨H',h1,J,h3⟩:=EL (H:=H) h;refine ⟨_,h1,by simp [J],fun j b' hj=>?_⟩
  cases j with
  | zero=>simp at hj; subst hj; exact ⟨b,rfl,hb⟩
  | succ j=>exact h3 j b' (by simpa using hj)
open Go Go.RowKit
structure CR (ν:Nu) (ah:Nat) (g:Nat→List Value) (m:Nat) (L:List Value):Prop where
 len:L.length=m*ah
 row:∀ r,r < m→(g r).length=ah
 cell:∀ r,r < m→∀ (j:Nat) v,(g r)[j]?=some v→∃ v',L[r*ah+j]?=some v'∧au ν v v'
 one:∀ u∈L,u.oneCell'=true
 sE:∀ r,r < m→∀ v∈g r,v.oneCell'=true
def iA (g:Nat→List Value) (n:Nat) (h:Nat→List Value):Nat→List Value:=fun j=>bif Nat.blt j n then g j else h (j - n)
theorem ja {g h:Nat→List Value} {n j:Nat} (hj:j < n):iA g n h j=g j:=by
 have:Nat.blt j n=true:=by rw [Nat.blt_eq]; exact hj
 simp [iA,this]
theorem gm {g h:Nat→List Value} {n j:Nat} (hj:n≤j):iA g n h j=h (j - n):=by
 have:Nat.blt j n=false:=by
  cases h:Nat.blt j n with
  | false=>rfl
  | true=>rw [Nat.blt_eq] at h; omega
 simp [iA,this]
theorem CR.append {ν:Nu} {ah n m:Nat} {g h:Nat→List Value} {L M:List Value} (a:CR ν ah g n L) (b:CR ν ah h m M):CR ν ah (iA g n h) (n+m) (L++M):=by
 refine ⟨by rw [List.length_append,a.len,b.len,Nat.add_mul],fun r hr=>?_,fun r hr j v hv=>?_,fun u hu=>?_,fun r hr v hv=>?_⟩
 ·by_cases h:r < n
  ·rw [ja h]; exact a.row r h
  ·rw [gm (by omega)]; exact b.row _ (by omega)
 ·by_cases h:r < n
  ·rw [ja h] at hv;obtain ⟨v',h1,J⟩:=a.cell r h j v hv;exact ⟨v',by rw [List.getElem?_append_left (List.getElem?_eq_some_iff.1 h1).1]; exact h1,J⟩
  ·rw [gm (by omega)] at hv
   obtain ⟨v',h1,J⟩:=b.cell (r - n) (by omega) j v hv
   refine ⟨v',?_,J⟩;have e:r*ah+j=L.length+((r - n)*ah+j):=by
    rw [a.len];have:r*ah=n*ah+(r - n)*ah:=by rw [← Nat.add_mul]; congr 1; omega
    omega
   rw [e,List.getElem?_append_right (by omega),Nat.add_sub_cancel_left]; exact h1
 ·rcases List.mem_append.1 hu with h | h
  ·exact a.one u h
  ·exact b.one u h
 ·by_cases h:r < n
  ·rw [ja h] at hv; exact a.sE r h v hv
  ·rw [gm (by omega)] at hv; exact b.sE _ (by omega) v hv
theorem CR.nil (ν:Nu) (ah:Nat) (g:Nat→List Value):CR ν ah g 0 [] :=
 ⟨by simp,fun r hr=>absurd hr (by omega),fun r hr=>absurd hr (by omega),fun u hu=>by simp at hu,fun r hr=>absurd hr (by omega)⟩
theorem CR.mono {ν ak:Nu} {ah m:Nat} {g:Nat→List Value} {L:List Value} (h:CR ν ah g m L) (hle:ν.le ak):CR ak ah g m L :=
 ⟨h.len,h.row,fun r hr j v hv=>let ⟨v',h1,J⟩:=h.cell r hr j v hv; ⟨v',h1,J.mono hle⟩,h.one,h.sE⟩
theorem CR.congr {ν:Nu} {ah m:Nat} {g g':Nat→List Value} {L:List Value} (h:CR ν ah g m L) (hg:∀ r,r < m→g' r=g r):CR ν ah g' m L :=
 ⟨h.len,fun r hr=>by rw [hg r hr]; exact h.row r hr,fun r hr j v hv=>h.cell r hr j v (by rw [← hg r hr]; exact hv),h.one,fun r hr v hv=>h.sE r hr v (by rw [← hg r hr]; exact hv)⟩
theorem CR.GM {ν:Nu} {l:Loc} {b:aj} {w:World} (hB:bN ν l b w) {row m:Nat} (hm:row+m≤b.n):∃ L,CR ν b.ah (fun j=>b.row (row+j)) m L∧∀ (j:Nat) u,L[j]?=some u→w.cell? ((l.at row 0).add j)=some u:=by
 have key:∀ q,q < m*b.ah→∃ r j v v',r < m∧j < b.ah∧q=r*b.ah+j∧(b.row (row+r))[j]?=some v∧w.cell? ((l.at row 0).add q)=some v'∧au ν v v'∧v'.oneCell'=true:=by
  intro q hq;have he:0 < b.ah:=by
   rcases Nat.eq_zero_or_pos b.ah with h | h
   ·rw [h] at hq; omega
   ·exact h
  have hr:q / b.ah < m:=(Nat.div_lt_iff_lt_mul he).2 hq;have hj:q % b.ah < b.ah:=Nat.mod_lt _ he;have hlen:=hB.len (row+q / b.ah) (by omega)
  have hv:(b.row (row+q / b.ah))[q % b.ah]?=some _:=List.getElem?_eq_getElem (by omega)
  obtain ⟨v',h1,J⟩:=hB.cell (row+q / b.ah) (by omega) _ _ hv
  refine ⟨q / b.ah,q % b.ah,_,v',hr,hj,by rw [Nat.mul_comm,Nat.div_add_mod],hv,?_,J,by rw [J.BO]; exact hB.one _ (by omega) _ (List.getElem_mem _)⟩
  rw [Loc.jC,← h1];unfold Loc.at
  congr 2
  rw [hB.ah,Nat.add_mul];have:=Nat.div_add_mod q b.ah;rw [Nat.mul_comm] at this;omega
 let L:=(List.range (m*b.ah)).map fun q=>(w.cell? ((l.at row 0).add q)).getD undef
 have kG:∀ q,q < m*b.ah→L[q]?=some ((w.cell? ((l.at row 0).add q)).getD undef):=by
  intro q hq;simp only [L,List.getElem?_map,List.getElem?_range hq,Option.map_some]
 have hL:L.length=m*b.ah:=by simp [L]
 refine ⟨L,⟨hL,fun r hr=>hB.len _ (by omega),fun r hr j v hv=>?_,fun u hu=>?_,fun r hr v hv=>hB.one _ (by omega) v hv⟩,fun j u hu=>?_⟩
 ·have hj:j < b.ah:=by rw [← hB.len (row+r) (by omega)]; exact (List.getElem?_eq_some_iff.1 hv).1
  have hq:r*b.ah+j < m*b.ah:=by
   have:(r+1)*b.ah≤m*b.ah:=Nat.mul_le_mul_right _ hr;rw [Nat.add_mul] at this; omega
  obtain ⟨v',h1,J⟩:=hB.cell (row+r) (by omega) j v hv
  refine ⟨v',?_,J⟩;have e:(l.at row 0).add (r*b.ah+j)=l.at (row+r) j:=by
   rw [Loc.jC]; unfold Loc.at; congr 1; rw [hB.ah,Nat.add_mul]; omega
  rw [kG _ hq,e,h1]; rfl
 ·obtain ⟨q,hq,rfl⟩:=List.getElem_of_mem hu;rw [hL] at hq;obtain ⟨r,j,v,v',_,_,_,_,h1,_,J⟩:=key q hq;have:=kG q hq;rw [h1] at this;have e:=List.getElem?_eq_getElem (l:=L) (i:=q) (by omega)
  rw [this] at e;rw [← Option.some.inj e]; exact J
 ·have hj:j < m*b.ah:=by rw [← hL]; exact (List.getElem?_eq_some_iff.1 hu).1
  obtain ⟨r,q,v,v',_,_,_,_,h1,_,J⟩:=key j hj;rw [kG j hj,h1] at hu;rw [h1,← hu]; rfl
theorem WG {ν:Nu} {ah N cap aJ:Nat} {g:Nat→List Value} {L:List Value} {b':aj} (hC:CR ν ah g N L) (aZ:∀ r,r < N→b'.row r=g r) (hn:b'.n=N) (he:b'.ah=ah)
  (hf:b'.iN=true→∀ r,r < N→∀ v∈g r,cH v=true) {w':World} {C:Array Value} {t:TypeId} (hw:w'.heap[aJ]?=some (.cells C t (0,0))) (hCL:∀ q,q < L.length→C[q]?=L[q]?)
  (fJ:N≤cap) (bc:cap*ah≤C.size) (IB:b'.rc=none):bN ν ⟨aJ,0,ah,cap⟩ b' w':=by
 have Hg:aJ < w'.heap.size:=(Array.getElem?_eq_some_iff.1 hw).1;refine ⟨he.symm,fun r hr=>?_,fun r hr j v hv=>?_,fun h r hr v hv=>?_,fun r hr v hv=>?_,fun _ _=>⟨C,t,hw,by simpa using bc,by rw [hn]; exact fJ⟩,(fun r h=>by rw [IB] at h; cases h),Hg⟩
 ·rw [hn] at hr; rw [aZ r hr,he]; exact hC.row r hr
 ·rw [hn] at hr; rw [aZ r hr] at hv;obtain ⟨v',h1,J⟩:=hC.cell r hr j v hv;refine ⟨v',?_,J⟩;simp only [Loc.at,World.cell?,Nat.zero_add];rw [hw];simp only [Option.isSome_none,Bool.false_eq_true,if_false];rw [hCL _ (List.getElem?_eq_some_iff.1 h1).1]; exact h1
 ·rw [hn] at hr; rw [aZ r hr] at hv; exact hf h r hr v hv
 ·rw [hn] at hr; rw [aZ r hr] at hv; exact hC.sE r hr v hv
theorem bQ.eh {ν ak:Nu} {H H':aA} {w w':World} (h:bQ ν H w) {id:Nat} (gL:ν.off ak id)
  (ho:∀ (j:Nat) (b':aj),H'[j]?=some (some b')→j≠id→∃ b,H[j]?=some (some b)∧b'.own=b.own∧∀ l,ν j=some l→bN ν l b w→bN ak l b' w')
  (bm:∀ b',H'[id]?=some (some b')→∃ l,ak id=some l∧bN ak l b' w'∧∀ j lj bj,j≠id→H[j]?=some (some bj)→ν j=some lj→lj.aJ≠l.aJ):bQ ak H' w':=by
 refine ⟨fun j b' hj=>?_,fun i j bi bj li lj hi hj aI IH h1 J=>?_⟩
 ·by_cases e:j=id
  ·subst e; obtain ⟨l,h1,J,_⟩:=bm b' hj; exact ⟨l,h1,J⟩
  ·obtain ⟨b,h1,_,J⟩:=ho j b' hj e;obtain ⟨l,h3,h4⟩:=h.aJ j b h1;exact ⟨l,by rw [gL j e]; exact h3,J l h3 h4⟩
 ·by_cases ei:i=id
  ·subst ei;obtain ⟨l,e1,_,e2⟩:=bm bi hi;rw [h1] at e1; cases e1;obtain ⟨b,e3,_,_⟩:=ho j bj hj (Ne.symm aI);rw [gL j (Ne.symm aI)] at J;exact Ne.symm (e2 j lj b (Ne.symm aI) e3 J)
  ·obtain ⟨b,e3,e4,_⟩:=ho i bi hi ei;rw [gL i ei] at h1;by_cases ej:j=id
   ·subst ej;obtain ⟨l,e1,_,e2⟩:=bm bj hj;rw [J] at e1; cases e1;exact e2 i li b ei e3 h1
   ·obtain ⟨c,e5,_,_⟩:=ho j bj hj ej;rw [gL j ej] at J;exact h.sep i j b c li lj e3 e5 aI (by rw [← e4]; exact IH) h1 J
section
variable {P:Program} {w:World}
theorem rC {t ty e:TypeId} {i:TypeInfo} (ht:P.underlying t=some (.slice e)) (hi:P.info? e=some i) {A oy:Option Addr} {n c m cy:Nat} {L:List Value} (hl:L.length=m*i.size)
  (hL:∀ a,oy=some a→∀ (j:Nat) u,L[j]?=some u→w.cell? (a.add j)=some u) (hn:oy=none→m=0) (cP:n+m≤c) {w2:World}
  (ax:∀ a,A=some a→(storeCells (a.add (n*i.size)) L).run P w=.ok () w2) (mU:A=none→w2=w) :
  (Builtin.append_ #[t,t] ty #[.slice A n c,.slice oy m cy]).run P w=.ok (.slice A (n+m) c) w2:=by
 have hf:(Builtin.firstCells i.size m (.slice oy m cy)).run P w=.ok L.toArray w:=by
  cases oy with
  | none =>
   have:=hn rfl;subst this;have:L=[]:=List.eq_nil_of_length_eq_zero (by simpa using hl)
   rw [this];exact run_firstCells_none (P:=P) (w:=w) i.size 0 0 cy
  | some a=>exact run_firstCells_some (P:=P) w i.size m a m cy L hl (hL a rfl)
 cases A with
 | none =>
  have:=mU rfl;subst this;simp [Builtin.append_,run_underlying ht,sizeOf,typeInfo,hi,Builtin.lenOf,cP,hf]
 | some a =>
  have:=ax a rfl;simp [Builtin.append_,run_underlying ht,sizeOf,typeInfo,hi,Builtin.lenOf,cP,hf,this]
def tR (C:Array Value) (z:Value) (k:Nat) (e:TypeId):Obj:=.cells (C++Builtin.zeroCells z.cells k) e
theorem AN {t ty e:TypeId} {i:TypeInfo} {z:Value} (ht:P.underlying t=some (.slice e)) (hi:P.info? e=some i) (hz:i.zero=some z) {A oy:Option Addr} {n c m cy:Nat} {O L:List Value}
  (gV:O.length=n*i.size) (hO:∀ a,A=some a→∀ (j:Nat) u,O[j]?=some u→w.cell? (a.add j)=some u) (hA:A=none→n=0∧c=0)
  (hl:L.length=m*i.size) (hL:∀ a,oy=some a→∀ (j:Nat) u,L[j]?=some u→w.cell? (a.add j)=some u) (hn:oy=none→m=0) (Dv:n≤c) (cP:c < n+m) (hB:(n+m)*i.bytes≤140737488355328) (hN:n+m≤140737488355328) :
  (Builtin.append_ #[t,t] ty #[.slice A n c,.slice oy m cy]).run P w=.ok (.slice (some ⟨w.heap.size,0,none⟩) (n+m) (grownCap w (n+m) c e)) (w.drew.alloc (tR (O++L).toArray z (grownCap w (n+m) c e - (n+m)) e)):=by
 cases oy with
 | none=>have:=hn rfl; omega
 | some a =>
  cases A with
  | none =>
   obtain ⟨rfl,rfl⟩:=hA rfl;have hO0:O=[]:=List.eq_nil_of_length_eq_zero (by simpa using gV)
   subst hO0;have:=run_append_nil (P:=P) (w:=w) t ty e i z ht hi hz a m cy L hl (hL a rfl) (by omega) (by omega) (by simp only [Nat.zero_add] at hB; omega)
   simp only [Nat.zero_add,List.nil_append];exact this
  | some b =>
   have:=run_append_grow (P:=P) (w:=w) t ty e i z ht hi hz b n c O gV (hO b rfl) a m cy L hl (hL a rfl) cP (by omega) (growslice_fits cP hB)
   rw [this];simp [tR]
end
inductive Src where
 | fl (m:Nat) (g:Nat→List Value)
 | ex (L:List (List Value))
def Src.m:Src→Nat
 | .fl m _=>m
 | .ex L=>L.length
def Src.get:Src→Nat→List Value
 | .fl _ g=>g
 | .ex L=>fun j=>L.getD j []
def Src.j7:Src→Bool
 | .fl _ _=>true
 | .ex _=>false
def rZ:List (List Value)→Nat→Nat→(List (List Value)→Prop)→Prop
 | _,0,0,k=>k []
 | [],0,_+1,_=>False
 | v::l,0,n+1,k=>rZ l 0 n fun vs=>k (v::vs)
 | [],_+1,_,_=>False
 | _::l,o+1,n,k=>rZ l o n k
theorem ye:∀ {l:List (List Value)} {o n:Nat} {k:List (List Value)→Prop},rZ l o n k→∃ vs,k vs∧(vs.length=n∧o+n≤l.length)∧∀ (j:Nat) v,vs[j]?=some v→l[o+j]?=some v
 | l,0,0,k,h=>⟨[],by cases l <;> exact h,⟨rfl,by simp⟩,fun j v hv=>by simp at hv⟩
 | [],0,_+1,_,h=>h.elim
 | v::l,0,n+1,k,h=>by
  obtain ⟨vs,h1,⟨J,h4⟩,h3⟩:=ye (l:=l) h;refine ⟨v::vs,h1,⟨by simp [J],by simp at h4 ⊢; omega⟩,fun j u hu=>?_⟩
  cases j with
  | zero=>simpa using hu
  | succ j=>have:=h3 j u (by simpa using hu); simpa using this
 | [],o+1,n,k,h=>by cases n <;> exact h.elim
 | x::l,o+1,n,k,h=>by
  have h':rZ l o n k:=by cases n <;> exact h
  obtain ⟨vs,h1,⟨J,h4⟩,h3⟩:=ye (l:=l) h';exact ⟨vs,h1,⟨J,by simp; omega⟩,fun j v hv=>by have:=h3 j v hv; rwa [show o+1+j=(o+j)+1 by omega,List.getElem?_cons_succ]⟩
def CB:List (List Value)→Bool
 | []=>true
 | r::l=>mh r && CB l
theorem KW:∀ {l:List (List Value)},CB l=true→∀ r∈l,∀ v∈r,cH v=true
 | [],_,r,hr=>by simp at hr
 | q::l,h,r,hr=>by
  simp only [CB,Bool.and_eq_true] at h;rcases List.mem_cons.1 hr with e | e
  ·rw [e]; exact dC h.1
  ·exact KW h.2 r e
def sF:List (List Value)→List (List Value)→(List (List Value)→Prop)→Prop
 | [],l,k=>k l
 | x::xs,l,k=>sF xs l fun r=>k (x::r)
theorem yj:∀ {xs l:List (List Value)} {k:List (List Value)→Prop},sF xs l k→k (xs++l)
 | [],_,_,h=>h
 | _::xs,l,k,h=>yj (xs:=xs) h
def xf (g:Nat→List Value):Nat→Nat→(List (List Value)→Prop)→Prop
 | _,0,k=>k []
 | i,m+1,k=>xf g (i+1) m fun l=>k (g i::l)
theorem EM {g:Nat→List Value}:∀ {m i:Nat} {k:List (List Value)→Prop},xf g i m k→∃ l,k l∧l.length=m∧∀ j,j < m→l.getD j []=g (i+j)
 | 0,i,k,h=>⟨[],h,rfl,fun j hj=>absurd hj (by omega)⟩
 | m+1,i,k,h=>by
  obtain ⟨l,h1,J,h3⟩:=EM (m:=m) h;refine ⟨_,h1,by simp [J],fun j hj=>?_⟩
  cases j with
  | zero=>simp [List.getD]
  | succ j =>
   have:=h3 j (by omega)
   simp only [List.getD,List.getElem?_cons_succ] at this ⊢;rw [this]; congr 1; omega
def zz (H:aA) (ah:Nat) (yv:Value) (k:Src→Prop):Prop :=
 match yv with
 | .slice none 0 0=>k (.fl 0 fun _=>[])
 | .slice (some ⟨id,row,_⟩) m _=>gA H id fun b=>match Nat.beq b.ah ah with
  | true=>match b with
   | .flat _ n _ get=>row+m≤n∧k (.fl m fun j=>get (e9 row j))
   | .aS _ _ rows=>rZ rows row m fun L=>match CB L with
    | true=>k (.fl m fun j=>L.getD j [])
    | false=>k (.ex L)
   | .cc _=>False
  | false=>False
 | _=>False
theorem Fa {H:aA} {ah:Nat} {yv:Value} {k:Src→Prop} (h:zz H ah yv k):∃ s,k s∧(s.j7=true→∀ r,r < s.m→∀ (ν:Nu) w,bQ ν H w→∀ v∈s.get r,cH v=true) ∧
  ∀ (ν:Nu) (w:World) (r:Value),bQ ν H w→au ν yv r→∃ oy cy L,r=.slice oy s.m cy∧(oy=none→s.m=0)∧CR ν ah s.get s.m L∧∀ a,oy=some a→∀ (j:Nat) u,L[j]?=some u→w.cell? (a.add j)=some u:=by
 unfold zz at h
 split at h
 ·refine ⟨_,h,fun _ r hr=>absurd hr (by simp [Src.m]),fun ν w r hH hr=>?_⟩
  have:=hr.pP;subst this;exact ⟨none,0,[],rfl,fun _=>rfl,CR.nil _ _ _,fun a ha=>by cases ha⟩
 ·rename_i id row sp m c;obtain ⟨b,hb,h⟩:=gu h
  split at h
  ·rename_i he;have he:b.ah=ah:=Nat.eq_of_beq_eq_true he
   -- a source whose rows are the block's
   have gen:∀ (s:Src),s.m=m→row+m≤b.n→(∀ j,j < m→s.get j=b.row (row+j))→∀ (ν:Nu) (w:World) (r:Value),bQ ν H w→au ν (.slice (some ⟨id,row,sp⟩) m c) r →
     ∃ oy cy L,r=.slice oy s.m cy∧(oy=none→s.m=0)∧CR ν ah s.get s.m L∧∀ a,oy=some a→∀ (j:Nat) u,L[j]?=some u→w.cell? (a.add j)=some u:=by
    intro s hm hle aZ ν w r hH hr;obtain ⟨l,hl,hB⟩:=hH.aJ id b hb;rcases hr.Cg with ⟨l',c',cC,_,_,rfl⟩ | ⟨kg,bb,rfl⟩
    ·rw [hl] at cC; cases cC;obtain ⟨L,h1,J⟩:=CR.GM hB hle;rw [he] at h1;refine ⟨_,c',L,by rw [hm],(fun h=>by cases h),?_,(fun a ha=>by cases ha; exact J)⟩
     rw [hm];exact h1.congr aZ
    ·refine ⟨some bb,0,[],by rw [hm,kg],(fun h=>by cases h),?_,fun a ha j u hu=>by simp at hu⟩
     rw [hm,kg];exact CR.nil _ _ _
   cases b with
   | flat o n e get =>
    obtain ⟨hle,h⟩:=h;have aZ:∀ j,j < m→(Src.fl m fun j=>get (e9 row j)).get j=(aj.flat o n e get).row (row+j):=fun j _=>by simp [Src.get,aj.row,aB]
    refine ⟨_,h,fun _ r hr ν w hH v hv=>?_,gen _ rfl hle aZ⟩
    obtain ⟨l,hl,hB⟩:=hH.aJ id _ hb;have hr:r < m:=hr;rw [aZ r hr] at hv;exact hB.plain rfl (row+r) (by simp only [aj.n]; omega) v hv
   | aS o e rows =>
    obtain ⟨L,h,⟨hlen,hle⟩,kG⟩:=ye h;have aZ:∀ j,j < m→L.getD j []=(aj.aS o e rows).row (row+j):=fun j hj=>by
     have al:j < L.length:=by omega
     have:=kG j _ (List.getElem?_eq_getElem al);simp [aj.row,List.getD,this,List.getElem?_eq_getElem al]
    split at h
    ·rename_i hs;refine ⟨_,h,fun _ r hr ν w hH v hv=>?_,gen _ rfl hle aZ⟩
     have hr:r < m:=hr;have al:r < L.length:=by omega
     have hv:v∈L.getD r []:=hv;simp only [List.getD,List.getElem?_eq_getElem al,Option.getD_some] at hv;exact KW hs _ (List.getElem_mem _) v hv
    ·exact ⟨_,h,fun h=>by simp [Src.j7] at h,gen _ hlen hle aZ⟩
   | cc r=>exact h.elim
  ·exact h.elim
 ·exact h.elim
end Go.Ae
