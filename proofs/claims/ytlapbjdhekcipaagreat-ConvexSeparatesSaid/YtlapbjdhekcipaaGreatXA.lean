import Derived.OrdersIn
import Derived.CallsIn
import Derived.ControlIn
import Derived.Below
import Derived.Laws.IdiomCopy
import Derived.Laws.AppendOwn
import Derived.Laws.NewBlocks
import Derived.Laws.BytesString
import Derived.Laws.MakeOwn
import Derived.Laws.IdiomStrings
import Derived.RangeFuncSeq
set_option linter.unusedVariables false
set_option linter.unusedSimpArgs false
namespace Go.Ae
open Go Go.RowKit
structure Loc where
 aJ:Nat
 base:Nat
 ah:Nat
 cap:Nat
def Loc.at (l:Loc) (row cc:Nat):Addr:=⟨l.aJ,l.base+row*l.ah+cc,none⟩
abbrev Nu:=Nat→Option Loc
def Nu.le (ν al:Nu):Prop:=∀ id l,ν id=some l→al id=some l
theorem Nu.le_refl (ν:Nu):ν.le ν:=fun _ _ h=>h
theorem Nu.le_trans {a b c:Nu} (h:a.le b) (k:b.le c):a.le c:=fun id l e=>k id l (h id l e)
def Nu.add (ν:Nu) (id:Nat) (l:Loc):Nu:=fun j=>if j=id then some l else ν j
theorem Nu.kh {ν:Nu} {id:Nat} {l:Loc} (h:ν id=none):ν.le (ν.add id l):=by
 intro j k hj;by_cases e:j=id
 ·subst e; rw [h] at hj; cases hj
 ·simp [Nu.add,e,hj]
theorem Nu.add_same {ν:Nu} {id:Nat} {l:Loc}:ν.add id l id=some l:=by simp [Nu.add]
theorem Nu.iX {ν:Nu} {id j:Nat} {l:Loc} (h:j≠id):ν.add id l j=ν j:=by simp [Nu.add,h]
def cJ:Value→Bool
 | .bool _ | .int _ _ | .string _=>true
 | _=>false
def aM:Nat:=9223372036854775808
inductive aq (ν:Nu):Value→Value→Prop
 | bool (b:Bool):aq ν (.bool b) (.bool b)
 | int (k:IntKind) (n:Int):aq ν (.int k n) (.int k n)
 | str (s:ByteArray):aq ν (.string s) (.string s)
 | mM:aq ν (.pointer none) (.pointer none)
 | ptr (id row:Nat) (sp:Option Nat) (l:Loc) (h:ν id=some l):aq ν (.pointer (some ⟨id,row,sp⟩)) (.pointer (some (l.at row (sp.getD 0))))
 | iL:aq ν (.slice none 0 0) (.slice none 0 0)
 | slice (id row n c c':Nat) (l:Loc) (h:ν id=some l) (hc:c'=c∨c=aM) (hn:n≤c') (hr:row+c'≤l.cap) :
   aq ν (.slice (some ⟨id,row,none⟩) n c) (.slice (some (l.at row 0)) n c')
 | void (id row c:Nat) (a:Addr) (hc:0=c∨c=aM):aq ν (.slice (some ⟨id,row,none⟩) 0 c) (.slice (some a) 0 0)
 | mh (id row m n c':Nat) (l:Loc) (h:ν id=some l) (hm:m≤c') (hn:n≤c') (hr:row+c'≤l.cap) :
   aq ν (.slice (some ⟨id,row,some m⟩) n aM) (.slice (some (l.at row 0)) n c')
 | kZ (id row:Nat) (a:Addr):aq ν (.slice (some ⟨id,row,some 0⟩) 0 aM) (.slice (some a) 0 0)
 | mN:aq ν .nilFunc .nilFunc
 | func (fn:Fn) (xs ys nL dc:List Value) (h1:xs.length=ys.length) (J:∀ (i:Nat) (x y:Value),xs[i]?=some x→ys[i]?=some y→aq ν x y)
   (h3:nL.length=dc.length) (h4:∀ (i:Nat) (x y:Value),nL[i]?=some x→dc[i]?=some y→aq ν x y) :
   aq ν (.func fn ⟨xs⟩ ⟨nL⟩) (.func fn ⟨ys⟩ ⟨dc⟩)
 | agg (xs ys:List Value) (h1:xs.length=ys.length) (J:∀ (i:Nat) (x y:Value),xs[i]?=some x→ys[i]?=some y→aq ν x y):aq ν (.agg ⟨xs⟩) (.agg ⟨ys⟩)
 | tuple (xs ys:List Value) (h1:xs.length=ys.length) (J:∀ (i:Nat) (x y:Value),xs[i]?=some x→ys[i]?=some y→aq ν x y):aq ν (.tuple ⟨xs⟩) (.tuple ⟨ys⟩)
 | dead (w:Value) (h:w.oneCell'=true):aq ν (.chan none) w
def bf (ν:Nu) (xs ys:List Value):Prop:=xs.length=ys.length∧∀ (i:Nat) (x y:Value),xs[i]?=some x→ys[i]?=some y→aq ν x y
theorem aq.mono {ν al:Nu} (hle:ν.le al) {v w:Value} (h:aq ν v w):aq al v w:=by
 induction h with
 | bool b=>exact .bool b
 | int k n=>exact .int k n
 | str s=>exact .str s
 | mM=>exact .mM
 | ptr id row sp l h=>exact .ptr id row sp l (hle _ _ h)
 | iL=>exact .iL
 | slice id row n c c' l h hc hn hr=>exact .slice id row n c c' l (hle _ _ h) hc hn hr
 | void id row c a hc=>exact .void id row c a hc
 | mh id row m n c' l h hm hn hr=>exact .mh id row m n c' l (hle _ _ h) hm hn hr
 | kZ id row a=>exact .kZ id row a
 | mN=>exact .mN
 | func fn xs ys nL dc h1 _ h3 _ i2 i4=>exact .func fn xs ys nL dc h1 i2 h3 i4
 | agg xs ys h1 _ i2=>exact .agg xs ys h1 i2
 | tuple xs ys h1 _ i2=>exact .tuple xs ys h1 i2
 | dead w h=>exact .dead w h
theorem bf.mono {ν al:Nu} (hle:ν.le al) {xs ys:List Value} (h:bf ν xs ys):bf al xs ys :=
 ⟨h.1,fun i x y hx hy=>(h.2 i x y hx hy).mono hle⟩
theorem bf.nil (ν:Nu):bf ν [] []:=⟨rfl,fun i x y hx _=>by simp at hx⟩
theorem bf.cons {ν:Nu} {x y:Value} {xs ys:List Value} (h:aq ν x y) (hs:bf ν xs ys):bf ν (x::xs) (y::ys):=by
 refine ⟨by simp [hs.1],fun i a b ha hb=>?_⟩
 cases i with
 | zero=>simp at ha hb; subst ha; subst hb; exact h
 | succ i=>exact hs.2 i a b (by simpa using ha) (by simpa using hb)
theorem bf.head {ν:Nu} {x y:Value} {xs ys:List Value} (h:bf ν (x::xs) (y::ys)):aq ν x y:=h.2 0 x y rfl rfl
theorem bf.tail {ν:Nu} {x y:Value} {xs ys:List Value} (h:bf ν (x::xs) (y::ys)):bf ν xs ys :=
 ⟨by have:=h.1; simpa using this,fun i a b ha hb=>h.2 (i+1) a b (by simpa using ha) (by simpa using hb)⟩
theorem bf.jr {ν:Nu} {x:Value} {xs zs:List Value} (h:bf ν (x::xs) zs):∃ y ys,zs=y::ys∧aq ν x y∧bf ν xs ys:=by
 cases zs with
 | nil=>simp [bf] at h
 | cons y ys=>exact ⟨y,ys,rfl,h.head,h.tail⟩
theorem bf.iW {ν:Nu} {zs:List Value} (h:bf ν [] zs):zs=[]:=by
 cases zs with
 | nil=>rfl
 | cons y ys=>simp [bf] at h
theorem bf.append {ν:Nu} {a b c d:List Value} (h:bf ν a b) (k:bf ν c d):bf ν (a++c) (b++d):=by
 induction a generalizing b with
 | nil=>rw [bf.iW h]; exact k
 | cons x xs ih=>obtain ⟨y,ys,rfl,h1,J⟩:=h.jr; exact .cons h1 (ih J)
theorem bf.get {ν:Nu} {xs ys:List Value} (h:bf ν xs ys) {i:Nat} {x:Value} (hx:xs[i]?=some x):∃ y,ys[i]?=some y∧aq ν x y:=by
 have hi:i < xs.length:=(List.getElem?_eq_some_iff.1 hx).1;refine ⟨ys[i]'(h.1 ▸ hi),List.getElem?_eq_getElem _,h.2 i _ _ hx (List.getElem?_eq_getElem _)⟩
theorem bf.set {ν:Nu} {xs ys:List Value} (h:bf ν xs ys) {v w:Value} (hv:aq ν v w) (i:Nat):bf ν (xs.set i v) (ys.set i w):=by
 refine ⟨by simp [h.1],fun j x y hx hy=>?_⟩
 rw [List.getElem?_set] at hx hy;by_cases e:i=j
 ·subst e;rw [if_pos rfl] at hx hy
  split at hx
  ·split at hy
   ·cases hx; cases hy; exact hv
   ·cases hy
  ·cases hx
 ·rw [if_neg e] at hx hy;exact h.2 j x y hx hy
theorem aq.j9 {ν:Nu} {v w:Value} (h:cJ v=true) (hr:aq ν v w):w=v:=by
 cases hr <;> simp_all [cJ]
theorem aq.j7 {ν:Nu} {v:Value} (h:cJ v=true):aq ν v v:=by
 cases v <;> simp [cJ] at h <;> constructor
theorem aq.uE {ν:Nu} {xs:List Value} {r:Value} (h:aq ν (.agg ⟨xs⟩) r):∃ ys,r=.agg ⟨ys⟩∧bf ν xs ys:=by
 cases h with | agg _ ys h1 J=>exact ⟨ys,rfl,h1,J⟩
theorem aq.nY {ν:Nu} {xs:List Value} {r:Value} (h:aq ν (.tuple ⟨xs⟩) r):∃ ys,r=.tuple ⟨ys⟩∧bf ν xs ys:=by
 cases h with | tuple _ ys h1 J=>exact ⟨ys,rfl,h1,J⟩
theorem aq.undef (ν:Nu):aq ν undef undef:=.tuple [] [] rfl (fun i x y hx _=>by simp at hx)
theorem aq.Ce {ν:Nu} {v w:Value} (h:aq ν v w):w.oneCell'=v.oneCell':=by cases h <;> first | rfl | assumption
theorem aq.cells {ν:Nu} {v w:Value} (h:aq ν v w):bf ν v.cells.toList w.cells.toList:=by
 cases h with
 | agg xs ys h1 J=>exact ⟨h1,J⟩
 | bool b=>exact .cons (.bool b) (.nil ν)
 | int k n=>exact .cons (.int k n) (.nil ν)
 | str s=>exact .cons (.str s) (.nil ν)
 | mM=>exact .cons .mM (.nil ν)
 | ptr id row sp l h=>exact .cons (.ptr id row sp l h) (.nil ν)
 | iL=>exact .cons .iL (.nil ν)
 | slice id row n c c' l h hc hn hr=>exact .cons (.slice id row n c c' l h hc hn hr) (.nil ν)
 | void id row c a hc=>exact .cons (.void id row c a hc) (.nil ν)
 | mh id row m n c' l h hm hn hr=>exact .cons (.mh id row m n c' l h hm hn hr) (.nil ν)
 | kZ id row a=>exact .cons (.kZ id row a) (.nil ν)
 | mN=>exact .cons .mN (.nil ν)
 | func fn xs ys nL dc h1 J h3 h4=>exact .cons (.func fn xs ys nL dc h1 J h3 h4) (.nil ν)
 | tuple xs ys h1 J=>exact .cons (.tuple xs ys h1 J) (.nil ν)
 | dead w h=>
  have e:w.cells=#[w]:=by cases w <;> first | rfl | simp [Value.oneCell'] at h
  rw [e]; exact .cons (.dead w h) (.nil ν)
inductive aj where
 | aO (own:Bool) (ah:Nat) (rows:List (List Value))
 | flat (own:Bool) (n ah:Nat) (get:Nat→List Value)
 | cg (r:Loop)
def aj.own:aj→Bool
 | .aO o _ _ | .flat o _ _ _=>o
 | .cg _=>true
def aj.ah:aj→Nat
 | .aO _ e _ | .flat _ _ e _=>e
 | .cg _=>0
def aj.n:aj→Nat
 | .aO _ _ rows=>rows.length
 | .flat _ n _ _=>n
 | .cg _=>0
def aj.row:aj→Nat→List Value
 | .aO _ _ rows=>fun r=>rows.getD r []
 | .flat _ _ _ get=>get
 | .cg _=>fun _=>[]
def aj.iY:aj→Bool
 | .aO ..=>false
 | .flat ..=>true
 | .cg _=>false
def aj.oh:aj→Bool
 | .aO o _ _ | .flat o _ _ _=>o
 | .cg _=>false
def aj.rc:aj→Option Loop
 | .cg r=>some r
 | _=>none
abbrev aA:=List (Option aj)
theorem aj.cZ {b:aj} (h:b.oh=true):b.own=true∧b.rc=none:=by
 cases b with
 | aO o e r=>exact ⟨h,rfl⟩
 | flat o n e g=>exact ⟨h,rfl⟩
 | cg r=>cases h
structure bQ (ν:Nu) (l:Loc) (b:aj) (w:World):Prop where
 ah:l.ah=b.ah
 len:∀ r,r < b.n→(b.row r).length=b.ah
 cell:∀ r,r < b.n→∀ j v,(b.row r)[j]?=some v→∃ v',w.cell? (l.at r j)=some v'∧aq ν v v'
 plain:b.iY=true→∀ r,r < b.n→∀ v∈b.row r,cJ v=true
 one:∀ r,r < b.n→∀ v∈b.row r,v.oneCell'=true
 own:b.own=true→b.rc=none→∃ cur t,w.heap[l.aJ]?=some (.cells cur t (0,0))∧l.base+l.cap*l.ah≤cur.size∧b.n≤l.cap
 lr:∀ r,b.rc=some r→w.heap[l.aJ]?=some (.loop r)
 live:l.aJ < w.heap.size
structure bT (ν:Nu) (H:aA) (w:World):Prop where
 aJ:∀ id b,H[id]?=some (some b)→∃ l,ν id=some l∧bQ ν l b w
 sep:∀ i j bi bj li lj,H[i]?=some (some bi)→H[j]?=some (some bj)→i≠j→bi.own=true→ν i=some li→ν j=some lj→li.aJ≠lj.aJ
theorem Te {w w':World} (h:Below w.heap.size w w') {a:Addr} {v:Value} (hc:w.cell? a=some v):w'.cell? a=some v :=
 (World.cell?_of_block (h.block _ (World.block_lt_of_cell? w a hc))).trans hc
theorem bQ.below {ν:Nu} {l:Loc} {b:aj} {w w':World} (h:bQ ν l b w) (hb:Below w.heap.size w w'):bQ ν l b w' :=
 ⟨h.ah,h.len,fun r hr j v hv=>let ⟨v',hc,iP⟩:=h.cell r hr j v hv; ⟨v',Te hb hc,iP⟩,h.plain,h.one,
   fun ho hc=>let ⟨cur,t,h1,J⟩:=h.own ho hc; ⟨cur,t,by rw [hb.block _ h.live]; exact h1,J⟩,fun r hr=>(hb.block _ h.live).trans (h.lr r hr),Nat.lt_of_lt_of_le h.live hb.size⟩
theorem bQ.same {ν:Nu} {l:Loc} {b:aj} {w w':World} (h:bQ ν l b w) (he:w'.heap[l.aJ]?=w.heap[l.aJ]?) (hs:w.heap.size≤w'.heap.size):bQ ν l b w' :=
 ⟨h.ah,h.len,fun r hr j v hv=>let ⟨v',hc,iP⟩:=h.cell r hr j v hv; ⟨v',by rw [World.cell?_of_block (a:=l.at r j) he]; exact hc,iP⟩,h.plain,h.one,
   fun ho hc=>let ⟨cur,t,h1,J⟩:=h.own ho hc; ⟨cur,t,by rw [he]; exact h1,J⟩,fun r hr=>he.trans (h.lr r hr),Nat.lt_of_lt_of_le h.live hs⟩
theorem bQ.mono {ν al:Nu} (hle:ν.le al) {l:Loc} {b:aj} {w:World} (h:bQ ν l b w):bQ al l b w :=
 ⟨h.ah,h.len,fun r hr j v hv=>let ⟨v',hc,iP⟩:=h.cell r hr j v hv; ⟨v',hc,iP.mono hle⟩,h.plain,h.one,h.own,h.lr,h.live⟩
theorem bT.below {ν:Nu} {H:aA} {w w':World} (h:bT ν H w) (hb:Below w.heap.size w w'):bT ν H w' :=
 ⟨fun id b hi=>let ⟨l,h1,J⟩:=h.aJ id b hi; ⟨l,h1,J.below hb⟩,h.sep⟩
theorem bT.mono {ν al:Nu} (hle:ν.le al) {H:aA} {w:World} (h:bT ν H w):bT al H w :=
 ⟨fun id b hi=>let ⟨l,h1,J⟩:=h.aJ id b hi; ⟨l,hle _ _ h1,J.mono hle⟩,
   fun i j bi bj li lj hi hj aE ho h1 J=>by
  obtain ⟨l1,e1,_⟩:=h.aJ i bi hi;obtain ⟨l2,e2,_⟩:=h.aJ j bj hj;have:=hle _ _ e1; rw [h1] at this; cases this;have:=hle _ _ e2; rw [J] at this; cases this;exact h.sep i j bi bj _ _ hi hj aE ho e1 e2⟩
def aA.le (H G:aA):Prop:=∀ (id:Nat) (b:aj),H[id]?=some (some b)→G[id]?=some (some b)
theorem bT.sD {ν:Nu} {H G:aA} {w:World} (h:bT ν G w) (hle:aA.le H G):bT ν H w :=
 ⟨fun id b hi=>h.aJ id b (hle id b hi),fun i j bi bj li lj hi hj=>h.sep i j bi bj li lj (hle i bi hi) (hle j bj hj)⟩
theorem bT.push {ν:Nu} {H:aA} {w w':World} (h:bT ν H w) (hb:Below w.heap.size w w') {id:Nat} (hn:ν id=none) {l:Loc} {b:aj} (G:aA)
  (hG:∀ j c,G[j]?=some (some c)→(j=id∧c=b)∨(j≠id∧H[j]?=some (some c))) (hl:w.heap.size≤l.aJ)
  (hB:bQ (ν.add id l) l b w'):bT (ν.add id l) G w':=by
 have hle:ν.le (ν.add id l):=Nu.kh hn;have h':=(h.mono hle).below hb;refine ⟨fun j c hj=>?_,fun i j bi bj li lj hi hj aE ho h1 J=>?_⟩
 ·rcases hG j c hj with ⟨rfl,rfl⟩ | ⟨_,gj⟩
  ·exact ⟨l,Nu.add_same,hB⟩
  ·exact h'.aJ j c gj
 ·rcases hG i bi hi with ⟨rfl,rfl⟩ | ⟨_,aP⟩ <;> rcases hG j bj hj with ⟨rfl,rfl⟩ | ⟨_,gj⟩
  ·exact absurd rfl aE
  ·obtain ⟨l2,e2,dG⟩:=h.aJ j bj gj;have:=hle _ _ e2; rw [J] at this; cases this;rw [Nu.add_same] at h1; cases h1;have:=dG.live;omega
  ·obtain ⟨l2,e2,dG⟩:=h.aJ i bi aP;have:=hle _ _ e2; rw [h1] at this; cases this;rw [Nu.add_same] at J; cases J;have:=dG.live;omega
  ·exact h'.sep i j bi bj li lj aP gj aE ho h1 J
def qQ:List Value→Nat→(Value→Prop)→Prop
 | [],_,_=>False
 | v::_,0,k=>k v
 | _::l,n+1,k=>qQ l n k
def xO:List Value→Nat→Value→(List Value→Prop)→Prop
 | [],_,_,_=>False
 | _::l,0,v,k=>k (v::l)
 | x::l,n+1,v,k=>xO l n v fun l'=>k (x::l')
theorem oZ:∀ {l:List Value} {n:Nat} {k:Value→Prop},qQ l n k→∃ v,l[n]?=some v∧k v
 | [],_,_,h=>h.elim
 | v::_,0,_,h=>⟨v,rfl,h⟩
 | _::l,n+1,k,h=>by obtain ⟨v,h1,J⟩:=oZ (l:=l) h; exact ⟨v,by simpa using h1,J⟩
theorem o4:∀ {l:List Value} {n:Nat} {v:Value} {k:List Value→Prop},xO l n v k→n < l.length∧k (l.set n v)
 | [],_,_,_,h=>h.elim
 | _::l,0,v,k,h=>⟨by simp,h⟩
 | x::l,n+1,v,k,h=>by
  obtain ⟨h1,J⟩:=o4 (l:=l) h;exact ⟨by simpa using h1,by simpa using J⟩
def GX (v:Value) (k:Value→Prop):Prop :=
 match v with
 | .bool b=>k (.bool b)
 | .int q n=>k (.int q n)
 | .string s=>k (.string s)
 | .pointer none=>k (.pointer none)
 | .slice none 0 0=>k (.slice none 0 0)
 | .nilFunc=>k .nilFunc
 | _=>False
theorem KO {v:Value} {k:Value→Prop} (h:GX v k):k v∧∀ ν,aq ν v v:=by
 unfold GX at h
 split at h
 ·exact ⟨h,fun ν=>.bool _⟩
 ·exact ⟨h,fun ν=>.int _ _⟩
 ·exact ⟨h,fun ν=>.str _⟩
 ·exact ⟨h,fun ν=>.mM⟩
 ·exact ⟨h,fun ν=>.iL⟩
 ·exact ⟨h,fun ν=>.mN⟩
 ·exact h.elim
def bX (tmps:List Value) (x:Operand) (k:Value→Prop):Prop :=
 match x with
 | .tmp t=>qQ tmps t k
 | .const v=>GX v k
 | .func f=>k (.func (.func f) #[] #[])
 | .global _=>False
def fj (ν:Nu) (tmps:List Value) (a:Act) (x:Operand):Prop :=
 ∀ t,x=.tmp t→∀ v,tmps[t]?=some v→∃ v',a.tmps[t]?=some v'∧aq ν v v'
theorem kQ {tmps:List Value} {x:Operand} {k:Value→Prop} (h:bX tmps x k) {ν:Nu} {a:Act} (ha:fj ν tmps a x) :
  ∃ v,k v∧aq ν v (a.eval x):=by
 cases x with
 | tmp t =>
  obtain ⟨v,h1,J⟩:=oZ h;obtain ⟨v',h3,h4⟩:=ha t rfl v h1;exact ⟨v,J,by simpa [Act.eval,h3] using h4⟩
 | const v=>obtain ⟨h1,J⟩:=KO h; exact ⟨v,h1,J ν⟩
 | func f=>exact ⟨_,h,.func _ [] [] [] [] rfl (fun i x y hx _=>by simp at hx) rfl (fun i x y hx _=>by simp at hx)⟩
 | global g=>exact h.elim
theorem cQ {tmps:List Value} {x:Operand} {k:Value→Prop} (h:bX tmps x k) :
  ∃ v,k v∧∀ (ν:Nu) (a:Act),fj ν tmps a x→aq ν v (a.eval x):=by
 cases x with
 | tmp t =>
  obtain ⟨v,h1,J⟩:=oZ h;refine ⟨v,J,fun ν a ha=>?_⟩
  obtain ⟨v',h3,h4⟩:=ha t rfl v h1
  simpa [Act.eval,h3] using h4
 | const v=>obtain ⟨h1,J⟩:=KO h; exact ⟨v,h1,fun ν a _=>J ν⟩
 | func f=>exact ⟨_,h,fun ν a _=>.func _ [] [] [] [] rfl (fun i x y hx _=>by simp at hx) rfl (fun i x y hx _=>by simp at hx)⟩
 | global g=>exact h.elim
def qA (tmps:List Value):List Operand→(List Value→Prop)→Prop
 | [],k=>k []
 | x::xs,k=>bX tmps x fun v=>qA tmps xs fun vs=>k (v::vs)
theorem ER {tmps:List Value} {ν:Nu} {a:Act}:∀ {xs:List Operand} {k:List Value→Prop},qA tmps xs k→(∀ x∈xs,fj ν tmps a x) →
  ∃ vs,k vs∧bf ν vs (xs.map a.eval)
 | [],k,h,_=>⟨[],h,.nil ν⟩
 | x::xs,k,h,ha=>by
  obtain ⟨v,h1,J⟩:=kQ h (ha x (by simp))
  obtain ⟨vs,h3,h4⟩:=ER h1 (fun y hy=>ha y (by simp [hy]))
  exact ⟨v::vs,h3,.cons J h4⟩
theorem Br {tmps:List Value}:∀ {xs:List Operand} {k:List Value→Prop},qA tmps xs k →
  ∃ vs,k vs∧∀ (ν:Nu) (a:Act),(∀ x∈xs,fj ν tmps a x)→bf ν vs (xs.map a.eval)
 | [],k,h=>⟨[],h,fun ν a _=>.nil ν⟩
 | x::xs,k,h=>by
  obtain ⟨v,h1,J⟩:=cQ h;obtain ⟨vs,h3,h4⟩:=Br h1;exact ⟨v::vs,h3,fun ν a ha=>.cons (J ν a (ha x (by simp))) (h4 ν a (fun y hy=>ha y (by simp [hy])))⟩
def uN:List Value→Nat→Nat→(List Value→Prop)→Prop
 | _,0,0,k=>k []
 | [],0,_+1,_=>False
 | v::l,0,n+1,k=>uN l 0 n fun vs=>k (v::vs)
 | [],_+1,_,_=>False
 | _::l,o+1,n,k=>uN l o n k
theorem yu:∀ {l:List Value} {o n:Nat} {k:List Value→Prop},uN l o n k→∃ vs,k vs∧vs.length=n∧∀ j v,vs[j]?=some v→l[o+j]?=some v
 | l,0,0,k,h=>⟨[],by cases l <;> exact h,rfl,fun j v hv=>by simp at hv⟩
 | [],0,_+1,_,h=>h.elim
 | v::l,0,n+1,k,h=>by
  obtain ⟨vs,h1,J,h3⟩:=yu (l:=l) h;refine ⟨v::vs,h1,by simp [J],fun j u hu=>?_⟩
  cases j with
  | zero=>simpa using hu
  | succ j=>have:=h3 j u (by simpa using hu); simpa using this
 | [],o+1,n,k,h=>by cases n <;> exact h.elim
 | x::l,o+1,n,k,h=>by
  have h':uN l o n k:=by cases n <;> exact h
  obtain ⟨vs,h1,J,h3⟩:=yu (l:=l) h';exact ⟨vs,h1,J,fun j v hv=>by have:=h3 j v hv; rwa [show o+1+j=(o+j)+1 by omega,List.getElem?_cons_succ]⟩
def u6:List Value→Nat→List Value→(List Value→Prop)→Prop
 | l,0,[],k=>k l
 | [],0,_::_,_=>False
 | _::l,0,v::vs,k=>u6 l 0 vs fun l'=>k (v::l')
 | [],_+1,_,_=>False
 | x::l,o+1,vs,k=>u6 l o vs fun l'=>k (x::l')
theorem yC:∀ {l:List Value} {o:Nat} {vs:List Value} {k:List Value→Prop},u6 l o vs k →
  ∃ l',k l'∧l'.length=l.length∧o+vs.length≤l.length∧(∀ j v,vs[j]?=some v→l'[o+j]?=some v)∧∀ j,(j < o∨o+vs.length≤j)→l'[j]?=l[j]?
 | l,0,[],k,h=>⟨l,by cases l <;> exact h,rfl,by simp,fun j v hv=>by simp at hv,fun _ _=>rfl⟩
 | [],0,_::_,_,h=>h.elim
 | x::l,0,v::vs,k,h=>by
  obtain ⟨l',h1,J,h3,h4,h5⟩:=yC (l:=l) h;refine ⟨v::l',h1,by simp [J],by simp at h3 ⊢; omega,fun j u hu=>?_,fun j hj=>?_⟩
  ·cases j with
   | zero=>simpa using hu
   | succ j=>have:=h4 j u (by simpa using hu); simpa using this
  ·cases j with
   | zero=>simp at hj
   | succ j=>have:=h5 j (by simp at hj ⊢; omega); simpa using this
 | [],o+1,vs,k,h=>by cases vs <;> exact h.elim
 | x::l,o+1,vs,k,h=>by
  have h':u6 l o vs fun l'=>k (x::l'):=by cases vs <;> exact h
  obtain ⟨l',h1,J,h3,h4,h5⟩:=yC (l:=l) h';refine ⟨x::l',h1,by simp [J],by simp; omega,fun j u hu=>?_,fun j hj=>?_⟩
  ·have:=h4 j u hu; rwa [show o+1+j=(o+j)+1 by omega,List.getElem?_cons_succ]
  ·cases j with
   | zero=>simp
   | succ j=>have:=h5 j (by omega); simpa using this
def gH:aA→Nat→(aj→Prop)→Prop
 | [],_,_=>False
 | b::_,0,k=>match b with | some b=>k b | none=>False
 | _::H,n+1,k=>gH H n k
theorem gA:∀ {H:aA} {id:Nat} {k:aj→Prop},gH H id k→∃ b,H[id]?=some (some b)∧k b
 | [],_,_,h=>h.elim
 | some b::_,0,_,h=>⟨b,rfl,h⟩
 | none::_,0,_,h=>h.elim
 | _::H,n+1,k,h=>by obtain ⟨b,h1,J⟩:=gA (H:=H) h; exact ⟨b,by simpa using h1,J⟩
def jx:aA→Nat→Option aj→(aA→Prop)→Prop
 | [],_,_,_=>False
 | _::H,0,b,k=>k (b::H)
 | c::H,n+1,b,k=>jx H n b fun H'=>k (c::H')
theorem mC:∀ {H:aA} {id:Nat} {b:Option aj} {k:aA→Prop},jx H id b k→id < H.length∧k (H.set id b)
 | [],_,_,_,h=>h.elim
 | _::H,0,_,_,h=>⟨by simp,h⟩
 | c::H,n+1,b,k,h=>by obtain ⟨h1,J⟩:=mC (H:=H) h; exact ⟨by simpa using h1,by simpa using J⟩
def pB:aA→Option aj→(aA→Prop)→Prop
 | [],b,k=>k [b]
 | c::H,b,k=>pB H b fun H'=>k (c::H')
theorem yw:∀ {H:aA} {b:Option aj} {k:aA→Prop},pB H b k→k (H++[b])
 | [],_,_,h=>h
 | _::H,b,k,h=>yw (H:=H) h
def jy:aA→(Nat→Prop)→Prop
 | [],k=>k 0
 | _::H,k=>jy H fun n=>k (n+1)
theorem mD:∀ {H:aA} {k:Nat→Prop},jy H k→k H.length
 | [],_,h=>h
 | _::H,k,h=>mD (H:=H) h
def br (b:Bool) (x y:Prop):Prop:=match b with | true=>x | false=>y
theorem aK {b:Bool} {x y:Prop} (h1:b=true→x) (J:b=false→y):br b x y:=by cases b <;> simp_all [br]
theorem Cf {b:Bool} {x y:Prop} (h:br b x y) (hb:b=true):x:=by subst hb; exact h
theorem BP {b:Bool} {x y:Prop} (h:br b x y) (hb:b=false):y:=by subst hb; exact h
theorem nq {b:Bool} {x y:Prop} (h:b=true) (hx:x):br b x y:=by subst h; exact hx
def xP (p:Prop) [Decidable p] (k:Prop):Prop:=br (decide p) k False
theorem By {p:Prop} [Decidable p] {k:Prop} (h:xP p k):p∧k:=by
 unfold xP br at h
 split at h
 ·rename_i hp; exact ⟨of_decide_eq_true hp,h⟩
 ·exact h.elim
open Go Go.RowKit
inductive TK where
 | int (k:IntKind) | bool | str
 | struct (fs:List (Nat × Nat × Bool))      -- offset,size,is it a struct or an array
 | slice (e:TypeId)
 | array (n:Nat) (e:TypeId)
 | other
structure TI where
 size:Nat
 bytes:Nat
 kind:TK
 zero:List Value
def TI.agg (ti:TI):Bool:=match ti.kind with | .struct _ | .array _ _=>true | _=>false
abbrev TT:=TypeId→Option TI
def uF:TypeDesc→Bool
 | .struct _ | .array _ _=>true
 | _=>false
def yQ (P:Program) (f:Field) (x:Nat × Nat × Bool):Prop :=
 f.offset=x.1∧0 < x.2.1∧(∃ i,P.info? f.type=some i∧i.size=x.2.1)∧∃ d,P.underlying f.type=some d∧uF d=x.2.2
def DK (P:Program) (k:TK) (d:TypeDesc):Prop :=
 match k with
 | .int q=>d=.int q
 | .bool=>d=.bool
 | .str=>d=.string
 | .struct fs=>∃ fields,d=.struct fields∧fields.size=fs.length∧∀ (i:Nat) f x,fields[i]?=some f→fs[i]?=some x→yQ P f x
 | .slice e=>d=.slice e
 | .array n e=>d=.array n e
 | .other=>uF d=false
structure aB (P:Program) (t:TypeId) (ti:TI):Prop where
 info:∃ i,P.info? t=some i∧i.size=ti.size∧i.bytes=ti.bytes∧∃ z,i.zero=some z∧z.cells=⟨ti.zero⟩
 under:∃ d,P.underlying t=some d∧DK P ti.kind d
 self:∀ ν,bf ν ti.zero ti.zero
 len:ti.zero.length=ti.size
 one:∀ v∈ti.zero,v.oneCell'=true
 bit:0 < ti.size∧0 < ti.bytes
theorem aB.aee {P:Program} {t:TypeId} {ti:TI} (h:aB P t ti):∃ d,P.underlying t=some d∧uF d=ti.agg:=by
 obtain ⟨d,h1,J⟩:=h.under;refine ⟨d,h1,?_⟩;unfold DK at J;unfold TI.agg
 split at J <;> rename_i hk <;> rw [hk] <;> first | (subst J; rfl) | (obtain ⟨_,rfl,_⟩:=J; rfl) | (simpa using J)
theorem LZ {P:Program} {t:TypeId} {d:TypeDesc} (h:P.underlying t=some d) (w:World):(isAgg t).run P w=.ok (uF d) w:=by
 unfold isAgg underlying;simp [h];cases d <;> rfl
theorem gn {P:Program} {t:TypeId} {i:TypeInfo} (h:P.info? t=some i) (w:World):(sizeOf t).run P w=.ok i.size w:=by simp [sizeOf,typeInfo,h]
theorem wa {P:Program} {t:TypeId} {i:TypeInfo} {z:Value} (h:P.info? t=some i) (hz:i.zero=some z) (w:World):(zeroValue t).run P w=.ok z w:=by
 simp [zeroValue,typeInfo,h,hz]
theorem dB {P:Program} {t:TypeId} {d:TypeDesc} (h:P.underlying t=some d) (w:World):(underlying t).run P w=.ok d w:=by simp [underlying,h]
theorem Kr {P:Program} {t:TypeId} {ti:TI} (h:aB P t ti) {w:World} {a:Addr} {cs:List Value} (hl:cs.length=ti.size)
  (hc:∀ j v,cs[j]?=some v→w.cell? (a.add j)=some v) :
  (loadVar t a).run P w=.ok (if ti.agg then .agg ⟨cs⟩ else cs.getD 0 undef) w:=by
 obtain ⟨d,h1,J⟩:=h.aee;obtain ⟨i,hi,hs,_⟩:=h.info;unfold loadVar;simp only [Sem.run_bind,LZ h1,Result.andThen_ok,Sem.run_ite];rw [J]
 split
 ·simp only [Sem.run_bind,gn hi,Result.andThen_ok];rw [hs,← hl,run_loadCells_list w a cs hc]
  rfl
 ·have hp:=h.bit.1;cases cs with
  | nil=>simp at hl; omega
  | cons v r =>
   have:=hc 0 v rfl;simp only [Addr.add,if_true] at this;simp [run_load,this]
theorem VJ (b o j:Nat):(⟨b,o,none⟩:Addr).add j=⟨b,o+j,none⟩:=by unfold Addr.add; split <;> simp_all
theorem Loc.jM (l:Loc) (row cc j:Nat):(l.at row cc).add j=l.at row (cc+j):=by
 unfold Loc.at; rw [VJ]; congr 1; omega
open Go Go.RowKit
structure bE where
 ι:Type
 args:ι→List Value
 pre:ι→Prop
 val:ι→Value
structure a9 where
 ι:Type
 args:ι→List Value
 ae:ι→List aj
 pre:ι→Prop
 val:ι→Value
 new:ι→Option aj
inductive uO where
 | p (S:bE)
 | q (S:a9)
 | r (S:a9)
abbrev zk:=FuncId→Option uO
def WF (r:Option Nat):Fence:={ Fence.wide with round:=r }
structure bh (P:Program) (f:FuncId) (S:bE):Prop where
 enters:∀ args w,(callFunc f args).run P w=.ok (.enter f args) w
 calls:∀ (i:S.ι),S.pre i→∀ (ν:Nu) (as:List Value) (w:World) (n:Nat),bf ν (S.args i) as →
  CallsIn Fence.wide n P f ⟨as⟩ w fun e w'=>∃ v',e=.returned v'∧aq ν (S.val i) v'∧Below w.heap.size w w'
structure nw (ν al:Nu) (aI:Nat) (w w':World) (v v':Value) (nb:Option aj):Prop where
 le:ν.le al
 only:∀ id,id≠aI→al id=ν id
 val:aq al v v'
 below:Below w.heap.size w w'
 Ac:nb=none→al=ν
 g7:∀ b,nb=some b→∃ l,al aI=some l∧bQ al l b w'∧w.heap.size≤l.aJ
structure cU (P:Program) (f:FuncId) (S:a9):Prop where
 enters:∀ args w,(callFunc f args).run P w=.ok (.enter f args) w
 ro:∀ i b,b∈S.ae i→b.own=false
 fl:∀ i b,S.new i=some b→b.iY=true
 calls:∀ (i:S.ι),S.pre i→∀ (ν:Nu) (as:List Value) (w:World) (n:Nat),bf ν (S.args i) as→bT ν ((S.ae i).map some) w→(∀ id,(S.ae i).length≤id→ν id=none) →
  CallsIn Fence.wide n P f ⟨as⟩ w fun e w'=>∃ v' al,e=.returned v'∧nw ν al (S.ae i).length w w' (S.val i) v' (S.new i)
def Dk (P:Program) (f:FuncId):uO→Prop
 | .p S=>bh P f S
 | .q S=>cU P f S
 | .r S=>cU P f S
abbrev QK:=Value→Option aj→Prop
def qB (v:Value) (k:Value→Prop):Prop :=
 match v with
 | .bool b=>k (.bool b)
 | .int q n=>k (.int q n)
 | .string s=>k (.string s)
 | .agg cs=>k (.agg cs)
 | .tuple cs=>k (.tuple cs)
 | .pointer a=>k (.pointer a)
 | .slice a n c=>k (.slice a n c)
 | .func f a b=>k (.func f a b)
 | .nilFunc=>k .nilFunc
 | _=>False
theorem wb {v:Value} {k:Value→Prop} (h:qB v k):k v:=by
 unfold qB at h; split at h <;> first | exact h | exact h.elim
def qR:List Value→List Value→(List Value→Prop)→Prop
 | [],l,k=>k l
 | x::xs,l,k=>qR xs l fun r=>k (x::r)
theorem wx:∀ {xs l:List Value} {k:List Value→Prop},qR xs l k→k (xs++l)
 | [],_,_,h=>h
 | _::xs,l,k,h=>wx (xs:=xs) h
def qh:List Value→Nat→Bool
 | [],0=>true
 | v::l,n+1=>v.oneCell' && qh l n
 | _,_=>false
theorem yo:∀ {l:List Value} {n:Nat},qh l n=true→l.length=n∧∀ v∈l,v.oneCell'=true
 | [],0,_=>⟨rfl,fun v hv=>by simp at hv⟩
 | v::l,n+1,h=>by
  simp only [qh,Bool.and_eq_true] at h;obtain ⟨h1,J⟩:=yo h.2;exact ⟨by simp [h1],fun u hu=>by
   rcases List.mem_cons.1 hu with e | e
   ·rw [e]; exact h.1
   ·exact J u e⟩
 | [],_+1,h=>by simp [qh] at h
 | _::_,0,h=>by simp [qh] at h
def xm (v:Value) (k:List Value→Prop):Prop :=
 match v with
 | .agg cs=>k cs.toList
 | .tuple _=>False
 | v=>k [v]
theorem Bd {v:Value} {k:List Value→Prop} (h:xm v k):k v.cells.toList:=by
 unfold xm at h
 split at h
 ·exact h
 ·exact h.elim
 ·rename_i h1 J;cases v <;> first | exact h | exact absurd rfl (h1 _)
def Hs:List (List Value)→Nat→(List Value→Prop)→Prop
 | [],_,_=>False
 | r::_,0,k=>k r
 | _::rs,n+1,k=>Hs rs n k
theorem K9:∀ {rs:List (List Value)} {n:Nat} {k:List Value→Prop},Hs rs n k→∃ r,rs[n]?=some r∧k r
 | [],_,_,h=>h.elim
 | r::_,0,_,h=>⟨r,rfl,h⟩
 | _::rs,n+1,k,h=>by obtain ⟨r,h1,J⟩:=K9 (rs:=rs) h; exact ⟨r,by simpa using h1,J⟩
def H0 (b:aj) (row:Nat) (k:List Value→Prop):Prop :=
 match b with
 | .aO _ _ rows=>Hs rows row k
 | .flat _ n _ get=>row < n∧k (get row)
 | .cg _=>False
theorem L4 {b:aj} {row:Nat} {k:List Value→Prop} (h:H0 b row k):row < b.n∧k (b.row row):=by
 cases b with
 | aO o e rows =>
  obtain ⟨r,h1,J⟩:=K9 h;exact ⟨(List.getElem?_eq_some_iff.1 h1).1,by simpa [aj.row,List.getD,h1] using J⟩
 | flat o n e get=>exact h
 | cg r=>exact h.elim
def yX:List (Nat × Nat × Bool)→Nat→(Nat→Nat→Bool→Prop)→Prop
 | [],_,_=>False
 | (a,b,c)::_,0,k=>k a b c
 | _::l,n+1,k=>yX l n k
theorem Be:∀ {l:List (Nat × Nat × Bool)} {n:Nat} {k:Nat→Nat→Bool→Prop},yX l n k→∃ x,l[n]?=some x∧k x.1 x.2.1 x.2.2
 | [],_,_,h=>h.elim
 | x::_,0,_,h=>⟨x,rfl,h⟩
 | _::l,n+1,k,h=>by obtain ⟨r,h1,J⟩:=Be (l:=l) h; exact ⟨r,by simpa using h1,J⟩
def eZ (a b:Nat):Nat:=match a with | 0=>b | a+1=>(a+1)+b
theorem ay (a b:Nat):eZ a b=a+b:=by cases a <;> simp [eZ]
def cN (tt:TT) (t:TypeId) (k:TI→Prop):Prop:=match tt t with | some ti=>k ti | none=>False
theorem cR {tt:TT} {t:TypeId} {k:TI→Prop} (h:cN tt t k):∃ ti,tt t=some ti∧k ti:=by
 unfold cN at h; split at h
 ·exact ⟨_,by assumption,h⟩
 ·exact h.elim
def valOf (agg:Bool) (cs:List Value):Value:=match agg,cs with | true,cs=>.agg ⟨cs⟩ | false,v::_=>v | false,[]=>undef
def Dl (agg:Bool) (cs:List Value) (k:Value→Prop):Prop :=
 match agg,cs with
 | true,cs=>k (.agg ⟨cs⟩)
 | false,v::_=>qB v k
 | false,[]=>k undef
def IT (sp:Option Nat) (k:Nat→Prop):Prop:=match sp with | none=>k 0 | some c=>k c
theorem MU {sp:Option Nat} {k:Nat→Prop} (h:IT sp k):k (sp.getD 0):=by cases sp <;> exact h
def b8 (s:ByteArray) (i:Nat):Nat:=(s.data.toList.getD i 0).toNat
def CX (tmps:List Value) (x:Operand) (k:QK):Prop:=bX tmps x fun v=>k v none
def PM (tmps:List Value) (x:Operand) (k:QK):Prop:=bX tmps x fun v=>match v with
 | .pointer (some _)=>k v none
 | _=>False
def O6 (tmps:List Value) (c a b:Operand) (k:QK):Prop :=
 bX tmps c fun cv=>match cv with
  | .bool t=>bX tmps a fun av=>bX tmps b fun bv =>
   match av,bv with
   | .bool x,.bool y=>k (.bool (bif t then x else y)) none
   | av,bv=>br t (k av none) (k bv none)
  | _=>False
def nr:List Value→List Value→Option (List Value)
 | [],l=>some l
 | .int q n::z,.int q' n'::l=>match decide (q=q') && decide (n=n') with | true=>nr z l | false=>none
 | .bool b::z,.bool b'::l=>match b == b' with | true=>nr z l | false=>none
 | .string s::z,.string s'::l=>match Nat.beq s.size 0 && Nat.beq s'.size 0 with | true=>nr z l | false=>none
 | _,_=>none
def zl (z:List Value):Nat→List Value→Bool
 | 0,[]=>true
 | 0,_::_=>false
 | n+1,l=>match nr z l with | some l'=>zl z n l' | none=>false
def Ox (tt:TT) (t:TypeId) (aI:Nat) (k:QK):Prop :=
 cN tt t fun ti=>match ti.kind with
  | .array n e=>cN tt e fun te=>match Nat.beq te.size 1 && zl te.zero n ti.zero with
   | true=>k (.pointer (some ⟨aI,0,none⟩)) (some (.flat true n te.size fun _=>te.zero))
   | false=>k (.pointer (some ⟨aI,0,none⟩)) (some (.aO true ti.size [ti.zero]))
  | _=>k (.pointer (some ⟨aI,0,none⟩)) (some (.aO true ti.size [ti.zero]))
def PN (tt:TT) (tmps:List Value) (t:TypeId) (x:Operand) (aI:Nat) (k:QK):Prop :=
 cN tt t fun ti=>bX tmps x fun v=>xm v fun cs=>match qh cs ti.size with
  | true=>k (.pointer (some ⟨aI,0,none⟩)) (some (.aO true ti.size [cs]))
  | false=>False
def Ht (tt:TT) (tmps:List Value) (H:aA) (t:TypeId) (a:Operand) (k:QK):Prop :=
 bX tmps a fun av=>match av with
  | .pointer (some ⟨id,row,sp⟩)=>cN tt t fun ti=>gH H id fun b=>H0 b row fun cs=>IT sp fun c=>uN cs c ti.size fun vs=>Dl ti.agg vs fun v=>k v none
  | _=>False
def La (tt:TT) (tmps:List Value) (t:TypeId) (x:Operand) (f:Nat) (k:QK):Prop :=
 bX tmps x fun av=>match av with
  | .pointer (some ⟨id,row,sp⟩)=>cN tt t fun ti=>match ti.kind with
   | .struct fs=>yX fs f fun off _ _=>IT sp fun c=>k (.pointer (some ⟨id,row,some (c+off)⟩)) none
   | _=>False
  | _=>False
def Oy (tt:TT) (tmps:List Value) (t:TypeId) (x:Operand) (f:Nat) (k:QK):Prop :=
 bX tmps x fun av=>match av with
  | .agg cs=>cN tt t fun ti=>match ti.kind with
   | .struct fs=>yX fs f fun off sz ag=>uN cs.toList off sz fun vs=>Dl ag vs fun v=>k v none
   | _=>False
  | _=>False
def E6 (tt:TT) (tmps:List Value) (H:aA) (t:TypeId) (x ix:Operand) (k:QK):Prop :=
 bX tmps x fun xv=>bX tmps ix fun iv=>match iv with
  | .int _ i=>cN tt t fun ti=>match ti.kind with
   | .slice e=>match xv with
    | .slice (some ⟨id,row,none⟩) n _=>cN tt e fun te=>gH H id fun b =>
     (0≤i∧i < (n:Int))∧match Nat.beq b.ah te.size with
      | true=>k (.pointer (some ⟨id,eZ row i.toNat,none⟩)) none
      | false=>False
    | _=>False
   | .array n e=>match xv with
    | .pointer (some ⟨id,row,none⟩)=>cN tt e fun te=>gH H id fun b=>(0≤i∧i < (n:Int))∧match Nat.beq b.ah te.size with
     | true=>k (.pointer (some ⟨id,eZ row i.toNat,none⟩)) none
     | false=>k (.pointer (some ⟨id,row,some (0+i.toNat*te.size)⟩)) none
    | .pointer (some ⟨id,row,some c⟩)=>cN tt e fun te=>(0≤i∧i < (n:Int))∧k (.pointer (some ⟨id,row,some (c+i.toNat*te.size)⟩)) none
    | _=>False
   | _=>False
  | _=>False
def Oz (tt:TT) (tmps:List Value) (t:TypeId) (x ix:Operand) (k:QK):Prop :=
 bX tmps x fun xv=>bX tmps ix fun iv=>match iv with
  | .int _ i=>cN tt t fun ti=>match ti.kind with
   | .str=>match xv with
    | .string s=>(0≤i∧i < (s.size:Int))∧k (.int .u8 (b8 s i.toNat)) none
    | _=>False
   | _=>False
  | _=>False
def FY (tmps:List Value) (x:Operand) (ix:Nat) (k:QK):Prop :=
 bX tmps x fun xv=>match xv with
  | .tuple vs=>qQ vs.toList ix fun v=>k v none
  | _=>False
def L5 (tmps:List Value) (fn:Fn) (first cap:List Operand) (k:QK):Prop :=
 qA tmps first fun a=>qA tmps cap fun b=>k (.func fn ⟨a⟩ ⟨b⟩) none
def QF (tmps:List Value) (op:UnOp) (x:Operand) (k:QK):Prop :=
 bX tmps x fun xv=>match op,xv with
  | .neg,.int q n=>k (.int q (q.wrap (0 - n))) none
  | .not,.bool b=>k (.bool !b) none
  | .xor,.int q n=>match Op.intBits .xor q (if q.signed then -1 else q.max) n with
   | .pure v=>qB v fun v=>match cJ v with | true=>k v none | false=>False
   | _=>False
  | _,_=>False
def eU:List Value→List Value→Bool
 | [],[]=>true
 | .bool a::l,.bool b::m=>(a == b) && eU l m
 | .int _ a::l,.int _ b::m=>(a == b) && eU l m
 | .string a::l,.string b::m=>(a.toList == b.toList) && eU l m
 | _,_=>false
def eY:List Value→List Value→Bool
 | [],[]=>true
 | .bool _::l,.bool _::m=>eY l m
 | .int q _::l,.int q' _::m=>decide (q=q') && eY l m
 | .string _::l,.string _::m=>eY l m
 | _,_=>false
def xQ (P:Program) (t:TypeId) (zero:List Value):Prop :=
 ∀ xs ys w,eY xs zero=true→eY ys zero=true→(Op.equal t (.agg ⟨xs⟩) (.agg ⟨ys⟩)).run P w=.ok (eU xs ys) w∧∀ x y op,(eqGuard op t x y (.agg ⟨xs⟩) (.agg ⟨ys⟩)).run P w=.ok () w
def O7 (op:BinOp) (q:IntKind) (a b:Int) (k:QK):Prop :=
 match op with
 | .and | .or | .xor | .andNot=>match Op.intBits op q a b with
  | .pure v=>qB v fun v=>match cJ v with | true=>k v none | false=>False
  | _=>False
 | _=>False
def Cg (op:BinOp) (q q':IntKind) (a b:Int) (k:QK):Prop :=
 match op with
 | .shl=>xP (0≤b) <| k (.int q (q.wrap (a*2 ^ (min b.toNat q.bits)))) none
 | .shr=>xP (0≤b) <| k (.int q (a.fdiv (2 ^ (min b.toNat q.bits)))) none
 | op=>match decide (q=q') with
  | true=>match op with
   | .add=>k (.int q (q.wrap (a+b))) none
   | .sub=>k (.int q (q.wrap (a - b))) none
   | .mul=>k (.int q (q.wrap (a*b))) none
   | .quo=>xP (b≠0) <| k (.int q (q.wrap (a.tdiv b))) none
   | .rem=>xP (b≠0) <| k (.int q (a.tmod b)) none
   | .eql=>k (.bool (a == b)) none
   | .neq=>k (.bool (a != b)) none
   | .lss=>k (.bool (decide (a < b))) none
   | .leq=>k (.bool (decide (a≤b))) none
   | .gtr=>k (.bool (decide (a > b))) none
   | .geq=>k (.bool (decide (a ≥ b))) none
   | op=>O7 op q a b k
  | false=>False
def NJ (op:BinOp) (a b:ByteArray) (k:QK):Prop :=
 match op with
 | .add=>(a.size+b.size < 9223372036854775808)∧k (.string (a++b)) none
 | .eql=>k (.bool (a.toList == b.toList)) none
 | .neq=>k (.bool !(a.toList == b.toList)) none
 | .lss=>k (.bool (Op.bytesLess a.toList b.toList)) none
 | .gtr=>k (.bool !(Op.bytesLess a.toList b.toList || a.toList == b.toList)) none
 | _=>False
def FZ (tk:TK) (op:BinOp) (a b:Bool) (k:QK):Prop :=
 match tk,op with
 | .bool,.eql=>k (.bool (a == b)) none
 | .bool,.neq=>k (.bool !(a == b)) none
 | _,_=>False
def Gr (eqs:List TypeId) (t:TypeId) (zero:List Value) (op:BinOp) (a b:List Value) (k:QK):Prop :=
 match eqs.contains t && eY a zero && eY b zero,op with
 | true,.eql=>k (.bool (eU a b)) none
 | true,.neq=>k (.bool !(eU a b)) none
 | _,_=>False
def Gs (tk:TK) (op:BinOp) (a:Option Addr) (k:QK):Prop :=
 match tk,op,a with
 | .slice _,.eql,none=>k (.bool true) none
 | .slice _,.eql,some _=>k (.bool false) none
 | .slice _,.neq,none=>k (.bool false) none
 | .slice _,.neq,some _=>k (.bool true) none
 | _,_,_=>False
def Dm (tt:TT) (eqs:List TypeId) (tmps:List Value) (op:BinOp) (t:TypeId) (x y:Operand) (k:QK):Prop :=
 bX tmps x fun xv=>bX tmps y fun yv=>match xv,yv with
  | .int q a,.int q' b=>Cg op q q' a b k
  | .string a,.string b=>NJ op a b k
  | .bool a,.bool b=>cN tt t fun ti=>FZ ti.kind op a b k
  | .agg a,.agg b=>cN tt t fun ti=>Gr eqs t ti.zero op a.toList b.toList k
  | .slice a _ _,.slice none 0 0=>cN tt t fun ti=>Gs ti.kind op a k
  | _,_=>False
def bytesOf (get:Nat→List Value) (row n:Nat):List UInt8:=(List.range n).map fun r=>match get (row+r) with | .int _ x::_=>UInt8.ofNat x.toNat | _=>0
def MV (tt:TT) (tmps:List Value) (H:aA) (src dst:TypeId) (x:Operand) (aI:Nat) (k:QK):Prop :=
 bX tmps x fun xv=>cN tt src fun ts=>cN tt dst fun td=>match td.kind,xv with
  | .int q,.int _ n=>match ts.kind with
   | .int _=>k (.int q (q.wrap n)) none
   | _=>False
  | .str,.string s=>match ts.kind with
   | .str=>k (.string s) none
   | _=>False
  | .str,.slice (some ⟨id,row,none⟩) n _=>match ts.kind with
   | .slice e=>cN tt e fun te=>match te.kind with
    | .int .u8=>match n with
     | 0=>k (.string ⟨#[]⟩) none
     | n+1=>gH H id fun b=>match b.ah with
      | 1=>(row+(n+1)≤b.n∧∀ r,r < n+1→∃ x,b.row (row+r)=[.int .u8 x])∧k (.string ⟨⟨bytesOf b.row row (n+1)⟩⟩) none
      | _=>False
    | _=>False
   | _=>False
  | .str,.slice none 0 0=>match ts.kind with
   | .slice e=>cN tt e fun te=>match te.kind with
    | .int .u8=>k (.string ⟨#[]⟩) none
    | _=>False
   | _=>False
  | .slice e,.string s=>match ts.kind with
   | .str=>cN tt e fun te=>match te.kind with
    | .int .u8=>k (.slice (some ⟨aI,0,none⟩) s.size aM) (some (.flat false s.size 1 fun r=>[.int .u8 (b8 s r)]))
    | _=>False
   | _=>False
  | _,_=>False
def H6 (tmps:List Value) (tt:TT) (t:TypeId) (x:Operand) (k:QK):Prop :=
 bX tmps x fun xv=>cN tt t fun ti=>match ti.kind,xv with
  | .str,.string s=>k (.int .i64 s.size) none
  | .slice _,.slice _ n _=>k (.int .i64 n) none
  | _,_=>False
def PO (tmps:List Value) (x y:Operand) (k:QK):Prop :=
 bX tmps x fun xv=>bX tmps y fun yv=>match xv,yv with
  | .int q a,.int _ b=>k (.int q (if b > a then b else a)) none
  | _,_=>False
def PQ (tmps:List Value) (x y:Operand) (k:QK):Prop :=
 bX tmps x fun xv=>bX tmps y fun yv=>match xv,yv with
  | .int q a,.int _ b=>k (.int q (if b < a then b else a)) none
  | _,_=>False
def CY (tmps:List Value) (fs:List (Nat × Nat × Bool)):List (Nat × Operand)→List Value→(List Value→Prop)→Prop
 | [],cs,k=>k cs
 | p::ps,cs,k=>bX tmps p.2 fun v=>xm v fun vs=>yX fs p.1 fun off sz _=>match qh vs sz with
  | true=>u6 cs off vs fun eM=>CY tmps fs ps eM k
  | false=>False
def xy (sz:Nat):Nat→Nat→List (Nat × Nat × Bool)
 | _,0=>[]
 | off,n+1=>(off,sz,true)::xy sz (off+sz) n
def OA (tt:TT) (tmps:List Value) (t:TypeId) (parts:List (Nat × Operand)) (k:QK):Prop :=
 cN tt t fun ti=>match ti.kind with
  | .struct fs=>CY tmps fs parts ti.zero fun cs=>k (.agg ⟨cs⟩) none
  | .array n e=>cN tt e fun te=>CY tmps (xy te.size 0 n) parts ti.zero fun cs=>k (.agg ⟨cs⟩) none
  | _=>False
def cM (τ:List Nat):Nat→Value→Option Value
 | 0,_=>none
 | k+1,v=>match v with
  | .bool b=>some (.bool b)
  | .int q n=>some (.int q n)
  | .string s=>some (.string s)
  | .pointer none=>some (.pointer none)
  | .pointer (some ⟨id,row,sp⟩)=>match τ[id]? with | some vr=>some (.pointer (some ⟨vr,row,sp⟩)) | none=>none
  | .slice none 0 0=>some (.slice none 0 0)
  | .slice (some ⟨id,row,none⟩) n c=>match τ[id]? with | some vr=>some (.slice (some ⟨vr,row,none⟩) n c) | none=>none
  | .nilFunc=>some .nilFunc
  | .agg ⟨l⟩=>match l.foldr (fun v acc=>match cM τ k v,acc with | some x,some xs=>some (x::xs) | _,_=>none) (some []) with | some l'=>some (.agg ⟨l'⟩) | none=>none
  | .tuple ⟨l⟩=>match l.foldr (fun v acc=>match cM τ k v,acc with | some x,some xs=>some (x::xs) | _,_=>none) (some []) with | some l'=>some (.tuple ⟨l'⟩) | none=>none
  | .func fn ⟨l⟩ ⟨m⟩=>match l.foldr (fun v acc=>match cM τ k v,acc with | some x,some xs=>some (x::xs) | _,_=>none) (some []),m.foldr (fun v acc=>match cM τ k v,acc with | some x,some xs=>some (x::xs) | _,_=>none) (some []) with
   | some l',some m'=>some (.func fn ⟨l'⟩ ⟨m'⟩) | _,_=>none
  | _=>none
def mO (τ:List Nat) (k:Nat) (l:List Value):Option (List Value):=l.foldr (fun v acc=>match cM τ k v,acc with | some x,some xs=>some (x::xs) | _,_=>none) (some [])
def mP:List Value→Bool
 | []=>true
 | v::l=>cJ v && mP l
theorem dD:∀ {l:List Value},mP l=true→∀ v∈l,cJ v=true
 | [],_,v,hv=>by simp at hv
 | v::l,h,u,hu=>by
  simp only [mP,Bool.and_eq_true] at h;rcases List.mem_cons.1 hu with e | e
  ·rw [e]; exact h.1
  ·exact dD h.2 u e
structure aG (b c:aj):Prop where
 own:b.own=true→c.oh=true∧c.n=b.n
 ah:c.ah=b.ah
 n:b.n≤c.n
 row:∀ r,r < b.n→b.row r=c.row r
 flat:∀ r,r < b.n→∀ v∈b.row r,cJ v=true
theorem aG.aR {o o':Bool} {n e:Nat} {g:Nat→List Value} (h:o=true→o'=true) (hs:∀ r,r < n→mP (g r)=true):aG (.flat o n e g) (.flat o' n e g) :=
 ⟨fun ho=>⟨h ho,rfl⟩,rfl,Nat.le_refl _,fun _ _=>rfl,fun r hr v hv=>dD (hs r hr) v hv⟩
def zm (H:aA):List Nat→List aj→Prop→Prop
 | [],[],k=>k
 | s::σ,b::bs,k=>match b with
  | .cg _=>False
  | b=>gH H s fun c=>aG b c∧zm H σ bs k
 | _,_,_=>False
def Dn (σ:List Nat) (b c:aj):Prop:=aG b c∨∃ o e r r',b=.aO false e [r]∧c=.aO o e [r']∧mO σ 3 r=some r'
def CA (H:aA) (τ:List Nat):List Nat→List aj→Prop→Prop
 | [],[],k=>k
 | s::σ,b::bs,k=>match b with
  | .cg _=>False
  | b=>gH H s fun c=>Dn τ b c∧CA H τ σ bs k
 | _,_,_=>False
def Hu (Φ:zk) (g:FuncId) (args:List Value) (H:aA) (aI:Nat) (k:QK):Prop :=
 match Φ g with
 | some (.p S)=>∃ i:S.ι,S.args i=args∧S.pre i∧qB (S.val i) fun v=>k v none
 | some (.q S)=>∃ (i:S.ι) (σ:List Nat),mO σ 3 (S.args i)=some args∧S.pre i∧zm H σ (S.ae i) (∃ v,cM (σ++[aI]) 3 (S.val i)=some v∧qB v fun v=>k v (S.new i))
 | some (.r S)=>∃ (i:S.ι) (σ:List Nat),mO σ 3 (S.args i)=some args∧S.pre i∧CA H σ σ (S.ae i) (∃ v,cM (σ++[aI]) 3 (S.val i)=some v∧qB v fun v=>k v (S.new i))
 | none=>False
def uG (c l:Nat):Nat:=match decide (c=aM) with | true=>aM | false=>c - l
def setRow:List (List Value)→Nat→List Value→(List (List Value)→Prop)→Prop
 | [],_,_,_=>False
 | _::rs,0,r,k=>k (r::rs)
 | q::rs,n+1,r,k=>setRow rs n r fun cf=>k (q::cf)
def rowsOf (tmps:List Value) (sz:Nat):List (Nat × Operand)→List (List Value)→(List (List Value)→Prop)→Prop
 | [],rows,k=>k rows
 | p::ps,rows,k=>bX tmps p.2 fun v=>xm v fun cs=>match qh cs sz with
  | true=>setRow rows p.1 cs fun jb=>rowsOf tmps sz ps jb k
  | false=>False
def H8 (n:Nat) (r:List Value) (k:List (List Value)→Prop):Prop:=match n with
 | 0=>k []
 | n+1=>H8 n r fun l=>k (r::l)
def GY (ah:Nat) (rows:List (List Value)) (k:aj→Prop):Prop :=
 match rows with
 | []=>k (.flat true 0 ah fun _=>[])
 | r::rs=>k (.aO true ah (r::rs))
def KP (tt:TT) (tmps:List Value) (t:TypeId) (n:Nat) (ps:List (Nat × Operand)) (aI:Nat) (k:QK):Prop :=
 cN tt t fun ti=>match ti.kind with
  | .slice e=>cN tt e fun te=>match Nat.ble (n*te.size) 16777216 with
   | true=>H8 n te.zero fun acy=>rowsOf tmps te.size ps acy fun rows=>GY te.size rows fun b=>k (.slice (some ⟨aI,0,none⟩) n n) (some b)
   | false=>False
  | _=>False
def Lb (tt:TT) (tmps:List Value) (t:TypeId) (x y:Operand) (aI:Nat) (k:QK):Prop :=
 bX tmps x fun xv=>bX tmps y fun yv=>cN tt t fun ti=>match ti.kind with
  | .slice e=>cN tt e fun te=>match mP te.zero,xv,yv with
   | true,.int _ n,.int _ m=>(0≤n∧n≤m∧m*te.bytes≤140737488355328)∧k (.slice (some ⟨aI,0,none⟩) n.toNat m.toNat) (some (.flat true n.toNat te.size fun _=>te.zero))
   | _,_,_=>False
  | _=>False
def lW (tmps:List Value) (x:Option Operand) (d:Int) (k:Int→Prop):Prop :=
 match x with
 | none=>k d
 | some x=>bX tmps x fun v=>match v with | .int _ n=>k n | _=>False
def GZ (tt:TT) (tmps:List Value) (H:aA) (t:TypeId) (x:Operand) (lo hi mx:Option Operand) (k:QK):Prop :=
 bX tmps x fun xv=>cN tt t fun ti=>match ti.kind,xv with
  | .str,.string s=>match mx with
   | none=>lW tmps lo 0 fun l=>lW tmps hi s.size fun h=>(0≤l∧l≤h∧h≤s.size)∧k (.string (s.extract l.toNat h.toNat)) none
   | some _=>False
  | .slice e,.slice (some ⟨id,row,none⟩) n c=>cN tt e fun te=>gH H id fun b=>match Nat.beq b.ah te.size with
   | true=>match hi,mx with
    | hi,none=>lW tmps lo 0 fun l=>lW tmps hi n fun h=>(0≤l∧l≤h∧h≤n)∧k (.slice (some ⟨id,eZ row l.toNat,none⟩) (h.toNat - l.toNat) (uG c l.toNat)) none
    | some h0,some m=>lW tmps lo 0 fun l=>bX tmps h0 fun hv=>bX tmps m fun mv=>match hv,mv with
     | .int _ h,.int _ m=>(0≤l∧l≤h∧h≤m∧m≤n)∧k (.slice (some ⟨id,eZ row l.toNat,none⟩) (h.toNat - l.toNat) (m.toNat - l.toNat)) none
     | _,_=>False
    | none,some _=>False
   | false=>False
  | .slice e,.slice (some ⟨id,row,some b0⟩) n _=>cN tt e fun te=>gH H id fun b=>match Nat.beq b.ah te.size with
   | true=>match hi,mx with
    | hi,none=>lW tmps lo 0 fun l=>lW tmps hi n fun h=>(0≤l∧l≤h∧h≤b0)∧k (.slice (some ⟨id,eZ row l.toNat,some (b0 - l.toNat)⟩) (h.toNat - l.toNat) aM) none
    | some h0,some m=>lW tmps lo 0 fun l=>bX tmps h0 fun hv=>bX tmps m fun mv=>match hv,mv with
     | .int _ h,.int _ m=>(0≤l∧l≤h∧h≤m∧m≤b0)∧k (.slice (some ⟨id,eZ row l.toNat,none⟩) (h.toNat - l.toNat) (m.toNat - l.toNat)) none
     | _,_=>False
    | none,some _=>False
   | false=>False
  | .array n e,.pointer (some ⟨id,row,none⟩)=>cN tt e fun te=>gH H id fun b=>match Nat.beq b.ah te.size with
   | true=>match mx with
    | none=>lW tmps lo 0 fun l=>lW tmps hi n fun h=>(0≤l∧l≤h∧h≤n∧row+n≤b.n∧b.oh=true)∧k (.slice (some ⟨id,eZ row l.toNat,none⟩) (h.toNat - l.toNat) (n - l.toNat)) none
    | some _=>False
   | false=>False
  | .slice e,.slice none 0 0=>cN tt e fun _=>match hi,mx with
   | hi,none=>lW tmps lo 0 fun l=>lW tmps hi 0 fun h=>(0≤l∧l≤h∧h≤0)∧k (.slice none 0 0) none
   | some h0,some m=>lW tmps lo 0 fun l=>bX tmps h0 fun hv=>bX tmps m fun mv=>match hv,mv with
    | .int _ h,.int _ m=>(0≤l∧l≤h∧h≤m∧m≤0)∧k (.slice none 0 0) none
    | _,_=>False
   | none,some _=>False
  | _,_=>False
def PR (tmps:List Value) (tt:TT) (t:TypeId) (x:Operand) (k:QK):Prop :=
 bX tmps x fun xv=>cN tt t fun ti=>match ti.kind,xv with
  | .slice _,.slice none 0 0=>k (.int .i64 0) none
  | _,_=>False
def L6 (tt:TT) (tmps:List Value) (t u:TypeId) (x y:Operand) (aI:Nat) (k:QK):Prop :=
 bX tmps x fun xv=>bX tmps y fun yv=>cN tt t fun ti=>match ti.kind with
  | .slice e=>cN tt e fun te=>cN tt u fun tu=>match tu.kind,mP te.zero,xv,yv with
   | .int _,true,.slice none 0 0,.int .i64 n=>(0 < n∧n*te.bytes≤140737488355328)∧k (.slice (some ⟨aI,0,none⟩) n.toNat aM) (some (.flat true n.toNat te.size fun _=>te.zero))
   | _,_,_,_=>False
  | _=>False
abbrev FT:=List Value→aA→(Value→aA→Prop)→Prop
structure Env where
 tt:TT
 eqs:List TypeId
 Φ:zk
 Ψ:FuncId→Option FT:=fun _=>none
 base:Nat:=0
 iu:Bool:=false
 ys:List (Nat × FT):=[]
 rd:Bool:=false
 nu:Nu:=fun _=>none
 It:FuncId→Option (Nat→FT→Nu→FT):=fun _=>none
def lu (E:Env) (op:Op) (tmps:List Value) (H:aA) (aI:Nat) (k:QK):Prop :=
 match op with
 | .move x | .assign x=>CX tmps x k
 | .nilCheck x=>PM tmps x k
 | .pick c a b=>O6 tmps c a b k
 | .alloc t=>Ox E.tt t aI k
 | .box t x=>PN E.tt tmps t x aI k
 | .build t ps=>OA E.tt tmps t ps.toList k
 | .load t a=>Ht E.tt tmps H t a k
 | .buildSlice t n ps=>KP E.tt tmps t n ps.toList aI k
 | .makeSlice t x y=>Lb E.tt tmps t x y aI k
 | .slice t x lo hi mx=>GZ E.tt tmps H t x lo hi mx k
 | .fieldAddr t x f=>La E.tt tmps t x f k
 | .field t x f=>Oy E.tt tmps t x f k
 | .indexAddr t x i=>E6 E.tt tmps H t x i k
 | .index t x i=>Oz E.tt tmps t x i k
 | .extract x i=>FY tmps x i k
 | .makeFunc fn a b=>L5 tmps fn a.toList b.toList k
 | .unOp op _ x=>QF tmps op x k
 | .binOp op t x y _=>Dm E.tt E.eqs tmps op t x y k
 | .convert s d x=>MV E.tt tmps H s d x aI k
 | .call c=>match c.callee with
  | .value f=>bX tmps f fun fv=>match fv with
   | .func (.func g) a b=>qA tmps c.args.toList fun vs=>qR a.toList vs fun l=>qR l b.toList fun args=>Hu E.Φ g args H aI k
   | _=>False
  | .builtin .len=>match c.args.toList,c.argTypes.toList with
   | [x],[t]=>H6 tmps E.tt t x k
   | _,_=>False
  | .builtin .max=>match c.args.toList with
   | [x,y]=>PO tmps x y k
   | _=>False
  | .builtin .cap=>match c.args.toList,c.argTypes.toList with
   | [x],[t]=>PR tmps E.tt t x k
   | _,_=>False
  | .builtin .append=>match c.args.toList,c.argTypes.toList with
   | [x,y],[t,u]=>L6 E.tt tmps t u x y aI k
   | _,_=>False
  | .builtin .min=>match c.args.toList with
   | [x,y]=>PQ tmps x y k
   | _=>False
  | _=>False
 | _=>False
def eO (P:Program) (op:Op) (tmps:List Value) (H:aA) (aI:Nat) (k:QK):Prop :=
 ∃ v nb,k v nb∧∀ (o:Oper) (ν:Nu) (a:Act) (w:World) (r:Option Nat) (n:Nat),o.op=op→(∀ x∈op.operands,fj ν tmps a x)→bT ν H w→ν aI=none →
  ∀ next Q,(∀ v' w' al,nw ν al aI w w' v v' nb→next (a.put o.dst v') w')→o.wpIn (WF r) n P a w next Q
def qH (P:Program) (bn:Nu) (op:Op) (tmps:List Value) (v:Value):Prop :=
 (∀ c,op≠.defer c)∧∀ (o:Oper) (ν:Nu) (a:Act) (w:World),bn.le ν→o.op=op→(∀ x∈op.operands,fj ν tmps a x)→∃ v',aq ν v v'∧(execOp a.eval o).run P w=.ok (.value v') w
theorem jI {P:Program} {r:Option Nat} {n:Nat} {o:Oper} {a:Act} {w w':World} {v':Value} (hd:∀ c,o.op≠.defer c)
  (h:(execOp a.eval o).run P w=.ok (.value v') w') (next:Act→World→Prop) (Q:Exit→Act→World→Prop) (hn:next (a.put o.dst v') w') :
  o.wpIn (WF r) n P a w next Q:=by
 refine ⟨fun _ _=>trivial,?_⟩
 rw [Oper.semAt_eq _ _ _ hd,h];exact hn
def ob (P:Program) (bn:Nu) (G:aA) (op:Op) (tmps:List Value) (v:Value):Prop :=
 (∀ c,op≠.defer c)∧∀ (o:Oper) (ν:Nu) (a:Act) (w:World),bn.le ν→o.op=op→(∀ x∈op.operands,fj ν tmps a x)→bT ν G w→∃ v',aq ν v v'∧(execOp a.eval o).run P w=.ok (.value v') w
def sR (P:Program) (op:Op) (tmps:List Value) (H:aA) (k:QK):Prop:=∃ v,k v none∧∀ bn,ob P bn H op tmps v
theorem sR.value {P:Program} {op:Op} {tmps:List Value} {H:aA} {k:QK} (hd:∀ c,op≠.defer c) {v:Value} (hk:k v none)
  (h:∀ (o:Oper) (ν:Nu) (a:Act) (w:World),o.op=op→(∀ x∈op.operands,fj ν tmps a x)→bT ν H w→∃ v',aq ν v v'∧(execOp a.eval o).run P w=.ok (.value v') w):sR P op tmps H k :=
 ⟨v,hk,fun _=>⟨hd,fun o ν a w _ ho ha hH=>h o ν a w ho ha hH⟩⟩
theorem eO.value {P:Program} {op:Op} {tmps:List Value} {H:aA} {aI:Nat} {k:QK} (hd:∀ c,op≠.defer c) {v:Value} (hk:k v none)
  (h:∀ (o:Oper) (ν:Nu) (a:Act) (w:World),o.op=op→(∀ x∈op.operands,fj ν tmps a x)→bT ν H w→∃ v',aq ν v v'∧(execOp a.eval o).run P w=.ok (.value v') w):eO P op tmps H aI k :=
 ⟨v,none,hk,fun o ν a w r n ho ha hH _ next Q hn=>by
  obtain ⟨v',hv,hr⟩:=h o ν a w ho ha hH;exact jI (by rw [ho]; exact hd) hr next Q (hn _ _ ν ⟨ν.le_refl,fun _ _=>rfl,hv,Below.refl _ _,fun _=>rfl,(fun b hb=>by cases hb)⟩)⟩
theorem sR.ok {P:Program} {op:Op} {tmps:List Value} {H:aA} {aI:Nat} {k:QK} (h:sR P op tmps H k):eO P op tmps H aI k :=
 let ⟨_,hk,hv⟩:=h
 .value (hv fun _=>none).1 hk fun o ν a w ho ha hH=>(hv ν).2 o ν a w ν.le_refl ho ha hH
open Go Go.RowKit
section
variable {P:Program} {tt:TT} {Φ:zk} {w:World} {ν:Nu} {aI:Nat} {k:QK} {tmps:List Value} {H:aA}
theorem aaf {x:Operand} (h:CX tmps x k):eO P (.move x) tmps H aI k:=by
 obtain ⟨v,hk,hv⟩:=cQ h;exact .value (by simp) hk fun o ν a w ho ha _=>⟨_,hv ν a (ha x (by simp [Op.operands])),by simp [execOp,ho]⟩
theorem VK {x:Operand} (h:CX tmps x k):eO P (.assign x) tmps H aI k:=by
 obtain ⟨v,hk,hv⟩:=cQ h;exact .value (by simp) hk fun o ν a w ho ha _=>⟨_,hv ν a (ha x (by simp [Op.operands])),by simp [execOp,ho]⟩
theorem aq.kc {ν:Nu} {b:Bool} {r:Value} (h:aq ν (.bool b) r):r=.bool b:=by cases h; rfl
theorem aq.fJ {ν:Nu} {k:IntKind} {x:Int} {r:Value} (h:aq ν (.int k x) r):r=.int k x:=by cases h; rfl
theorem aq.sh {ν:Nu} {x:ByteArray} {r:Value} (h:aq ν (.string x) r):r=.string x:=by cases h; rfl
theorem aq.n5 {ν:Nu} {id row:Nat} {sp:Option Nat} {r:Value} (h:aq ν (.pointer (some ⟨id,row,sp⟩)) r):∃ l,ν id=some l∧r=.pointer (some (l.at row (sp.getD 0))):=by
 cases h with | ptr _ _ _ l h=>exact ⟨l,h,rfl⟩
theorem acz {x:Operand} (h:PM tmps x k):eO P (.nilCheck x) tmps H aI k:=by
 obtain ⟨v,h,hv⟩:=cQ h
 split at h
 ·rename_i ad;obtain ⟨b,o,sp⟩:=ad;refine .value (by simp) h fun o' ν a w ho ha _=>?_
  have h1:=hv ν a (ha x (by simp [Op.operands]))
  obtain ⟨l,J,h3⟩:=h1.n5;exact ⟨_,h1,by simp [execOp,ho,h3]⟩
 ·exact h.elim
theorem aag {c x y:Operand} (h:O6 tmps c x y k):eO P (.pick c x y) tmps H aI k:=by
 obtain ⟨cv,h,hc⟩:=cQ h
 split at h
 ·rename_i t;obtain ⟨av,h,hx⟩:=cQ h;obtain ⟨bv,h,hy⟩:=cQ h
  split at h
  ·refine .value (by simp) h fun o ν a w ho ha _=>⟨_,.bool _,?_⟩
   have hc:=(hc ν a (ha c (by simp [Op.operands]))).kc
   have hx:=(hx ν a (ha x (by simp [Op.operands]))).kc
   have hy:=(hy ν a (ha y (by simp [Op.operands]))).kc
   cases t <;> simp [execOp,ho,hc,hx,hy,asBool]
  ·cases t with
   | true =>
    refine .value (by simp) h fun o ν a w ho ha _=>⟨_,hx ν a (ha x (by simp [Op.operands])),?_⟩
    have hc:=(hc ν a (ha c (by simp [Op.operands]))).kc
    simp [execOp,ho,hc,asBool]
   | false =>
    refine .value (by simp) h fun o ν a w ho ha _=>⟨_,hy ν a (ha y (by simp [Op.operands])),?_⟩
    have hc:=(hc ν a (ha c (by simp [Op.operands]))).kc
    simp [execOp,ho,hc,asBool]
 ·exact h.elim
theorem MW {ν:Nu} {aI:Nat} (hn:ν aI=none) {ah:Nat} {cs:List Value} {eM:List Value} (hl:cs.length=ah) (hr:bf ν cs eM)
  (h1:∀ v∈cs,v.oneCell'=true) (w:World) (t:TypeId) :
  bQ (ν.add aI ⟨w.heap.size,0,ah,1⟩) ⟨w.heap.size,0,ah,1⟩ (.aO true ah [cs]) { w with heap:=w.heap.push (.cells ⟨eM⟩ t) }:=by
 have dz:({ w with heap:=w.heap.push (.cells ⟨eM⟩ t) }:World).heap[w.heap.size]?=some (.cells ⟨eM⟩ t (0,0)):=by simp
 refine ⟨rfl,fun r iP=>?_,fun r iP j v hv=>?_,fun h=>by simp [aj.iY] at h,fun r iP v hv=>?_,fun _ _=>⟨_,_,dz,?_,?_⟩,(fun r h=>nomatch h),?_⟩
 ·have:r=0:=by simp [aj.n] at iP; exact iP
  subst this; simpa [aj.row,aj.ah] using hl
 ·have:r=0:=by simp [aj.n] at iP; exact iP
  subst this;have hv:cs[j]?=some v:=by simpa [aj.row] using hv
  obtain ⟨v',J,h3⟩:=hr.get hv;refine ⟨v',?_,h3.mono (Nu.kh hn)⟩;simp only [Loc.at,World.cell?,Nat.zero_mul,Nat.zero_add];rw [dz]
  simpa using J
 ·have:r=0:=by simp [aj.n] at iP; exact iP
  subst this; exact h1 v (by simpa [aj.row] using hv)
 ·simp [← hl,hr.1]
 ·simp [aj.n]
 ·simp
theorem nh {ν:Nu} {aI:Nat} (hn:ν aI=none) {b:aj} {w w':World} {l:Loc} {v v':Value} (hb:bQ (ν.add aI l) l b w') (hB:Below w.heap.size w w') (hl:w.heap.size≤l.aJ)
  (hv:aq (ν.add aI l) v v'):nw ν (ν.add aI l) aI w w' v v' (some b) :=
 ⟨Nu.kh hn,fun id bm=>Nu.iX bm,hv,hB,(fun h=>by cases h),(fun b' bz=>by cases bz; exact ⟨l,Nu.add_same,hb,hl⟩)⟩
theorem yx (w:World) (o:Obj):Below w.heap.size w { w with heap:=w.heap.push o }:=(Below.refl _ w).alloc (Nat.le_refl _) o
theorem Bf:∀ {z l l':List Value},nr z l=some l'→l=z++l'∧∀ v∈z,cJ v=true
 | [],l,l',h=>by simp [nr] at h; exact ⟨by simp [h],fun v hv=>by cases hv⟩
 | .int q n::z,[],l',h=>by simp [nr] at h
 | .int q n::z,x::l,l',h=>by
  cases x <;> simp only [nr] at h <;> try (cases h)
  split at h
  ·rename_i hd;simp only [Bool.and_eq_true,decide_eq_true_eq] at hd;obtain ⟨rfl,rfl⟩:=hd;obtain ⟨h1,J⟩:=Bf h;exact ⟨by rw [h1]; rfl,fun v hv=>(List.mem_cons.1 hv).elim (fun e=>by rw [e]; rfl) (fun e=>J v e)⟩
  ·cases h
 | .bool b::z,[],l',h=>by simp [nr] at h
 | .bool b::z,x::l,l',h=>by
  cases x <;> simp only [nr] at h <;> try (cases h)
  split at h
  ·rename_i hd;have hd:=eq_of_beq hd;subst hd;obtain ⟨h1,J⟩:=Bf h;exact ⟨by rw [h1]; rfl,fun v hv=>(List.mem_cons.1 hv).elim (fun e=>by rw [e]; rfl) (fun e=>J v e)⟩
  ·cases h
 | .string s::z,[],l',h=>by simp [nr] at h
 | .string s::z,x::l,l',h=>by
  cases x <;> simp only [nr] at h <;> try (cases h)
  split at h
  ·rename_i s' _ hd;simp only [Bool.and_eq_true] at hd;have e1:=Nat.eq_of_beq_eq_true hd.1;have e2:=Nat.eq_of_beq_eq_true hd.2;have e:s=s':=by
    apply ByteArray.ext;apply Array.ext
    ·show s.size=s'.size; omega
    ·intro i h1 J;have:i < s.size:=h1;omega
   subst e;obtain ⟨h1,J⟩:=Bf h;exact ⟨by rw [h1]; rfl,fun v hv=>(List.mem_cons.1 hv).elim (fun e=>by rw [e]; rfl) (fun e=>J v e)⟩
  ·cases h
theorem Lc {z:List Value}:∀ {n:Nat} {l:List Value},zl z n l=true→l.length=n*z.length∧(∀ r,r < n→∀ (j:Nat) v,z[j]?=some v→l[r*z.length+j]?=some v)∧(0 < n→∀ v∈z,cJ v=true)
 | 0,[],_=>⟨by simp,fun r hr=>absurd hr (by omega),fun h=>absurd h (by omega)⟩
 | 0,_::_,h=>by simp [zl] at h
 | n+1,l,h=>by
  simp only [zl] at h
  split at h
  ·rename_i l' he;obtain ⟨h1,J⟩:=Bf he;obtain ⟨h3,h4,_⟩:=Lc h;refine ⟨by rw [h1,List.length_append,h3,Nat.add_mul]; omega,fun r hr j v hv=>?_,fun _=>J⟩
   have hj:j < z.length:=(List.getElem?_eq_some_iff.1 hv).1;rw [h1];cases r with
   | zero=>rw [Nat.zero_mul,Nat.zero_add,List.getElem?_append_left hj]; exact hv
   | succ r =>
    rw [List.getElem?_append_right (by rw [Nat.add_mul]; omega),show (r+1)*z.length+j - z.length=r*z.length+j by rw [Nat.add_mul]; omega]
    exact h4 r (by omega) j v hv
  ·cases h
theorem Xi (hT:∀ t ti,tt t=some ti→aB P t ti) {t:TypeId} (h:Ox tt t aI k):eO P (.alloc t) tmps H aI k:=by
 obtain ⟨ti,ht,h⟩:=cR h;have bd:=hT _ _ ht;obtain ⟨i,hi,_,_,z,hz,iy⟩:=bd.info;have iQ:k (.pointer (some ⟨aI,0,none⟩)) (some (.aO true ti.size [ti.zero]))→eO P (.alloc t) tmps H aI k:=fun h=>by
  refine ⟨_,_,h,fun o ν a w r n ho ha hH hn next Q hN=>jI (w':={ w with heap:=w.heap.push (.cells ⟨ti.zero⟩ t) }) (v':=.pointer (some ⟨w.heap.size,0,none⟩)) (by simp [ho]) ?_ next Q (hN _ _ (ν.add aI ⟨w.heap.size,0,ti.size,1⟩) (nh hn (MW hn bd.len (bd.self ν) bd.one w t) (yx _ _) (Nat.le_refl _) ?_))⟩
  ·simp [execOp,ho,Instr.alloc,wa hi hz,newVar,newRow,iy]
  ·have:=aq.ptr (ν:=ν.add aI ⟨w.heap.size,0,ti.size,1⟩) aI 0 none _ Nu.add_same
   simpa [Loc.at] using this
 split at h
 ·rename_i n e hk;obtain ⟨te,he,h⟩:=cR h;have Dp:=hT _ _ he
  split at h
  ·rename_i pO;rw [Bool.and_eq_true] at pO;obtain ⟨z1,z2,z3⟩:=Lc pO.2;refine ⟨_,_,h,fun o ν a w r nn ho ha hH hn next Q hN=>jI (w':={ w with heap:=w.heap.push (.cells ⟨ti.zero⟩ t) }) (v':=.pointer (some ⟨w.heap.size,0,none⟩)) (by simp [ho]) ?_ next Q (hN _ _ (ν.add aI ⟨w.heap.size,0,te.size,n⟩) (nh hn ?_ (yx _ _) (Nat.le_refl _) ?_))⟩
   ·simp [execOp,ho,Instr.alloc,wa hi hz,newVar,newRow,iy]
   ·have dz:({ w with heap:=w.heap.push (.cells ⟨ti.zero⟩ t) }:World).heap[w.heap.size]?=some (.cells ⟨ti.zero⟩ t (0,0)):=by show (w.heap.push _)[w.heap.size]?=_; simp
    refine ⟨rfl,fun r hr=>Dp.len,fun r hr j v hv=>⟨v,?_,aq.j7 (z3 (by have:r < n:=hr; omega) v (List.mem_of_getElem? hv))⟩,fun _ r hr v hv=>z3 (by have:r < n:=hr; omega) v hv,fun r hr v hv=>Dp.one v hv,fun _ _=>⟨_,_,dz,?_,Nat.le_refl _⟩,(fun r h=>nomatch h),?_⟩
    ·have hr:r < n:=hr;have hv:te.zero[j]?=some v:=hv;have J:=z2 r hr j v hv;simp only [Loc.at,World.cell?,Nat.zero_add];rw [dz];simp only [Option.isSome_none,Bool.false_eq_true,if_false];rw [← Dp.len]
     simpa using J
    ·simp [z1,Dp.len]
    ·show w.heap.size < (w.heap.push _).size
     simp
   ·have:=aq.ptr (ν:=ν.add aI ⟨w.heap.size,0,te.size,n⟩) aI 0 none _ Nu.add_same
    simpa [Loc.at] using this
  ·exact iQ h
 ·exact iQ h
theorem acA (hT:∀ t ti,tt t=some ti→aB P t ti) {t:TypeId} {x:Operand} (h:PN tt tmps t x aI k):eO P (.box t x) tmps H aI k:=by
 obtain ⟨ti,ht,h⟩:=cR h;obtain ⟨v,h,hv⟩:=cQ h;have h:=Bd h;have bd:=hT _ _ ht
 split at h
 ·rename_i he;obtain ⟨h1,J⟩:=yo he;refine ⟨_,_,h,fun o ν a w r n ho ha hH hn next Q hN=>?_⟩
  have hc:=(hv ν a (ha x (by simp [Op.operands]))).cells
  refine jI (w':={ w with heap:=w.heap.push (.cells (a.eval x).cells t) }) (v':=.pointer (some ⟨w.heap.size,0,none⟩)) (by simp [ho]) ?_ next Q (hN _ _ (ν.add aI ⟨w.heap.size,0,ti.size,1⟩) (nh hn (MW hn h1 hc J w t) (yx _ _) (Nat.le_refl _) ?_))
  ·simp [execOp,ho,Instr.box,newVar,newRow]
  ·have:=aq.ptr (ν:=ν.add aI ⟨w.heap.size,0,ti.size,1⟩) aI 0 none _ Nu.add_same
   simpa [Loc.at] using this
 ·exact h.elim
theorem L7 {ag:Bool} {cs:List Value} {k:Value→Prop} (h:Dl ag cs k):k (valOf ag cs):=by
 unfold Dl at h
 split at h
 ·exact h
 ·exact wb h
 ·exact h
theorem Fs {ν:Nu} {ag:Bool} {cs eM:List Value} (h:bf ν cs eM):aq ν (valOf ag cs) (if ag then .agg ⟨eM⟩ else eM.getD 0 undef):=by
 cases ag with
 | true=>exact .agg _ _ h.1 h.2
 | false =>
  cases cs with
  | nil=>rw [h.iW]; exact .undef ν
  | cons v l=>obtain ⟨y,ys,rfl,h1,_⟩:=h.jr; exact h1
theorem Ld {l:Loc} {b:aj} (hb:bQ ν l b w) {row off sz:Nat} {vs:List Value} (hr:row < b.n) (hl:vs.length=sz) (hv:∀ j v,vs[j]?=some v→(b.row row)[off+j]?=some v) :
  ∃ fR,bf ν vs fR∧fR.length=sz∧∀ j v,fR[j]?=some v→w.cell? ((l.at row off).add j)=some v:=by
 have key:∀ (vs:List Value) (off:Nat),(∀ j v,vs[j]?=some v→(b.row row)[off+j]?=some v)→∃ fR,bf ν vs fR∧∀ j v,fR[j]?=some v→w.cell? ((l.at row off).add j)=some v:=by
  intro vs
  induction vs with
  | nil=>exact fun _ _=>⟨[],.nil ν,fun j v hj=>by simp at hj⟩
  | cons v vs ih =>
   intro off hv;obtain ⟨v',h1,J⟩:=hb.cell row hr off v (by have:=hv 0 v rfl; simpa using this)
   obtain ⟨fR,h3,h4⟩:=ih (off+1) (fun j u hu=>by have:=hv (j+1) u (by simpa using hu); rwa [show off+(j+1)=off+1+j by omega] at this)
   refine ⟨v'::fR,.cons J h3,fun j u hu=>?_⟩
   cases j with
   | zero=>rw [Loc.jM]; simp at hu; subst hu; simpa using h1
   | succ j=>have:=h4 j u (by simpa using hu); rw [Loc.jM] at this ⊢; rwa [show off+(j+1)=off+1+j by omega]
 obtain ⟨fR,h1,J⟩:=key vs off hv;exact ⟨fR,h1,by rw [← h1.1,hl],J⟩
theorem NK (hT:∀ t ti,tt t=some ti→aB P t ti) {t:TypeId} {x:Operand} (h:Ht tt tmps H t x k):sR P (.load t x) tmps H k:=by
 obtain ⟨av,h,hv⟩:=cQ h
 split at h
 ·rename_i id row sp;obtain ⟨ti,ht,h⟩:=cR h;obtain ⟨b,hb,h⟩:=gA h;obtain ⟨hr,h⟩:=L4 h;have h:=MU h;obtain ⟨vs,h,hl,fw⟩:=yu h;have h:=L7 h;refine .value (by simp) h fun o ν a w ho ha hH=>?_
  obtain ⟨l,pP,hB⟩:=hH.aJ id b hb;obtain ⟨l',g8,he⟩:=(hv ν a (ha x (by simp [Op.operands]))).n5
  rw [pP] at g8; cases g8;obtain ⟨fR,h1,J,h3⟩:=Ld hB hr hl fw;exact ⟨_,Fs h1,by simp [execOp,ho,Instr.loadAt,he,Instr.sureAddr,Kr (hT _ _ ht) J h3]⟩
 ·exact h.elim
theorem aah (hT:∀ t ti,tt t=some ti→aB P t ti) {t:TypeId} {x:Operand} (h:Ht tt tmps H t x k):eO P (.load t x) tmps H aI k:=(NK hT h).ok
theorem SE (hT:∀ t ti,tt t=some ti→aB P t ti) {t:TypeId} {x:Operand} {f:Nat} (h:La tt tmps t x f k):eO P (.fieldAddr t x f) tmps H aI k:=by
 obtain ⟨av,h,hv⟩:=cQ h
 split at h
 ·rename_i id row sp;obtain ⟨ti,ht,h⟩:=cR h
  split at h
  ·rename_i fs hk;obtain ⟨x',rf,h⟩:=Be h;have h:=MU h;obtain ⟨d,hu,hd⟩:=(hT _ _ ht).under;rw [hk] at hd;obtain ⟨fields,rfl,ba,hf⟩:=hd;have an:f < fields.size:=by rw [ba]; exact (List.getElem?_eq_some_iff.1 rf).1
   have jW:fields[f]?=some fields[f]:=Array.getElem?_eq_getElem an;obtain ⟨h1,J,⟨i,h3,h4⟩,_⟩:=hf f _ _ jW rf;refine .value (by simp) h fun o ν a w ho ha hH=>?_
   obtain ⟨l,hl,he⟩:=(hv ν a (ha x (by simp [Op.operands]))).n5
   refine ⟨.pointer (some (l.at row (sp.getD 0+x'.1))),.ptr _ _ (some _) _ hl,?_⟩;have aE:¬ (i.size=0):=by omega
   simp [execOp,ho,Instr.fieldAt,dB hu,jW,he,Instr.sureAddr,fieldPlace,gn h3,aE,h1,Loc.jM]
  ·exact h.elim
 ·exact h.elim
theorem F0 {P:Program} {f:Field} {x:Nat × Nat × Bool} (hf:yQ P f x) {cs vs:List Value} (hl:vs.length=x.2.1) (hv:∀ j v,vs[j]?=some v→cs[x.1+j]?=some v) (w:World) :
  (part f.type ⟨cs⟩ f.offset).run P w=.ok (if x.2.2 then .agg ⟨vs⟩ else vs.getD 0 undef) w:=by
 obtain ⟨h1,J,⟨i,h3,h4⟩,d,h5,h6⟩:=hf;unfold part;simp only [Sem.run_bind,LZ h5,Result.andThen_ok,Sem.run_ite,h6]
 split
 ·simp only [Sem.run_bind,gn h3,Result.andThen_ok,h1,h4,← hl,Sem.run_pure]
  congr 2
  apply Array.ext';simp only [Array.toList_extract];apply List.ext_getElem?;intro j;by_cases hj:j < vs.length
  ·have:=hv j vs[j] (List.getElem?_eq_getElem hj);simp [List.extract,List.getElem?_take,List.getElem?_drop,hj,this]
  ·rw [List.getElem?_eq_none (by omega:vs.length≤j)]
   simp [List.extract,List.getElem?_take,hj]
 ·cases vs with
  | nil=>simp at hl; omega
  | cons v l =>
   have:=hv 0 v rfl;simp only [Nat.add_zero] at this;simp [h1,this]
theorem Xj (hT:∀ t ti,tt t=some ti→aB P t ti) {t:TypeId} {x:Operand} {f:Nat} (h:Oy tt tmps t x f k):eO P (.field t x f) tmps H aI k:=by
 obtain ⟨av,h,hv⟩:=cQ h
 split at h
 ·rename_i cs;obtain ⟨ti,ht,h⟩:=cR h
  split at h
  ·rename_i fs hk;obtain ⟨x',rf,h⟩:=Be h;obtain ⟨vs,h,hl,fw⟩:=yu h;have h:=L7 h;obtain ⟨d,hu,hd⟩:=(hT _ _ ht).under;rw [hk] at hd;obtain ⟨fields,rfl,ba,hf⟩:=hd;have an:f < fields.size:=by rw [ba]; exact (List.getElem?_eq_some_iff.1 rf).1
   have jW:fields[f]?=some fields[f]:=Array.getElem?_eq_getElem an;have bd:=hf f _ _ jW rf;refine .value (by simp) h fun o ν a w ho ha hH=>?_
   obtain ⟨ys,he,hy⟩:=aq.uE (xs:=cs.toList) (hv ν a (ha x (by simp [Op.operands])))
   -- the same stretch of the real cells
   have aef:∃ fR,bf ν vs fR∧fR.length=x'.2.1∧∀ j v,fR[j]?=some v→ys[x'.1+j]?=some v:=by
    refine ⟨(ys.drop x'.1).take vs.length,⟨?_,fun j a b ha hb=>?_⟩,?_,fun j v hj=>?_⟩
    ·rw [List.length_take,List.length_drop];have:∀ m,m < vs.length→x'.1+m < cs.toList.length:=fun m hm=>(List.getElem?_eq_some_iff.1 (fw m _ (List.getElem?_eq_getElem hm))).1
     have h0:=hy.1;by_cases Ad:vs.length=0
     ·omega
     ·have:=this (vs.length - 1) (by omega); omega
    ·rw [List.getElem?_take,List.getElem?_drop] at hb
     split at hb
     ·exact hy.2 _ a b (fw j a ha) hb
     ·cases hb
    ·rw [List.length_take,List.length_drop,hl];have:∀ m,m < vs.length→x'.1+m < cs.toList.length:=fun m hm=>(List.getElem?_eq_some_iff.1 (fw m _ (List.getElem?_eq_getElem hm))).1
     have h0:=hy.1;have hp:=bd.2.1;have:=this (vs.length - 1) (by omega); omega
    ·rw [List.getElem?_take,List.getElem?_drop] at hj
     split at hj
     ·exact hj
     ·cases hj
   obtain ⟨fR,h1,J,h3⟩:=aef;exact ⟨_,Fs h1,by simp [execOp,ho,Instr.field,dB hu,jW,he,asAgg,F0 bd J h3]⟩
  ·exact h.elim
 ·exact h.elim
theorem UE {x:Operand} {ix:Nat} (h:FY tmps x ix k):eO P (.extract x ix) tmps H aI k:=by
 obtain ⟨v,h,hv⟩:=cQ h
 split at h
 ·rename_i vs;obtain ⟨u,h1,J⟩:=oZ h;refine .value (by simp) J fun o ν a w ho ha hH=>?_
  obtain ⟨ys,he,hy⟩:=aq.nY (xs:=vs.toList) (hv ν a (ha x (by simp [Op.operands])))
  obtain ⟨u',h3,h4⟩:=hy.get h1;exact ⟨_,h4,by simp [execOp,ho,he,Instr.extract,h3]⟩
 ·exact h.elim
theorem Tf {fn:Fn} {f c:Array Operand} (h:L5 tmps fn f.toList c.toList k):eO P (.makeFunc fn f c) tmps H aI k:=by
 obtain ⟨vs,h,h1⟩:=Br h;obtain ⟨us,h,J⟩:=Br h;refine .value (by simp) h fun o ν a w ho ha hH=>?_
 have h1:=h1 ν a (fun x hx=>ha x (by simp [Op.operands]; exact .inl (by simpa using hx)))
 have J:=J ν a (fun x hx=>ha x (by simp [Op.operands]; exact .inr (by simpa using hx)))
 refine ⟨.func fn ⟨f.toList.map a.eval⟩ ⟨c.toList.map a.eval⟩,.func fn _ _ _ _ h1.1 h1.2 J.1 J.2,?_⟩;simp only [execOp,ho,Instr.makeFunc];have e1:f.map a.eval=⟨f.toList.map a.eval⟩:=by apply Array.ext'; simp
 have e2:c.map a.eval=⟨c.toList.map a.eval⟩:=by apply Array.ext'; simp
 rw [e1,e2]; rfl
theorem aeg {op:UnOp} {t:TypeId} {x:Operand} (h:QF tmps op x k):eO P (.unOp op t x) tmps H aI k:=by
 obtain ⟨v,h,hv⟩:=cQ h
 split at h
 ·refine .value (by simp) h fun o ν a w ho ha hH=>⟨_,.int _ _,?_⟩
  have hv:=(hv ν a (ha x (by simp [Op.operands]))).fJ
  simp [execOp,ho,hv,Op.unary,Op.intArith]
 ·refine .value (by simp) h fun o ν a w ho ha hH=>⟨_,.bool _,?_⟩
  have hv:=(hv ν a (ha x (by simp [Op.operands]))).kc
  simp [execOp,ho,hv,Op.unary]
 ·rename_i q m
  split at h
  ·rename_i u hu;have h:=wb h
   split at h
   ·rename_i hs;refine .value (by simp) h fun o ν a w ho ha hH=>⟨_,aq.j7 hs,?_⟩
    have hv:=(hv ν a (ha x (by simp [Op.operands]))).fJ
    simp [execOp,ho,hv,Op.unary,hu]
   ·exact h.elim
  ·exact h.elim
 ·exact h.elim
end
open Go Go.RowKit
section
variable {P:Program} {tt:TT} {w:World} {ν:Nu} {aI:Nat} {k:QK} {tmps:List Value} {H:aA}
theorem aq.ua {ν:Nu} {id row m c:Nat} {x:Value} (h:aq ν (.slice (some ⟨id,row,none⟩) m c) x) :
  (∃ l c',ν id=some l∧(c'=c∨c=aM)∧m≤c'∧row+c'≤l.cap∧x=.slice (some (l.at row 0)) m c')∨(m=0∧(0=c∨c=aM)∧∃ b,x=.slice (some b) 0 0):=by
 cases h with
 | slice _ _ _ _ c' l h hc hn hr=>exact .inl ⟨l,c',h,hc,hn,hr,rfl⟩
 | void _ _ _ b hc=>exact .inr ⟨rfl,hc,b,rfl⟩
theorem aq.OB {ν:Nu} {id row b0 m c:Nat} {x:Value} (h:aq ν (.slice (some ⟨id,row,some b0⟩) m c) x) :
  (∃ l c',ν id=some l∧b0≤c'∧m≤c'∧row+c'≤l.cap∧x=.slice (some (l.at row 0)) m c')∨(m=0∧b0=0∧∃ b,x=.slice (some b) 0 0):=by
 cases h with
 | mh _ _ _ _ c' l h hm hn hr=>exact .inl ⟨l,c',h,hm,hn,hr,rfl⟩
 | kZ _ _ a=>exact .inr ⟨rfl,rfl,a,rfl⟩
theorem aq.Xk {ν:Nu} {id row b0 m c:Nat} {x:Value} (h:aq ν (.slice (some ⟨id,row,some b0⟩) m c) x) :
  (∃ l c',ν id=some l∧b0≤c'∧m≤c'∧row+c'≤l.cap∧c=aM∧x=.slice (some (l.at row 0)) m c')∨(m=0∧b0=0∧c=aM∧∃ b,x=.slice (some b) 0 0):=by
 cases h with
 | mh _ _ _ _ c' l h hm hn hr=>exact .inl ⟨l,c',h,hm,hn,hr,rfl,rfl⟩
 | kZ _ _ a=>exact .inr ⟨rfl,rfl,rfl,a,rfl⟩
theorem aq.CB {ν:Nu} {id row m c:Nat} {sp:Option Nat} {x:Value} (h:aq ν (.slice (some ⟨id,row,sp⟩) m c) x) :
  (∃ l c',ν id=some l∧m≤c'∧row+c'≤l.cap∧x=.slice (some (l.at row 0)) m c')∨(m=0∧∃ b,x=.slice (some b) 0 0):=by
 cases h with
 | slice _ _ _ _ c' l h hc hn hr=>exact .inl ⟨l,c',h,hn,hr,rfl⟩
 | void _ _ _ b hc=>exact .inr ⟨rfl,b,rfl⟩
 | mh _ _ _ _ c' l h hm hn hr=>exact .inl ⟨l,c',h,hn,hr,rfl⟩
 | kZ _ _ a=>exact .inr ⟨rfl,a,rfl⟩
theorem aq.qi {ν:Nu} {x:Value} (h:aq ν (.slice none 0 0) x):x=.slice none 0 0:=by cases h; rfl
theorem mE {x:Option Operand} {d:Int} {k:Int→Prop} (h:lW tmps x d k):∃ n,k n∧∀ (ν:Nu) (a:Act),(∀ y∈x.toArray,fj ν tmps a y)→(x=none∧n=d)∨∃ q,x.map a.eval=some (.int q n):=by
 cases x with
 | none=>exact ⟨d,h,fun ν a _=>.inl ⟨rfl,rfl⟩⟩
 | some x =>
  obtain ⟨v,h,hv⟩:=cQ h
  split at h
  ·rename_i q n;exact ⟨n,h,fun ν a ha=>.inr ⟨q,by simp [(hv ν a (ha x (by simp))).fJ]⟩⟩
  ·exact h.elim
theorem wz {q:IntKind} {n:Int} {y:Nat} {code:BoundsCode} (h0:0≤n) (h1:n≤y) (w:World):(Instr.sliceBound (.int q n) y code).run P w=.ok n.toNat w:=by
 simp [Instr.sliceBound,asIntOf,h0,h1]
theorem oY {len cap:Nat} {lo hi mx:Option Value} {l h m:Int} (hl:(lo=none∧l=0)∨∃ q,lo=some (.int q l)) (hh:(hi=none∧h=(len:Int))∨∃ q,hi=some (.int q h))
  (hm:(mx=none∧m=(cap:Int))∨((∃ q,mx=some (.int q m))∧∃ v,hi=some v)) (b0:0≤l) (b1:l≤h) (b2:h≤m) (b3:m≤cap) (g7:Bool) (w:World) :
  (Instr.sliceBounds g7 len cap lo hi mx).run P w=.ok (l.toNat,h.toNat,m.toNat) w:=by
 unfold Instr.sliceBounds;rcases hm with ⟨rfl,rfl⟩ | ⟨⟨q,rfl⟩,v,rfl⟩
 ·rcases hh with ⟨rfl,rfl⟩ | ⟨q,rfl⟩
  ·rcases hl with ⟨rfl,rfl⟩ | ⟨q,rfl⟩
   ·simp
   ·simp [wz (P:=P) (q:=q) (n:=l) (y:=len) b0 (by omega)]
  ·have e:=wz (P:=P) (q:=q) (n:=h) (y:=cap) (code:=if g7 then .sliceAcap else .sliceAlen) (by omega) (by omega) w
   rcases hl with ⟨rfl,rfl⟩ | ⟨q',rfl⟩
   ·simp [e]
   ·simp [e,wz (P:=P) (q:=q') (n:=l) (y:=h.toNat) b0 (by omega)]
 ·rcases hh with ⟨h',_⟩ | ⟨q',h'⟩
  ·cases h'
  ·cases h';have e0:=wz (P:=P) (q:=q) (n:=m) (y:=cap) (code:=if g7 then .slice3Acap else .slice3Alen) (by omega) (by omega) w
   have e:=wz (P:=P) (q:=q') (n:=h) (y:=m.toNat) (code:=.slice3B) (by omega) (by omega) w
   rcases hl with ⟨rfl,rfl⟩ | ⟨q',rfl⟩
   ·simp [e0,e]
   ·simp [e0,e,wz (P:=P) (q:=q') (n:=l) (y:=h.toNat) b0 (by omega)]
theorem Ks (hT:∀ t ti,tt t=some ti→aB P t ti) {t:TypeId} {x:Operand} {lo hi mx:Option Operand} (h:GZ tt tmps H t x lo hi mx k):∃ v,k v none∧∀ (bn:Nu) (w0:World),bT bn H w0→qH P bn (.slice t x lo hi mx) tmps v:=by
 obtain ⟨xv,J,hx⟩:=cQ h;clear h;obtain ⟨ti,ht,h⟩:=cR J;clear J;obtain ⟨d,hu,hd⟩:=(hT _ _ ht).under;have mem:∀ (o:Option Operand) y,(o=lo∨o=hi∨o=mx)→y∈o.toArray→y∈(Op.slice t x lo hi mx).operands:=by
  intro o y ho hy;simp only [Op.operands,Array.mem_append];rcases ho with rfl | rfl | rfl
  ·exact .inl (.inl (.inr hy))
  ·exact .inl (.inr hy)
  ·exact .inr hy
 have u7:x∈(Op.slice t x lo hi mx).operands:=by simp [Op.operands]
 split at h
 ·rename_i s hk;rw [hk] at hd;have hd:d=.string:=hd;subst hd
  split at h
  ·obtain ⟨l,h,hl⟩:=mE h;obtain ⟨hh,h,jz⟩:=mE h;obtain ⟨⟨b0,b1,b2⟩,h⟩:=h;refine ⟨_,h,fun bn w0 hH=>⟨by simp,fun o ν a w hle ho ha=>⟨_,.str _,?_⟩⟩⟩
   have hx:=(hx ν a (ha x u7)).sh;have e1:=hl ν a (fun y hy=>ha y (mem _ y (.inl rfl) hy))
   have e2:=jz ν a (fun y hy=>ha y (mem _ y (.inr (.inl rfl)) hy))
   have:=oY (P:=P) (len:=s.size) (cap:=s.size) (lo:=lo.map a.eval) (hi:=hi.map a.eval) (mx:=none) (l:=l) (h:=hh) (m:=s.size) (e1.imp (fun ⟨p,q⟩=>⟨by rw [p]; rfl,q⟩) (fun x=>x)) (e2.imp (fun ⟨p,q⟩=>⟨by rw [p]; rfl,q⟩) (fun x=>x)) (.inl ⟨rfl,rfl⟩) b0 b1 b2 (Int.le_refl _) false w
   simp [execOp,ho,Instr.sliceAt,dB hu,Instr.slice,hx,this]
  ·exact h.elim
 ·rename_i e id row n c hk;rw [hk] at hd;have hd:d=.slice e:=hd;subst hd;obtain ⟨te,he,J⟩:=cR h;clear h;obtain ⟨b,hb,h⟩:=gA J;clear J;obtain ⟨ei,fx,ji,_⟩:=(hT _ _ he).info
  split at h
  ·rename_i hq;have hq:b.ah=te.size:=Nat.eq_of_beq_eq_true hq
   -- what both forms come to
   have fin:∀ (o:Oper) (ν:Nu) (a:Act) (w:World) (l hh m:Int) (c1:Nat),o.op=.slice t x lo hi mx→(∀ x'∈(Op.slice t x lo hi mx).operands,fj ν tmps a x')→∀ (bn:Nu) (w0:World),bT bn H w0→bn.le ν →
     (∀ (lv hv:Nat) (c':Nat),n≤c'→(c'=c∨c=aM)→∃ mm:Int,(Instr.sliceBounds true n c' (lo.map a.eval) (hi.map a.eval) (mx.map a.eval)).run P w=.ok (l.toNat,hh.toNat,mm.toNat) w∧hh.toNat≤mm.toNat∧mm.toNat≤c'∧(mm.toNat - l.toNat=c1∨c1=aM)) →
     0≤l→l≤hh→hh≤n →
     ∃ v',aq ν (.slice (some ⟨id,eZ row l.toNat,none⟩) (hh.toNat - l.toNat) c1) v'∧(execOp a.eval o).run P w=.ok (.value v') w:=by
    intro o ν a w l hh m c1 ho ha bn w0 hH hle QG b0 b1 b2;obtain ⟨l0,eP,hB⟩:=hH.aJ id b hb;have eP:=hle _ _ eP;rcases (hx ν a (ha x u7)).ua with ⟨lc,c',dH,hc,hn,hr,cm⟩ | ⟨hn,hc,bb,cm⟩
    ·rw [eP] at dH; cases dH;obtain ⟨mm,bC,m1,m2,m3⟩:=QG 0 0 c' hn hc;by_cases hz:mm.toNat=l.toNat
     ·have e0:hh.toNat - l.toNat=0:=by omega
      refine ⟨.slice (some (l0.at row 0)) 0 0,?_,?_⟩
      ·rw [e0]; exact .void _ _ _ _ (m3.imp (fun h=>by omega) (fun h=>h))
      ·simp [execOp,ho,Instr.sliceAt,dB hu,Instr.slice,cm,bC,gn fx,hz,e0]
     ·refine ⟨.slice (some (l0.at (row+l.toNat) 0)) (hh.toNat - l.toNat) (mm.toNat - l.toNat),?_,?_⟩
      ·rw [ay]; exact .slice _ _ _ _ _ l0 eP m3 (by omega) (by omega)
      ·have k9:(l0.at row 0).add (l.toNat*ei.size)=l0.at (row+l.toNat) 0:=by
        rw [Loc.jM];unfold Loc.at
        congr 1
        rw [ji,← hq,← hB.ah,Nat.add_mul]; omega
       simp [execOp,ho,Instr.sliceAt,dB hu,Instr.slice,cm,bC,gn fx,hz,k9]
    ·obtain ⟨mm,bC,m1,m2,m3⟩:=QG 0 0 0 (by omega) (hc.imp (fun h=>h) (fun h=>h))
     have e0:hh.toNat - l.toNat=0:=by omega
     have e1:mm.toNat - l.toNat=0:=by omega
     have e2:l.toNat=0:=by omega
     have e3:mm.toNat=0:=by omega
     have e4:hh.toNat=0:=by omega
     refine ⟨.slice (some bb) 0 0,?_,?_⟩
     ·rw [e0]; exact .void _ _ _ _ (m3.imp (fun h=>by omega) (fun h=>h))
     ·rw [e2,e3,e4] at bC;subst hn;simp [execOp,ho,Instr.sliceAt,dB hu,Instr.slice,cm,bC,gn fx]
   split at h
   ·obtain ⟨l,h,hl⟩:=mE h;obtain ⟨hh,h,jz⟩:=mE h;obtain ⟨⟨b0,b1,b2⟩,h⟩:=h;refine ⟨_,h,fun bn w0 hH=>⟨by simp,fun o ν a w hle ho ha=>fin o ν a w l hh 0 _ ho ha bn w0 hH hle (fun _ _ c' hn hc=>⟨c',?_,by omega,by omega,?_⟩) b0 b1 b2⟩⟩
    ·have e1:=hl ν a (fun y hy=>ha y (mem _ y (.inl rfl) hy))
     have e2:=jz ν a (fun y hy=>ha y (mem _ y (.inr (.inl rfl)) hy))
     exact oY (P:=P) (e1.imp (fun ⟨p,q⟩=>⟨by rw [p]; rfl,q⟩) (fun x=>x)) (e2.imp (fun ⟨p,q⟩=>⟨by rw [p]; rfl,q⟩) (fun x=>x)) (.inl ⟨rfl,rfl⟩) b0 b1 (by omega) (Int.le_refl _) true w
    ·unfold uG;by_cases fm:c=aM
     ·right; simp [fm]
     ·left
      have:c'=c:=hc.resolve_right fm;simp [fm,this]
   ·rename_i h0 m0;obtain ⟨l,J,hl⟩:=mE h;clear h;obtain ⟨hv,h,jz⟩:=cQ J;clear J;obtain ⟨mv,J,hm⟩:=cQ h;clear h;have h:=J;clear J
    split at h
    ·rename_i q1 hh q2 m;obtain ⟨⟨b0,b1,b2,b3⟩,h⟩:=h;refine ⟨_,h,fun bn w0 hH=>⟨by simp,fun o ν a w hle ho ha=>fin o ν a w l hh m _ ho ha bn w0 hH hle (fun _ _ c' hn hc=>⟨m,?_,by omega,by omega,.inl rfl⟩) b0 b1 (by omega)⟩⟩
     have e1:=hl ν a (fun y hy=>ha y (mem _ y (.inl rfl) hy))
     have e2:=(jz ν a (ha h0 (mem _ h0 (.inr (.inl rfl)) (by simp)))).fJ
     have e3:=(hm ν a (ha m0 (mem _ m0 (.inr (.inr rfl)) (by simp)))).fJ
     exact oY (P:=P) (e1.imp (fun ⟨p,q⟩=>⟨by rw [p]; rfl,q⟩) (fun x=>x)) (.inr ⟨q1,by simp [e2]⟩)
      (.inr ⟨⟨q2,by simp [e3]⟩,_,rfl⟩) b0 b1 (by omega) (by omega) true w
    ·exact h.elim
   ·exact h.elim
  ·exact h.elim
 ·rename_i e id row b0 n c hk;rw [hk] at hd;have hd:d=.slice e:=hd;subst hd;obtain ⟨te,he,J⟩:=cR h;clear h;obtain ⟨b,hb,h⟩:=gA J;clear J;obtain ⟨ei,fx,ji,_⟩:=(hT _ _ he).info
  split at h
  ·rename_i hq;have hq:b.ah=te.size:=Nat.eq_of_beq_eq_true hq
   split at h
   ·obtain ⟨l,h,hl⟩:=mE h;obtain ⟨hh,h,jz⟩:=mE h;obtain ⟨⟨k0,k1,k2⟩,h⟩:=h;refine ⟨_,h,fun bn w0 hH=>⟨by simp,fun o ν a w hle ho ha=>?_⟩⟩
    obtain ⟨l0,eP,hB⟩:=hH.aJ id b hb;have eP:=hle _ _ eP;have e1:=hl ν a (fun y hy=>ha y (mem _ y (.inl rfl) hy))
    have e2:=jz ν a (fun y hy=>ha y (mem _ y (.inr (.inl rfl)) hy))
    rcases (hx ν a (ha x u7)).OB with ⟨lc,c',dH,pQ,hn,hr,cm⟩ | ⟨hn,jk,bb,cm⟩
    ·rw [eP] at dH; cases dH;have bC:=oY (P:=P) (len:=n) (cap:=c') (lo:=lo.map a.eval) (hi:=hi.map a.eval) (mx:=none) (l:=l) (h:=hh) (m:=c') (e1.imp (fun ⟨p,q⟩=>⟨by rw [p]; rfl,q⟩) (fun x=>x)) (e2.imp (fun ⟨p,q⟩=>⟨by rw [p]; rfl,q⟩) (fun x=>x)) (.inl ⟨rfl,rfl⟩) k0 k1 (by omega) (Int.le_refl _) true w
     rw [Int.toNat_natCast] at bC;by_cases hz:c'=l.toNat
     ·have e0:hh.toNat - l.toNat=0:=by omega
      have e3:b0 - l.toNat=0:=by omega
      refine ⟨.slice (some (l0.at row 0)) 0 0,?_,?_⟩
      ·rw [e0,e3]; exact .kZ _ _ _
      ·simp [execOp,ho,Instr.sliceAt,dB hu,Instr.slice,cm,bC,gn fx,hz.symm,← hz]
       first | done | omega
     ·refine ⟨.slice (some (l0.at (row+l.toNat) 0)) (hh.toNat - l.toNat) (c' - l.toNat),?_,?_⟩
      ·rw [ay]; exact .mh _ _ _ _ _ l0 eP (by omega) (by omega) (by omega)
      ·have k9:(l0.at row 0).add (l.toNat*ei.size)=l0.at (row+l.toNat) 0:=by
        rw [Loc.jM];unfold Loc.at
        congr 1
        rw [ji,← hq,← hB.ah,Nat.add_mul]; omega
       simp [execOp,ho,Instr.sliceAt,dB hu,Instr.slice,cm,bC,gn fx,hz,k9]
    ·have bC:=oY (P:=P) (len:=n) (cap:=0) (lo:=lo.map a.eval) (hi:=hi.map a.eval) (mx:=none) (l:=l) (h:=hh) (m:=(0:Nat)) (e1.imp (fun ⟨p,q⟩=>⟨by rw [p]; rfl,q⟩) (fun x=>x)) (e2.imp (fun ⟨p,q⟩=>⟨by rw [p]; rfl,q⟩) (fun x=>x)) (.inl ⟨rfl,rfl⟩) k0 k1 (by omega) (Int.le_refl _) true w
     have e2:l.toNat=0:=by omega
     have e4:hh.toNat=0:=by omega
     refine ⟨.slice (some bb) 0 0,?_,?_⟩
     ·rw [e4,e2,jk]; exact .kZ _ _ _
     ·rw [e2,e4] at bC;subst hn;simp [execOp,ho,Instr.sliceAt,dB hu,Instr.slice,cm,bC,gn fx]
   ·rename_i h0 m0;obtain ⟨l,J,hl⟩:=mE h;clear h;obtain ⟨hv,h,jz⟩:=cQ J;clear J;obtain ⟨mv,J,hm⟩:=cQ h;clear h;have h:=J;clear J
    split at h
    ·rename_i q1 hh q2 m;obtain ⟨⟨k0,k1,k2,k3⟩,h⟩:=h;refine ⟨_,h,fun bn w0 hH=>⟨by simp,fun o ν a w hle ho ha=>?_⟩⟩
     obtain ⟨l0,eP,hB⟩:=hH.aJ id b hb;have eP:=hle _ _ eP;have e1:=hl ν a (fun y hy=>ha y (mem _ y (.inl rfl) hy))
     have e2:=(jz ν a (ha h0 (mem _ h0 (.inr (.inl rfl)) (by simp)))).fJ
     have e3:=(hm ν a (ha m0 (mem _ m0 (.inr (.inr rfl)) (by simp)))).fJ
     rcases (hx ν a (ha x u7)).OB with ⟨lc,c',dH,pQ,hn,hr,cm⟩ | ⟨hn,jk,bb,cm⟩
     ·rw [eP] at dH; cases dH;have bC:=oY (P:=P) (len:=n) (cap:=c') (lo:=lo.map a.eval) (hi:=some (a.eval h0)) (mx:=some (a.eval m0)) (l:=l) (h:=hh) (m:=m) (e1.imp (fun ⟨p,q⟩=>⟨by rw [p]; rfl,q⟩) (fun x=>x)) (.inr ⟨q1,by rw [e2]⟩) (.inr ⟨⟨q2,by rw [e3]⟩,_,rfl⟩) k0 k1 (by omega) (by omega) true w
      by_cases hz:m.toNat=l.toNat
      ·have e0:hh.toNat - l.toNat=0:=by omega
       have e4:m.toNat - l.toNat=0:=by omega
       refine ⟨.slice (some (l0.at row 0)) 0 0,?_,?_⟩
       ·rw [e0,e4]; exact .void _ _ _ _ (.inl rfl)
       ·simp [execOp,ho,Instr.sliceAt,dB hu,Instr.slice,cm,bC,gn fx,hz,e0]
      ·refine ⟨.slice (some (l0.at (row+l.toNat) 0)) (hh.toNat - l.toNat) (m.toNat - l.toNat),?_,?_⟩
       ·rw [ay]; exact .slice _ _ _ _ _ l0 eP (.inl rfl) (by omega) (by omega)
       ·have k9:(l0.at row 0).add (l.toNat*ei.size)=l0.at (row+l.toNat) 0:=by
         rw [Loc.jM];unfold Loc.at
         congr 1
         rw [ji,← hq,← hB.ah,Nat.add_mul]; omega
        simp [execOp,ho,Instr.sliceAt,dB hu,Instr.slice,cm,bC,gn fx,hz,k9]
     ·have bC:=oY (P:=P) (len:=n) (cap:=0) (lo:=lo.map a.eval) (hi:=some (a.eval h0)) (mx:=some (a.eval m0)) (l:=l) (h:=hh) (m:=m) (e1.imp (fun ⟨p,q⟩=>⟨by rw [p]; rfl,q⟩) (fun x=>x)) (.inr ⟨q1,by rw [e2]⟩) (.inr ⟨⟨q2,by rw [e3]⟩,_,rfl⟩) k0 k1 (by omega) (by omega) true w
      have e5:l.toNat=0:=by omega
      have e6:hh.toNat=0:=by omega
      have e7:m.toNat=0:=by omega
      refine ⟨.slice (some bb) 0 0,?_,?_⟩
      ·rw [e5,e6,e7]; exact .void _ _ _ _ (.inl rfl)
      ·rw [e5,e6,e7] at bC;subst hn;simp [execOp,ho,Instr.sliceAt,dB hu,Instr.slice,cm,bC,gn fx]
    ·exact h.elim
   ·exact h.elim
  ·exact h.elim
 ·rename_i n e id row hk;rw [hk] at hd;have hd:d=.array n e:=hd;subst hd;obtain ⟨te,he,J⟩:=cR h;clear h;obtain ⟨b,hb,h⟩:=gA J;clear J;obtain ⟨ei,fx,ji,_⟩:=(hT _ _ he).info
  split at h
  ·rename_i hq;have hq:b.ah=te.size:=Nat.eq_of_beq_eq_true hq
   split at h
   ·obtain ⟨l,h,hl⟩:=mE h;obtain ⟨hh,h,jz⟩:=mE h;obtain ⟨⟨b0,b1,b2,b3,b4⟩,h⟩:=h;refine ⟨_,h,fun bn w0 hH=>⟨by simp,fun o ν a w hle ho ha=>?_⟩⟩
    obtain ⟨l0,eP,hB⟩:=hH.aJ id b hb;have eP:=hle _ _ eP;obtain ⟨lp,QH,cm⟩:=(hx ν a (ha x u7)).n5;rw [eP] at QH; cases QH;have cm:a.eval x=.pointer (some (l0.at row 0)):=cm;obtain ⟨_,_,_,_,fL⟩:=hB.own (aj.cZ b4).1 (aj.cZ b4).2;have e1:=hl ν a (fun y hy=>ha y (mem _ y (.inl rfl) hy))
    have e2:=jz ν a (fun y hy=>ha y (mem _ y (.inr (.inl rfl)) hy))
    have bC:=oY (P:=P) (len:=n) (cap:=n) (lo:=lo.map a.eval) (hi:=hi.map a.eval) (mx:=none) (l:=l) (h:=hh) (m:=n) (e1.imp (fun ⟨p,q⟩=>⟨by rw [p]; rfl,q⟩) (fun x=>x)) (e2.imp (fun ⟨p,q⟩=>⟨by rw [p]; rfl,q⟩) (fun x=>x)) (.inl ⟨rfl,rfl⟩) b0 b1 b2 (Int.le_refl _) false w
    rw [Int.toNat_natCast] at bC;by_cases hz:n=l.toNat
    ·have e0:hh.toNat - l.toNat=0:=by omega
     have e3:n - l.toNat=0:=by omega
     refine ⟨.slice (some (l0.at row 0)) 0 0,?_,?_⟩
     ·rw [e0,e3]; exact .void _ _ _ _ (.inl rfl)
     ·simp [execOp,ho,Instr.sliceAt,dB hu,Instr.sureAddr,cm,bC,gn fx,hz.symm,← hz,e0]
      first | done | omega
    ·refine ⟨.slice (some (l0.at (row+l.toNat) 0)) (hh.toNat - l.toNat) (n - l.toNat),?_,?_⟩
     ·rw [ay]; exact .slice _ _ _ _ _ l0 eP (.inl rfl) (by omega) (by omega)
     ·have k9:(l0.at row 0).add (l.toNat*ei.size)=l0.at (row+l.toNat) 0:=by
       rw [Loc.jM];unfold Loc.at
       congr 1
       rw [ji,← hq,← hB.ah,Nat.add_mul]; omega
      simp [execOp,ho,Instr.sliceAt,dB hu,Instr.sureAddr,cm,bC,gn fx,hz,k9]
   ·exact h.elim
  ·exact h.elim
 ·rename_i e hk;rw [hk] at hd;have hd:d=.slice e:=hd;subst hd;obtain ⟨te,he,J⟩:=cR h;clear h;obtain ⟨ei,fx,ji,_⟩:=(hT _ _ he).info
  split at J
  ·obtain ⟨l,h,hl⟩:=mE J;obtain ⟨hh,h,jz⟩:=mE h;obtain ⟨⟨b0,b1,b2⟩,h⟩:=h;refine ⟨_,h,fun bn w0 hH=>⟨by simp,fun o ν a w hle ho ha=>⟨_,.iL,?_⟩⟩⟩
   have hx:=(hx ν a (ha x u7)).qi;have e1:=hl ν a (fun y hy=>ha y (mem _ y (.inl rfl) hy))
   have e2:=jz ν a (fun y hy=>ha y (mem _ y (.inr (.inl rfl)) hy))
   have:=oY (P:=P) (len:=0) (cap:=0) (lo:=lo.map a.eval) (hi:=hi.map a.eval) (mx:=none) (l:=l) (h:=hh) (m:=0) (e1.imp (fun ⟨p,q⟩=>⟨by rw [p]; rfl,q⟩) (fun x=>x)) (e2.imp (fun ⟨p,q⟩=>⟨by rw [p]; rfl,q⟩) (fun x=>x)) (.inl ⟨rfl,rfl⟩) b0 b1 b2 (by omega) true w
   rw [show l.toNat=0 by omega,show hh.toNat=0 by omega] at this
   simp [execOp,ho,Instr.sliceAt,dB hu,Instr.slice,hx,this,gn fx]
  ·rename_i h0 m0;obtain ⟨l,h,hl⟩:=mE J;clear J;obtain ⟨hv,J,jz⟩:=cQ h;clear h;obtain ⟨mv,h,hm⟩:=cQ J;clear J
   split at h
   ·rename_i q1 hh q2 m;obtain ⟨⟨b0,b1,b2,b3⟩,h⟩:=h;refine ⟨_,h,fun bn w0 hH=>⟨by simp,fun o ν a w hle ho ha=>⟨_,.iL,?_⟩⟩⟩
    have hx:=(hx ν a (ha x u7)).qi;have e1:=hl ν a (fun y hy=>ha y (mem _ y (.inl rfl) hy))
    have e2:=(jz ν a (ha h0 (mem _ h0 (.inr (.inl rfl)) (by simp)))).fJ
    have e3:=(hm ν a (ha m0 (mem _ m0 (.inr (.inr rfl)) (by simp)))).fJ
    have:=oY (P:=P) (len:=0) (cap:=0) (lo:=lo.map a.eval) (hi:=some (a.eval h0)) (mx:=some (a.eval m0)) (l:=l) (h:=hh) (m:=m) (e1.imp (fun ⟨p,q⟩=>⟨by rw [p]; rfl,q⟩) (fun x=>x)) (.inr ⟨q1,by rw [e2]⟩)
     (.inr ⟨⟨q2,by rw [e3]⟩,_,rfl⟩) b0 b1 b2 (by omega) true w
    rw [show l.toNat=0 by omega,show hh.toNat=0 by omega,show m.toNat=0 by omega] at this
    simp [execOp,ho,Instr.sliceAt,dB hu,Instr.slice,hx,this,gn fx]
   ·exact h.elim
  ·exact J.elim
 ·exact h.elim
theorem Xl (hT:∀ t ti,tt t=some ti→aB P t ti) {t:TypeId} {x:Operand} {lo hi mx:Option Operand} (h:GZ tt tmps H t x lo hi mx k):eO P (.slice t x lo hi mx) tmps H aI k:=by
 obtain ⟨v,hk,hp⟩:=Ks hT h;exact .value (by simp) hk fun o ν a w ho ha hH=>(hp ν w hH).2 o ν a w ν.le_refl ho ha
end
open Go Go.RowKit
section
variable {P:Program} {tt:TT} {Φ:zk} {o:Oper} {a:Act} {w:World} {ν:Nu} {aI:Nat} {k:QK} {tmps:List Value} {H:aA}
theorem aq.acB {ν:Nu} {b:Option Addr} {m c:Nat} {z:Value} (h:aq ν (.slice b m c) z):∃ b' c',z=.slice b' m c':=by cases h <;> exact ⟨_,_,rfl⟩
theorem aq.rY {ν:Nu} {fn:Fn} {x y:Array Value} {z:Value} (h:aq ν (.func fn x y) z):∃ ys dc,z=.func fn ⟨ys⟩ ⟨dc⟩∧bf ν x.toList ys∧bf ν y.toList dc:=by
 cases h with | func _ xs ys nL dc h1 J h3 h4=>exact ⟨ys,dc,rfl,⟨h1,J⟩,⟨h3,h4⟩⟩
theorem Kt (hT:∀ t ti,tt t=some ti→aB P t ti) {t:TypeId} {x ix:Operand} (h:E6 tt tmps H t x ix k):sR P (.indexAddr t x ix) tmps H k:=by
 obtain ⟨xv,J,hx⟩:=cQ h;clear h;obtain ⟨iv,h,hi⟩:=cQ J;clear J
 split at h
 ·rename_i q i;obtain ⟨ti,ht,J⟩:=cR h;clear h;have h:=J;clear J;obtain ⟨d,hu,hd⟩:=(hT _ _ ht).under
  split at h
  ·rename_i e hk;rw [hk] at hd;have hd:d=.slice e:=hd;subst hd
   split at h
   ·rename_i id row m c;obtain ⟨te,he,h⟩:=cR h;obtain ⟨b,hb,h⟩:=gA h;obtain ⟨⟨h0,h1⟩,h⟩:=h
    split at h
    ·rename_i hq;have hq:b.ah=te.size:=Nat.eq_of_beq_eq_true hq;obtain ⟨ei,fx,ji,_⟩:=(hT _ _ he).info;rw [ay] at h;refine .value (by simp) h fun o ν a w ho ha hH=>?_
     have hi:=(hi ν a (ha ix (by simp [Op.operands]))).fJ
     obtain ⟨l0,eP,hB⟩:=hH.aJ id b hb;rcases (hx ν a (ha x (by simp [Op.operands]))).ua with ⟨l,c',hl,hc,hm,hr,cm⟩ | ⟨hm,_⟩
     ·rw [eP] at hl; cases hl;refine ⟨.pointer (some (l0.at (row+i.toNat) 0)),.ptr _ _ none _ eP,?_⟩;have an:i < (m:Int):=h1;have k9:(l0.at row 0).add (i.toNat*ei.size)=l0.at (row+i.toNat) 0:=by
       rw [Loc.jM];unfold Loc.at
       congr 1
       rw [ji,← hq,← hB.ah,Nat.add_mul]; omega
      simp [execOp,ho,Instr.indexAt,hi,asIntOf,dB hu,cm,h0,an,gn fx,k9]
     ·omega
    ·exact h.elim
   ·exact h.elim
  ·rename_i m e hk;rw [hk] at hd;have hd:d=.array m e:=hd;subst hd
   split at h
   ·rename_i id row;obtain ⟨te,he,h⟩:=cR h;obtain ⟨b,hb,h⟩:=gA h;obtain ⟨⟨h0,h1⟩,h⟩:=h;obtain ⟨ei,fx,ji,_⟩:=(hT _ _ he).info
    split at h
    ·rename_i hq;have hq:b.ah=te.size:=Nat.eq_of_beq_eq_true hq;rw [ay] at h;refine .value (by simp) h fun o ν a w ho ha hH=>?_
     have hi:=(hi ν a (ha ix (by simp [Op.operands]))).fJ
     obtain ⟨l0,eP,hB⟩:=hH.aJ id b hb;obtain ⟨l,hl,cm⟩:=(hx ν a (ha x (by simp [Op.operands]))).n5
     rw [eP] at hl; cases hl;refine ⟨.pointer (some (l0.at (row+i.toNat) 0)),.ptr _ _ none _ eP,?_⟩;have k9:(l0.at row 0).add (i.toNat*ei.size)=l0.at (row+i.toNat) 0:=by
      rw [Loc.jM];unfold Loc.at
      congr 1
      rw [ji,← hq,← hB.ah,Nat.add_mul]; omega
     have cm:a.eval x=.pointer (some (l0.at row 0)):=cm;simp [execOp,ho,Instr.indexAt,hi,asIntOf,dB hu,cm,Instr.sureAddr,h0,h1,gn fx,k9]
    ·refine .value (by simp) h fun o ν a w ho ha hH=>?_
     have hi:=(hi ν a (ha ix (by simp [Op.operands]))).fJ
     obtain ⟨l,hl,cm⟩:=(hx ν a (ha x (by simp [Op.operands]))).n5
     have cm:a.eval x=.pointer (some (l.at row 0)):=cm;refine ⟨.pointer (some (l.at row (0+i.toNat*te.size))),.ptr _ _ (some _) _ hl,?_⟩;simp [execOp,ho,Instr.indexAt,hi,asIntOf,dB hu,cm,Instr.sureAddr,h0,h1,gn fx,Loc.jM,ji]
   ·rename_i id row c;obtain ⟨te,he,h⟩:=cR h;obtain ⟨⟨h0,h1⟩,h⟩:=h;obtain ⟨ei,fx,ji,_⟩:=(hT _ _ he).info;refine .value (by simp) h fun o ν a w ho ha hH=>?_
    have hi:=(hi ν a (ha ix (by simp [Op.operands]))).fJ
    obtain ⟨l,hl,cm⟩:=(hx ν a (ha x (by simp [Op.operands]))).n5
    have cm:a.eval x=.pointer (some (l.at row c)):=cm;refine ⟨.pointer (some (l.at row (c+i.toNat*te.size))),.ptr _ _ (some _) _ hl,?_⟩;simp [execOp,ho,Instr.indexAt,hi,asIntOf,dB hu,cm,Instr.sureAddr,h0,h1,gn fx,Loc.jM,ji]
   ·exact h.elim
  ·exact h.elim
 ·exact h.elim
theorem SF (hT:∀ t ti,tt t=some ti→aB P t ti) {t:TypeId} {x ix:Operand} (h:E6 tt tmps H t x ix k):eO P (.indexAddr t x ix) tmps H aI k:=(Kt hT h).ok
theorem Tg (s:ByteArray) (i:Nat) (h:i < s.size):s[i]?=some (s[i]'h)∧((s[i]'h).toNat=b8 s i):=by
 refine ⟨by simp [h],?_⟩
 unfold b8;rw [List.getD_eq_getElem?_getD,Array.getElem?_toList];have:s.data[i]?=some (s[i]'h):=by rw [Array.getElem?_eq_getElem (by simpa using h)]; rfl
 rw [this]; rfl
theorem Xm (hT:∀ t ti,tt t=some ti→aB P t ti) {t:TypeId} {x ix:Operand} (h:Oz tt tmps t x ix k):eO P (.index t x ix) tmps H aI k:=by
 obtain ⟨xv,J,hx⟩:=cQ h;clear h;obtain ⟨iv,h,hi⟩:=cQ J;clear J
 split at h
 ·rename_i q i;obtain ⟨ti,ht,J⟩:=cR h;clear h;have h:=J;clear J;obtain ⟨d,hu,hd⟩:=(hT _ _ ht).under
  split at h
  ·rename_i hk;rw [hk] at hd;have hd:d=.string:=hd;subst hd
   split at h
   ·rename_i s;obtain ⟨⟨h0,h1⟩,h⟩:=h;have an:i.toNat < s.size:=by omega
    obtain ⟨J,h3⟩:=Tg s i.toNat an;refine .value (by simp) h fun o ν a w ho ha hH=>⟨_,.int _ _,?_⟩
    have hi:=(hi ν a (ha ix (by simp [Op.operands]))).fJ
    have hx:=(hx ν a (ha x (by simp [Op.operands]))).sh
    simp [execOp,ho,Instr.index,hi,asIntOf,dB hu,hx,h0,J,h3]
   ·exact h.elim
  ·exact h.elim
 ·exact h.elim
def CC (op:BinOp) (q:IntKind) (a b:Int):Sem Value :=
 match op with
 | .add | .sub | .mul=>Op.intArith op q a b
 | .quo | .rem=>Op.intDiv op q a b
 | .and | .or | .xor | .andNot=>Op.intBits op q a b
 | _=>Op.intCmp op a b
theorem UF (op:BinOp) (t:TypeId) (q:IntKind) (a b:Int) (h1:op≠.shl) (J:op≠.shr):binOp op t (.int q a) (.int q b)=CC op q a b:=by
 cases op <;> first | exact absurd rfl h1 | exact absurd rfl J | (cases q <;> rfl)
theorem binOp_shl (t:TypeId) (q q':IntKind) (a b:Int):binOp .shl t (.int q a) (.int q' b)=Op.shift .shl q a q' b:=rfl
theorem binOp_shr (t:TypeId) (q q':IntKind) (a b:Int):binOp .shr t (.int q a) (.int q' b)=Op.shift .shr q a q' b:=rfl
theorem UG (op:BinOp) (t:TypeId) (x y:Operand) (q q':IntKind) (a b:Int) (w:World):(eqGuard op t x y (.int q a) (.int q' b)).run P w=.ok () w:=by cases op <;> rfl
theorem UH (op:BinOp) (t:TypeId) (x y:Operand) (a b:ByteArray) (w:World):(eqGuard op t x y (.string a) (.string b)).run P w=.ok () w:=by cases op <;> rfl
theorem Th (op:BinOp) (t:TypeId) (x y:Operand) (a b:Bool) (w:World):(eqGuard op t x y (.bool a) (.bool b)).run P w=.ok () w:=by cases op <;> rfl
theorem yR {op:BinOp} {t ty:TypeId} {x y:Operand} (ho:o.op=.binOp op t x y ty) {u v z:Value} (hx:a.eval x=u) (hy:a.eval y=v) (hg:(eqGuard op t x y u v).run P w=.ok () w)
  (hb:(binOp op t u v).run P w=.ok z w):(execOp a.eval o).run P w=.ok (.value z) w:=by
 simp only [execOp,ho,hx,hy,Sem.run_bind,hg,hb,Result.andThen_ok,Sem.run_pure]
theorem CD {op:BinOp} {t:TypeId} {q:IntKind} {x y:Int} (h:O7 op q x y k):∃ z,k z none∧cJ z=true∧∀ w,(CC op q x y).run P w=.ok z w:=by
 cases op <;> first | exact h.elim | skip
 case and=>exact ⟨.int q (q.wrap (BitVec.ofInt q.bits x &&& BitVec.ofInt q.bits y).toNat),h,rfl,fun w=>rfl⟩
 case or=>exact ⟨.int q (q.wrap (BitVec.ofInt q.bits x ||| BitVec.ofInt q.bits y).toNat),h,rfl,fun w=>rfl⟩
 case xor=>exact ⟨.int q (q.wrap (BitVec.ofInt q.bits x ^^^ BitVec.ofInt q.bits y).toNat),h,rfl,fun w=>rfl⟩
 case andNot=>exact ⟨.int q (q.wrap (BitVec.ofInt q.bits x &&& ~~~(BitVec.ofInt q.bits y)).toNat),h,rfl,fun w=>rfl⟩
theorem VL {op:BinOp} {t:TypeId} {q q':IntKind} {x y:Int} (h:Cg op q q' x y k):∃ z,k z none∧cJ z=true∧∀ w,(binOp op t (.int q x) (.int q' y)).run P w=.ok z w:=by
 by_cases rh:op=.shl
 ·subst rh;obtain ⟨h0,h⟩:=By h;exact ⟨_,h,rfl,fun w=>by rw [binOp_shl]; simp [Op.shift,show ¬ y < 0 by omega]⟩
 by_cases DL:op=.shr
 ·subst DL;obtain ⟨h0,h⟩:=By h;exact ⟨_,h,rfl,fun w=>by rw [binOp_shr]; simp [Op.shift,show ¬ y < 0 by omega]⟩
 by_cases hq:q=q'
 ·subst hq;have e:=UF op t q x y rh DL;rw [e];have hd:decide (q=q)=true:=by simp
  cases op <;> first | exact absurd rfl rh | exact absurd rfl DL | skip
  all_goals (unfold Cg at h; rw [hd] at h; dsimp only at h)
  case quo=>obtain ⟨h0,h⟩:=By h; exact ⟨_,h,rfl,fun w=>by simp [CC,Op.intDiv,h0]⟩
  case rem=>obtain ⟨h0,h⟩:=By h; exact ⟨_,h,rfl,fun w=>by simp [CC,Op.intDiv,h0]⟩
  case and=>exact CD (t:=t) h
  case or=>exact CD (t:=t) h
  case xor=>exact CD (t:=t) h
  case andNot=>exact CD (t:=t) h
  all_goals exact ⟨_,h,rfl,fun w=>rfl⟩
 ·have hd:decide (q=q')=false:=by simp [hq]
  cases op <;> first | exact absurd rfl rh | exact absurd rfl DL | (unfold Cg at h; rw [hd] at h; exact h.elim)
theorem VM {op:BinOp} {t:TypeId} {x y:ByteArray} (h:NJ op x y k):∃ z,k z none∧cJ z=true∧∀ w,(binOp op t (.string x) (.string y)).run P w=.ok z w:=by
 cases op <;> first | exact h.elim | exact ⟨_,h,rfl,fun w=>rfl⟩ | skip
 obtain ⟨h0,h⟩:=h;refine ⟨_,h,rfl,fun w=>?_⟩
 have:¬ (((x.size+y.size:Nat):Int) > IntKind.i64.max):=by
  have:IntKind.i64.max=9223372036854775807:=by decide
  rw [this]; omega
 show (Op.stringOp .add x y).run P w=_
 unfold Op.stringOp
 dsimp only
 rw [if_neg this]
 rfl
theorem rZ {t:TypeId} {x y:Value} {b:Bool} (hs:∀ q a,x≠.int q a) (au:∀ s,x≠.string s) (hf:∀ q a,x≠.float q a) (hc:∀ q a b,x≠.complex q a b) (hp:∀ a,x≠.pointer a)
  (h:(Op.equal t x y).run P w=.ok b w):(binOp .eql t x y).run P w=.ok (.bool b) w∧(binOp .neq t x y).run P w=.ok (.bool !b) w:=by
 have e1:binOp .eql t x y=(do pure (.bool (← Op.equal t x y)):Sem Value):=by
  cases x <;> first | exact absurd rfl (hs _ _) | exact absurd rfl (au _) | exact absurd rfl (hf _ _) | exact absurd rfl (hc _ _ _) | exact absurd rfl (hp _) | rfl
 have e2:binOp .neq t x y=(do pure (.bool (!(← Op.equal t x y))):Sem Value):=by
  cases x <;> first | exact absurd rfl (hs _ _) | exact absurd rfl (au _) | exact absurd rfl (hf _ _) | exact absurd rfl (hc _ _ _) | exact absurd rfl (hp _) | rfl
 rw [e1,e2];simp only [Sem.run_bind,h,Result.andThen_ok];exact ⟨rfl,rfl⟩
theorem run_equal_bool {t:TypeId} (hu:P.underlying t=some .bool) (b b':Bool) (w:World):(Op.equal t (.bool b) (.bool b')).run P w=.ok (b == b') w:=by
 show (Op.equalIn (9999+1) t (.bool b) (.bool b')).run P w=_
 rw [Op.equalIn];simp only [Sem.run_bind,dB hu,Result.andThen_ok]
 rfl
theorem UI {ti:TI} {op:BinOp} {t:TypeId} {x y:Bool} (hu:ti.kind=.bool→P.underlying t=some .bool) (h:FZ ti.kind op x y k):∃ z,k z none∧cJ z=true∧∀ w,(binOp op t (.bool x) (.bool y)).run P w=.ok z w:=by
 unfold FZ at h
 split at h
 ·rename_i hk;exact ⟨_,h,rfl,fun w=>(rZ (by simp) (by simp) (by simp) (by simp) (by simp) (run_equal_bool (hu hk) x y w)).1⟩
 ·rename_i hk;exact ⟨_,h,rfl,fun w=>(rZ (by simp) (by simp) (by simp) (by simp) (by simp) (run_equal_bool (hu hk) x y w)).2⟩
 ·exact h.elim
theorem tL:∀ {l m:List Value},eY l m=true→∀ v∈l,cJ v=true
 | [],[],_=>fun v hv=>by simp at hv
 | .bool _::l,.bool _::m,h=>fun v hv=>by
  rcases List.mem_cons.1 hv with e | e
  ·rw [e]; rfl
  ·exact tL (l:=l) (m:=m) h v e
 | .int q _::l,.int q' _::m,h=>fun v hv=>by
  rcases List.mem_cons.1 hv with e | e
  ·rw [e]; rfl
  ·exact tL (l:=l) (m:=m) (by simp only [eY,Bool.and_eq_true] at h; exact h.2) v e
 | .string _::l,.string _::m,h=>fun v hv=>by
  rcases List.mem_cons.1 hv with e | e
  ·rw [e]; rfl
  ·exact tL (l:=l) (m:=m) h v e
theorem bf.j9 {ν:Nu}:∀ {l m:List Value},(∀ v∈l,cJ v=true)→bf ν l m→m=l
 | [],m,_,h=>h.iW
 | v::l,m,hs,h=>by
  obtain ⟨y,ys,rfl,h1,J⟩:=h.jr;rw [h1.j9 (hs v (by simp)),bf.j9 (fun u hu=>hs u (by simp [hu])) J]
theorem VN {eqs:List TypeId} {zero:List Value} {op:BinOp} {t:TypeId} {xs ys:List Value} (hE:∀ t∈eqs,∀ ti,tt t=some ti→xQ P t ti.zero) {ti:TI} (ht:tt t=some ti) (h:Gr eqs t ti.zero op xs ys k) :
  ∃ z,k z none∧cJ z=true∧(∀ v∈xs,cJ v=true)∧(∀ v∈ys,cJ v=true)∧∀ w,(binOp op t (.agg ⟨xs⟩) (.agg ⟨ys⟩)).run P w=.ok z w∧∀ x y,(eqGuard op t x y (.agg ⟨xs⟩) (.agg ⟨ys⟩)).run P w=.ok () w:=by
 unfold Gr at h
 split at h
 ·rename_i hb;simp only [Bool.and_eq_true] at hb;obtain ⟨⟨h1,J⟩,h3⟩:=hb;have hq:=hE t (by simpa using h1) ti ht
  exact ⟨_,h,rfl,tL J,tL h3,fun w=>⟨(rZ (by simp) (by simp) (by simp) (by simp) (by simp) (hq xs ys w J h3).1).1,fun x y=>(hq xs ys w J h3).2 x y _⟩⟩
 ·rename_i hb;simp only [Bool.and_eq_true] at hb;obtain ⟨⟨h1,J⟩,h3⟩:=hb;have hq:=hE t (by simpa using h1) ti ht
  exact ⟨_,h,rfl,tL J,tL h3,fun w=>⟨(rZ (by simp) (by simp) (by simp) (by simp) (by simp) (hq xs ys w J h3).1).2,fun x y=>(hq xs ys w J h3).2 x y _⟩⟩
 ·exact h.elim
theorem SG (op:BinOp) (t:TypeId) (x y:Operand) (a b:Option Addr) (n c n' c':Nat) (w:World):(eqGuard op t x y (.slice a n c) (.slice b n' c')).run P w=.ok () w:=by cases op <;> rfl
theorem aq.UJ {ν:Nu} {a:Option Addr} {n c:Nat} {z:Value} (h:aq ν (.slice a n c) z):∃ a' n' c',z=.slice a' n' c'∧a'.isNone=a.isNone:=by
 cases h with
 | iL=>exact ⟨none,0,0,rfl,rfl⟩
 | slice id row n c c' l h hc hn hr=>exact ⟨_,_,_,rfl,rfl⟩
 | void id row c a hc=>exact ⟨_,_,_,rfl,rfl⟩
 | mh id row m n c' l h hm hn hr=>exact ⟨_,_,_,rfl,rfl⟩
 | kZ id row a=>exact ⟨_,_,_,rfl,rfl⟩
theorem A4 {t e:TypeId} (hu:P.underlying t=some (.slice e)) (a:Option Addr) (n c:Nat) (w:World):(Op.equal t (.slice a n c) (.slice none 0 0)).run P w=.ok a.isNone w:=by
 show (Op.equalIn (9999+1) t (.slice a n c) (.slice none 0 0)).run P w=_
 rw [Op.equalIn];simp only [Sem.run_bind,dB hu,Result.andThen_ok];cases a <;> rfl
theorem VO {ti:TI} {op:BinOp} {t:TypeId} {a:Option Addr} (hu:∀ e,ti.kind=.slice e→P.underlying t=some (.slice e)) (h:Gs ti.kind op a k) :
  ∃ z,k z none∧cJ z=true∧∀ (a':Option Addr) (n c:Nat) w,a'.isNone=a.isNone→(binOp op t (.slice a' n c) (.slice none 0 0)).run P w=.ok z w:=by
 unfold Gs at h
 split at h
 ·rename_i e hk;refine ⟨_,h,rfl,fun a' n c w ha=>?_⟩
  rw [(rZ (by simp) (by simp) (by simp) (by simp) (by simp) (A4 (hu _ hk) a' n c w)).1,ha]; rfl
 ·rename_i e b hk;refine ⟨_,h,rfl,fun a' n c w ha=>?_⟩
  rw [(rZ (by simp) (by simp) (by simp) (by simp) (by simp) (A4 (hu _ hk) a' n c w)).1,ha]; rfl
 ·rename_i e hk;refine ⟨_,h,rfl,fun a' n c w ha=>?_⟩
  rw [(rZ (by simp) (by simp) (by simp) (by simp) (by simp) (A4 (hu _ hk) a' n c w)).2,ha]; rfl
 ·rename_i e b hk;refine ⟨_,h,rfl,fun a' n c w ha=>?_⟩
  rw [(rZ (by simp) (by simp) (by simp) (by simp) (by simp) (A4 (hu _ hk) a' n c w)).2,ha]; rfl
 ·exact h.elim
theorem Le (hT:∀ t ti,tt t=some ti→aB P t ti) {eqs:List TypeId} (hE:∀ t∈eqs,∀ ti,tt t=some ti→xQ P t ti.zero) {op:BinOp} {t ty:TypeId} {x y:Operand} (h:Dm tt eqs tmps op t x y k):∃ v,k v none∧∀ bn,qH P bn (.binOp op t x y ty) tmps v:=by
 obtain ⟨xv,J,hx⟩:=cQ h;clear h;obtain ⟨yv,h,hy⟩:=cQ J;clear J
 split at h
 ·obtain ⟨z,hk,hs,hr⟩:=VL (P:=P) (t:=t) h;refine ⟨_,hk,fun bn=>⟨by simp,fun o ν a w hle ho ha=>⟨_,aq.j7 hs,?_⟩⟩⟩
  exact yR ho (hx ν a (ha x (by simp [Op.operands]))).fJ (hy ν a (ha y (by simp [Op.operands]))).fJ (UG ..) (hr w)
 ·obtain ⟨z,hk,hs,hr⟩:=VM (P:=P) (t:=t) h;refine ⟨_,hk,fun bn=>⟨by simp,fun o ν a w hle ho ha=>⟨_,aq.j7 hs,?_⟩⟩⟩
  exact yR ho (hx ν a (ha x (by simp [Op.operands]))).sh (hy ν a (ha y (by simp [Op.operands]))).sh (UH ..) (hr w)
 ·obtain ⟨ti,ht,h⟩:=cR h;obtain ⟨d,hu,hd⟩:=(hT _ _ ht).under;obtain ⟨z,hk,hs,hr⟩:=UI (P:=P) (t:=t) (fun hk=>by rw [hk] at hd; have hd:d=.bool:=hd; rw [hu,hd]) h
  refine ⟨_,hk,fun bn=>⟨by simp,fun o ν a w hle ho ha=>⟨_,aq.j7 hs,?_⟩⟩⟩
  exact yR ho (hx ν a (ha x (by simp [Op.operands]))).kc (hy ν a (ha y (by simp [Op.operands]))).kc (Th ..) (hr w)
 ·rename_i xs ys;obtain ⟨ti,ht,h⟩:=cR h;obtain ⟨z,hk,hs,h1,J,hr⟩:=VN (xs:=xs.toList) (ys:=ys.toList) (zero:=[]) hE ht h;refine ⟨_,hk,fun bn=>⟨by simp,fun o ν a w hle ho ha=>⟨_,aq.j7 hs,?_⟩⟩⟩
  obtain ⟨nL,s8,ox⟩:=aq.uE (xs:=xs.toList) (hx ν a (ha x (by simp [Op.operands])))
  obtain ⟨dc,g9,gy⟩:=aq.uE (xs:=ys.toList) (hy ν a (ha y (by simp [Op.operands])))
  rw [bf.j9 h1 ox] at s8;rw [bf.j9 J gy] at g9;exact yR ho s8 g9 ((hr w).2 x y) (hr w).1
 ·rename_i b n c;obtain ⟨ti,ht,h⟩:=cR h;obtain ⟨d,hu,hd⟩:=(hT _ _ ht).under;obtain ⟨z,hk,hs,hr⟩:=VO (P:=P) (t:=t) (fun e hk=>by rw [hk] at hd; have hd:d=.slice e:=hd; rw [hu,hd]) h
  refine ⟨_,hk,fun bn=>⟨by simp,fun o ν a w hle ho ha=>⟨_,aq.j7 hs,?_⟩⟩⟩
  obtain ⟨a1,n1,c1,e1,h1⟩:=(hx ν a (ha x (by simp [Op.operands]))).UJ
  have e2:a.eval y=.slice none 0 0:=by
   have J:=hy ν a (ha y (by simp [Op.operands]))
   generalize a.eval y=z at J;cases J
   rfl
  exact yR ho e1 e2 (SG ..) (hr a1 n1 c1 w h1)
 ·exact h.elim
theorem acC (hT:∀ t ti,tt t=some ti→aB P t ti) {eqs:List TypeId} (hE:∀ t∈eqs,∀ ti,tt t=some ti→xQ P t ti.zero) {op:BinOp} {t ty:TypeId} {x y:Operand} (h:Dm tt eqs tmps op t x y k):eO P (.binOp op t x y ty) tmps H aI k:=by
 obtain ⟨v,hk,hp⟩:=Le hT hE (ty:=ty) h;exact .value (by simp) hk fun o ν a w ho ha hH=>(hp ν).2 o ν a w ν.le_refl ho ha
theorem NL {P:Program} {t:TypeId} {ty:TypeId} {d:TypeDesc} (hu:P.underlying t=some d) {x:Value} {m:Int} (w:World)
  (h:(∃ s,d=.string∧x=.string s∧m=s.size)∨(∃ e b n c,d=.slice e∧x=.slice b n c∧m=(n:Int))) :
  (Builtin.len_ #[t] ty #[x]).run P w=.ok (.int .i64 m) w:=by
 rcases h with ⟨s,rfl,rfl,rfl⟩ | ⟨e,b,n,c,rfl,rfl,rfl⟩ <;> simp [Builtin.len_,dB hu,goInt]
theorem OC (hT:∀ t ti,tt t=some ti→aB P t ti) {c:Call} (hc:c.callee=.builtin .len) {t:TypeId} {x:Operand} (hx:c.args=#[x]) (ht:c.argTypes=#[t]) (h:H6 tmps tt t x k):sR P (.call c) tmps H k:=by
 obtain ⟨xv,J,hv⟩:=cQ h;clear h;obtain ⟨ti,IU,h⟩:=cR J;clear J;obtain ⟨d,hu,hd⟩:=(hT _ _ IU).under
 split at h
 ·rename_i s hk;rw [hk] at hd;refine .value (by simp) h fun o ν a w ho ha hH=>⟨_,.int _ _,?_⟩
  have hv:=hv ν a (ha x (by simp [Op.operands,Call.operands,hc,hx]))
  have hr:=NL (P:=P) (ty:=o.type) hu w (.inl ⟨_,hd,hv.sh,rfl⟩);simp [execOp,ho,resolve,hc,hx,ht,invoke,builtin,hr]
 ·rename_i e b m c hk;rw [hk] at hd;refine .value (by simp) h fun o ν a w ho ha hH=>⟨_,.int _ _,?_⟩
  obtain ⟨b',c',he⟩:=(hv ν a (ha x (by simp [Op.operands,Call.operands,hc,hx]))).acB
  have hr:=NL (P:=P) (ty:=o.type) hu w (.inr ⟨_,_,_,_,hd,he,rfl⟩);simp [execOp,ho,resolve,hc,hx,ht,invoke,builtin,hr]
 ·exact h.elim
theorem acD (hT:∀ t ti,tt t=some ti→aB P t ti) {c:Call} (hc:c.callee=.builtin .len) {t:TypeId} {x:Operand} (hx:c.args=#[x]) (ht:c.argTypes=#[t]) (h:H6 tmps tt t x k):eO P (.call c) tmps H aI k:=(OC hT hc hx ht h).ok
theorem acE {c:Call} (hc:c.callee=.builtin .max) {x y:Operand} (hx:c.args=#[x,y]) (h:PO tmps x y k):eO P (.call c) tmps H aI k:=by
 obtain ⟨xv,J,h1⟩:=cQ h;clear h;obtain ⟨yv,h,J⟩:=cQ J
 split at h
 ·refine .value (by simp) h fun o ν a w ho ha hH=>⟨_,.int _ _,?_⟩
  have h1:=(h1 ν a (ha x (by simp [Op.operands,Call.operands,hc,hx]))).fJ
  have J:=(J ν a (ha y (by simp [Op.operands,Call.operands,hc,hx]))).fJ
  simp [execOp,ho,resolve,hc,hx,invoke,builtin,Builtin.max_,h1,J,Builtin.max2]
 ·exact h.elim
theorem acF {c:Call} (hc:c.callee=.builtin .min) {x y:Operand} (hx:c.args=#[x,y]) (h:PQ tmps x y k):eO P (.call c) tmps H aI k:=by
 obtain ⟨xv,J,h1⟩:=cQ h;clear h;obtain ⟨yv,h,J⟩:=cQ J
 split at h
 ·refine .value (by simp) h fun o ν a w ho ha hH=>⟨_,.int _ _,?_⟩
  have h1:=(h1 ν a (ha x (by simp [Op.operands,Call.operands,hc,hx]))).fJ
  have J:=(J ν a (ha y (by simp [Op.operands,Call.operands,hc,hx]))).fJ
  simp [execOp,ho,resolve,hc,hx,invoke,builtin,Builtin.min_,h1,J,Builtin.min2]
 ·exact h.elim
theorem Ft {fs:List (Nat × Nat × Bool)}
  {CE:Nat→Option (Nat × Nat)} (hp:∀ (i:Nat) x,fs[i]?=some x→CE i=some (x.1,x.2.1)) :
  ∀ {ps:List (Nat × Operand)} {cs:List Value} {k:List Value→Prop},CY tmps fs ps cs k →
  ∃ ds,k ds∧∀ (ν:Nu) (a:Act),(∀ p∈ps,fj ν tmps a p.2)→∀ (eM:List Value),bf ν cs eM→∃ s9,bf ν ds s9∧Instr.fill CE ⟨eM⟩ (ps.map fun p=>(p.1,a.eval p.2))=some ⟨s9⟩
 | [],cs,k,h=>⟨cs,h,fun ν a _ eM hc=>⟨eM,hc,rfl⟩⟩
 | p::ps,cs,k,h=>by
  obtain ⟨v,J,hv⟩:=cQ h;clear h;have h:=Bd J;clear J;obtain ⟨x,hx,J⟩:=Be h;clear h
  split at J
  ·rename_i bd;obtain ⟨hl,h1⟩:=yo bd;obtain ⟨cs2,h3,g8,hle,pR,xR⟩:=yC J;obtain ⟨ds,k1,k0⟩:=Ft hp h3;refine ⟨ds,k1,fun ν a ha eM hc=>?_⟩
   have vt:=(hv ν a (ha p (by simp))).cells
   -- the same cells written over in the real struct
   have Hv:∀ (us:List Value) (o:Nat) (acc:List Value) (m:Nat),((us.zipIdx m).foldl (fun cs (c,j)=>cs.setIfInBounds (o+j) c) (⟨acc⟩:Array Value)).size=acc.length ∧
     ∀ j,((us.zipIdx m).foldl (fun cs (c,j)=>cs.setIfInBounds (o+j) c) (⟨acc⟩:Array Value))[j]?=if j < acc.length∧o+m≤j∧j < o+m+us.length then us[j - (o+m)]? else acc[j]?:=by
    intro us
    induction us with
    | nil =>
     intro o acc m;refine ⟨by simp,fun j=>?_⟩
     simp
     intros
     omega
    | cons u us ih =>
     intro o acc m;simp only [List.zipIdx_cons,List.foldl_cons];have e:(⟨acc⟩:Array Value).setIfInBounds (o+m) u=⟨acc.set (o+m) u⟩:=by apply Array.ext'; simp
     rw [e];obtain ⟨i1,i2⟩:=ih o (acc.set (o+m) u) (m+1);refine ⟨by rw [i1]; simp,fun j=>?_⟩
     rw [i2 j];simp only [List.length_set,List.length_cons];by_cases hj:j < acc.length
     ·by_cases h1:o+(m+1)≤j∧j < o+(m+1)+us.length
      ·rw [if_pos ⟨hj,h1⟩,if_pos ⟨hj,by omega,by omega⟩]
       rw [show j - (o+m)=(j - (o+(m+1)))+1 by omega]; simp
      ·rw [if_neg (by omega)]
       by_cases J:j=o+m
       ·subst J;rw [if_pos ⟨hj,by omega,by omega⟩]
        simp [List.getElem?_set,hj]
       ·rw [if_neg (by omega),List.getElem?_set_ne (by omega)]
     ·rw [if_neg (by omega),if_neg (by omega)]
      rw [List.getElem?_eq_none (by simp; omega),List.getElem?_eq_none (by omega)]
   obtain ⟨f1,f2⟩:=Hv (a.eval p.2).cells.toList x.1 eM 0;generalize H9:(((a.eval p.2).cells.toList.zipIdx 0).foldl (fun cs (c,j)=>cs.setIfInBounds (x.1+j) c) (⟨eM⟩:Array Value))=G at f1 f2
   have Ia:bf ν cs2 G.toList:=by
    refine ⟨by rw [g8,hc.1]; simpa using f1.symm,fun j y z hy hz=>?_⟩
    rw [Array.getElem?_toList,f2 j] at hz
    split at hz
    ·rename_i hj;have an:j - (x.1+0) < v.cells.toList.length:=by rw [vt.1]; omega
     have:=pR (j - (x.1+0)) _ (List.getElem?_eq_getElem an);rw [show x.1+(j - (x.1+0))=j by omega] at this
     rw [this] at hy; cases hy;exact vt.2 _ _ _ (List.getElem?_eq_getElem an) hz
    ·rename_i hj;have acG:=xR j (by
      have IW:j < eM.length:=(List.getElem?_eq_some_iff.1 hz).1;have:=vt.1;omega)
     rw [acG] at hy;exact hc.2 _ _ _ hy hz
   obtain ⟨s9,k2,k3⟩:=k0 ν a (fun q hq=>ha q (by simp [hq])) _ Ia
   refine ⟨s9,k2,?_⟩;have uP:(a.eval p.2).cells.size=x.2.1:=by rw [← Array.length_toList,← vt.1,hl]
   simp only [List.map_cons,Instr.fill,hp p.1 x hx];rw [if_neg]
   ·have:(((a.eval p.2).cells.zipIdx).foldl (fun cs (c,j)=>cs.setIfInBounds (x.1+j) c) (⟨eM⟩:Array Value))=⟨G.toList⟩:=by
     rw [← H9,← Array.foldl_toList];simp
    rw [this];exact k3
   ·have:((⟨eM⟩:Array Value).size)=cs.length:=by simp [hc.1]
    simp only [uP,this];simp;omega
  ·exact J.elim
theorem L8 {sz:Nat}:∀ {n off i:Nat} {x:Nat × Nat × Bool},(xy sz off n)[i]?=some x→x.1=off+i*sz∧x.2.1=sz
 | 0,off,i,x,h=>by simp [xy] at h
 | n+1,off,0,x,h=>by simp [xy] at h; subst h; simp
 | n+1,off,i+1,x,h=>by
  obtain ⟨h1,J⟩:=L8 (n:=n) (off:=off+sz) (i:=i) (by simpa [xy] using h)
  exact ⟨by rw [h1,Nat.succ_mul]; omega,J⟩
theorem Xn (hT:∀ t ti,tt t=some ti→aB P t ti) {t:TypeId} {ps:Array (Nat × Operand)} (h:OA tt tmps t ps.toList k):eO P (.build t ps) tmps H aI k:=by
 obtain ⟨ti,ht,J⟩:=cR h;clear h;have bd:=hT _ _ ht;obtain ⟨d,hu,hd⟩:=bd.under;obtain ⟨i,hi,_,_,z,hz,iy⟩:=bd.info
 split at J
 ·rename_i fs hk;rw [hk] at hd;obtain ⟨fields,rfl,ba,hf⟩:=hd
  -- the places that the model reckons
  have aeh:∀ (w:World) (l:List Field) (m:List (Nat × Nat × Bool)),l.length=m.length→(∀ (i:Nat) f x,l[i]?=some f→m[i]?=some x→yQ P f x) →
    (l.mapM (m:=Sem) fun f=>do pure (f.offset,← sizeOf f.type)).run P w=.ok (m.map fun x=>(x.1,x.2.1)) w:=by
   intro w l
   induction l with
   | nil=>intro m hl _; cases m with
    | nil=>rfl
    | cons=>simp at hl
   | cons f l ih =>
    intro m hl hf;cases m with
    | nil=>simp at hl
    | cons x m =>
     obtain ⟨h1,J,⟨i,h3,h4⟩,_⟩:=hf 0 f x rfl rfl;have ih:=ih m (by simpa using hl) (fun i f' x' h h'=>hf (i+1) f' x' (by simpa using h) (by simpa using h'))
     simp only [List.mapM_cons,Sem.run_bind,gn h3,Result.andThen_ok,Sem.run_pure,ih,List.map_cons,h1,h4]
  obtain ⟨ds,k1,k0⟩:=Ft (CE:=((fs.map fun x=>(x.1,x.2.1)).toArray[·]?)) (fun i x hx=>by simp [hx]) J
  refine .value (by simp) k1 fun o ν a w ho ha hH=>?_
  have hm:=aeh w fields.toList fs (by simpa using ba) (fun i f x h h'=>hf i f x (by simpa using h) h')
  obtain ⟨s9,k2,k3⟩:=k0 ν a (fun p hp=>ha p.2 (by simp [Op.operands]; exact ⟨p.1,by simpa using hp⟩)) _ (bd.self ν)
  refine ⟨.agg ⟨s9⟩,.agg _ _ k2.1 k2.2,?_⟩;simp only [execOp,ho,Instr.build,Sem.run_bind,wa hi hz,Result.andThen_ok,dB hu,iy];have IX:(fields.mapM (m:=Sem) fun f=>do pure (f.offset,← sizeOf f.type)).run P w=.ok (fs.map fun x=>(x.1,x.2.1)).toArray w:=by
   rw [Array.mapM_eq_mapM_toList];simp only [Sem.run_map,hm,Result.andThen_ok]
  simp only [IX,Sem.run_bind,Result.andThen_ok];have e:(ps.map fun x=>(x.1,a.eval x.2)).toList=ps.toList.map fun p=>(p.1,a.eval p.2):=by simp
  have e2:(ps.map fun (x:Nat × Operand)=>match x with | (i,x)=>(i,a.eval x))=(ps.map fun x=>(x.1,a.eval x.2)):=rfl
  rw [e2,e,k3]
  rfl
 ·rename_i n e hk;rw [hk] at hd;have hd:d=.array n e:=hd;subst hd;obtain ⟨te,he,h⟩:=cR J;obtain ⟨ei,fx,ji,_⟩:=(hT _ _ he).info;obtain ⟨ds,k1,k0⟩:=Ft (CE:=fun i=>some (i*ei.size,ei.size)) (fun i x hx=>by
   obtain ⟨h1,J⟩:=L8 hx;rw [h1,J,ji,Nat.zero_add]) h
  refine .value (by simp) k1 fun o ν a w ho ha hH=>?_
  obtain ⟨s9,k2,k3⟩:=k0 ν a (fun p hp=>ha p.2 (by simp [Op.operands]; exact ⟨p.1,by simpa using hp⟩)) _ (bd.self ν)
  refine ⟨.agg ⟨s9⟩,.agg _ _ k2.1 k2.2,?_⟩;simp only [execOp,ho,Instr.build,Sem.run_bind,wa hi hz,Result.andThen_ok,dB hu,iy,gn fx];have e:(ps.map fun x=>(x.1,a.eval x.2)).toList=ps.toList.map fun p=>(p.1,a.eval p.2):=by simp
  have e2:(ps.map fun (x:Nat × Operand)=>match x with | (i,x)=>(i,a.eval x))=(ps.map fun x=>(x.1,a.eval x.2)):=rfl
  rw [e2,e,k3]
  rfl
 ·exact J.elim
end
open Go Go.RowKit
section
variable {P:Program} {tt:TT} {w:World} {ν:Nu} {aI:Nat} {k:QK} {tmps:List Value} {H:aA}
theorem Km (z:Array Value) (n j:Nat) (h:j < n) (hz:0 < z.size):(madeCells z n)[j]?=z[j % z.size]?:=by
 unfold madeCells;rw [Array.getElem?_map,Array.getElem?_range,if_pos h];simp only [Option.map_some];have:j % z.size < z.size:=Nat.mod_lt _ hz;rw [Array.getElem?_eq_getElem this];simp [this]
theorem Gt (r e j:Nat) (h:j < e):(r*e+j) % e=j:=by
 rw [Nat.add_comm,Nat.add_mul_mod_self_right,Nat.mod_eq_of_lt h]
theorem SH (hT:∀ t ti,tt t=some ti→aB P t ti) {t:TypeId} {x y:Operand} (h:Lb tt tmps t x y aI k):eO P (.makeSlice t x y) tmps H aI k:=by
 obtain ⟨xv,J,hx⟩:=cQ h;clear h;obtain ⟨yv,h,hy⟩:=cQ J;clear J;obtain ⟨ti,ht,J⟩:=cR h;clear h;obtain ⟨d,hu,hd⟩:=(hT _ _ ht).under
 split at J
 ·rename_i e hk;rw [hk] at hd;have hd:d=.slice e:=hd;subst hd;obtain ⟨te,he,h⟩:=cR J;clear J;have bd:=hT _ _ he;obtain ⟨i,hi,gz,nM,z,hz,iy⟩:=bd.info
  split at h
  ·rename_i q n q' m c4;obtain ⟨⟨b0,b1,b2⟩,h⟩:=h;refine ⟨_,_,h,fun o ν a w r nn ho ha hH hn next Q hN=>?_⟩
   have hx:=(hx ν a (ha x (by simp [Op.operands]))).fJ
   have hy:=(hy ν a (ha y (by simp [Op.operands]))).fJ
   have lX:=bd.bit;have QI:m≤m*te.bytes:=by
    have:m*1≤m*(te.bytes:Int):=Int.mul_le_mul_of_nonneg_left (by omega) (by omega)
    omega
   have bC:=run_make (P:=P) w t e i z hu hi hz q q' n m b0 b1 (by rw [nM,Int.mul_comm]; omega) (by omega)
   refine jI (w':=w.alloc (.cells (madeCells z.cells (m.toNat*i.size)) e)) (v':=.slice (some ⟨w.heap.size,0,none⟩) n.toNat m.toNat) (by simp [ho]) (by simp [execOp,ho,hx,hy,bC]) next Q
    (hN _ _ (ν.add aI ⟨w.heap.size,0,te.size,m.toNat⟩) (nh hn ?_ (yx _ _) (Nat.le_refl _) ?_))
   ·have dz:(w.alloc (.cells (madeCells z.cells (m.toNat*i.size)) e)).heap[w.heap.size]?=some (.cells (madeCells z.cells (m.toNat*i.size)) e (0,0)):=by show (w.heap.push _)[w.heap.size]?=_; simp
    have jA:z.cells.size=te.size:=by rw [iy]; simpa using bd.len
    refine ⟨rfl,fun r hr=>bd.len,fun r hr j v hv=>⟨v,?_,aq.j7 (dD c4 v (List.mem_of_getElem? hv))⟩,fun _ r hr v hv=>dD c4 v hv,fun r hr v hv=>bd.one v hv,fun _ _=>⟨_,_,dz,?_,?_⟩,(fun r h=>nomatch h),?_⟩
    ·have hr:r < n.toNat:=hr;have hv:te.zero[j]?=some v:=hv;have hj:j < te.size:=by rw [← bd.len]; exact (List.getElem?_eq_some_iff.1 hv).1
     simp only [Loc.at,World.cell?,Nat.zero_add];rw [dz];have an:r*te.size+j < m.toNat*i.size:=by
      rw [gz];have:(r+1)*te.size≤m.toNat*te.size:=Nat.mul_le_mul_right _ (by omega)
      rw [Nat.add_mul] at this; omega
     simp only [Option.isSome_none,Bool.false_eq_true,if_false];rw [Km _ _ _ an (by omega),jA,Gt _ _ _ hj,iy]
     simpa using hv
    ·simp [size_madeCells,gz]
    ·simp only [aj.n]; omega
    ·show w.heap.size < (w.alloc _).heap.size
     simp
   ·have:=aq.slice (ν:=ν.add aI ⟨w.heap.size,0,te.size,m.toNat⟩) aI 0 n.toNat m.toNat m.toNat _ Nu.add_same (.inl rfl) (by omega) (by simp)
    simpa [Loc.at] using this
  ·exact h.elim
 ·exact J.elim
theorem L9:∀ {n:Nat} {r:List Value} {k:List (List Value)→Prop},H8 n r k→k (List.replicate n r)
 | 0,_,_,h=>h
 | n+1,r,k,h=>by have:=L9 (n:=n) h; simpa [List.replicate_succ] using this
theorem KQ:∀ {rs:List (List Value)} {n:Nat} {r:List Value} {k:List (List Value)→Prop},setRow rs n r k→n < rs.length∧k (rs.set n r)
 | [],_,_,_,h=>h.elim
 | _::rs,0,_,_,h=>⟨by simp,h⟩
 | q::rs,n+1,r,k,h=>by obtain ⟨h1,J⟩:=KQ (rs:=rs) h; exact ⟨by simpa using h1,by simpa using J⟩
def Ch (ν:Nu) (sz:Nat) (rows:List (List Value)) (C:Array Value):Prop :=
 C.size=rows.length*sz∧(∀ row∈rows,row.length=sz)∧∀ r j row v,rows[r]?=some row→row[j]?=some v→∃ v',C[r*sz+j]?=some v'∧aq ν v v'
theorem KR {sz n:Nat}:∀ {ps:List (Nat × Operand)} {rows:List (List Value)} {k:List (List Value)→Prop},rowsOf tmps sz ps rows k→rows.length=n →
  ∃ jb,k jb∧jb.length=n∧((∀ row∈rows,∀ v∈row,v.oneCell'=true)→∀ row∈jb,∀ v∈row,v.oneCell'=true) ∧
   ∀ (ν:Nu) (a:Act),(∀ p∈ps,fj ν tmps a p.2)→∀ C,Ch ν sz rows C→∃ C',Ch ν sz jb C'∧Instr.fill (fun i=>some (i*sz,sz)) C (ps.map fun p=>(p.1,a.eval p.2))=some C'
 | [],rows,k,h,hl=>⟨rows,h,hl,fun h=>h,fun ν a _ C hC=>⟨C,hC,rfl⟩⟩
 | p::ps,rows,k,h,hl=>by
  obtain ⟨v,J,hv⟩:=cQ h;clear h;have h:=Bd J;clear J
  split at h
  ·rename_i bd;obtain ⟨hlen,qS⟩:=yo bd;obtain ⟨an,J⟩:=KQ h;obtain ⟨jb,k1,k2,k3,k4⟩:=KR (n:=n) (ps:=ps) J (by rw [List.length_set]; exact hl)
   refine ⟨jb,k1,k2,fun h0=>k3 (fun row aZ u hu=>?_),fun ν a ha C hC=>?_⟩
   ·rcases List.mem_or_eq_of_mem_set aZ with h | h
    ·exact h0 row h u hu
    ·rw [h] at hu; exact qS u hu
   ·obtain ⟨c1,c2,c3⟩:=hC;have vt:=(hv ν a (ha p (by simp))).cells
    have uP:(a.eval p.2).cells.size=sz:=by rw [← Array.length_toList,← vt.1,hlen]
    have Hv:∀ (us:List Value) (o:Nat) (acc:Array Value) (m:Nat),((us.zipIdx m).foldl (fun cs (c,j)=>cs.setIfInBounds (o+j) c) acc).size=acc.size ∧
      ∀ j,((us.zipIdx m).foldl (fun cs (c,j)=>cs.setIfInBounds (o+j) c) acc)[j]?=if j < acc.size∧o+m≤j∧j < o+m+us.length then us[j - (o+m)]? else acc[j]?:=by
     intro us
     induction us with
     | nil =>
      intro o acc m;refine ⟨by simp,fun j=>?_⟩
      simp
      intros
      omega
     | cons u us ih =>
      intro o acc m;simp only [List.zipIdx_cons,List.foldl_cons];obtain ⟨i1,i2⟩:=ih o (acc.setIfInBounds (o+m) u) (m+1);refine ⟨by rw [i1]; simp,fun j=>?_⟩
      rw [i2 j];simp only [Array.size_setIfInBounds,List.length_cons];by_cases hj:j < acc.size
      ·by_cases h1:o+(m+1)≤j∧j < o+(m+1)+us.length
       ·rw [if_pos ⟨hj,h1⟩,if_pos ⟨hj,by omega,by omega⟩]
        rw [show j - (o+m)=(j - (o+(m+1)))+1 by omega]; simp
       ·rw [if_neg (by omega)]
        by_cases J:j=o+m
        ·subst J;rw [if_pos ⟨hj,by omega,by omega⟩]
         simp [hj]
        ·rw [if_neg (by omega),Array.getElem?_setIfInBounds_ne (by omega)]
      ·rw [if_neg (by omega),if_neg (by omega)]
       rw [Array.getElem?_eq_none (by simp; omega),Array.getElem?_eq_none (by omega)]
    obtain ⟨f1,f2⟩:=Hv (a.eval p.2).cells.toList (p.1*sz) C 0;have eW:(a.eval p.2).cells.toList.length=sz:=by simpa using uP
    have hbound:(p.1+1)*sz≤rows.length*sz:=Nat.mul_le_mul_right _ an;rw [Nat.add_mul] at hbound;have H9:(((a.eval p.2).cells.toList.zipIdx 0).foldl (fun cs (c,j)=>cs.setIfInBounds (p.1*sz+j) c) C)=((a.eval p.2).cells.zipIdx.foldl (fun cs (c,j)=>cs.setIfInBounds (p.1*sz+j) c) C):=by
     rw [← Array.foldl_toList]; simp
    have Ia:Ch ν sz (rows.set p.1 v.cells.toList) ((a.eval p.2).cells.zipIdx.foldl (fun cs (c,j)=>cs.setIfInBounds (p.1*sz+j) c) C):=by
     rw [← H9];refine ⟨by rw [f1,c1,List.length_set],fun row aZ=>?_,fun r j row u hr hj=>?_⟩
     ·rcases List.mem_or_eq_of_mem_set aZ with h | h
      ·exact c2 row h
      ·rw [h]; exact hlen
     ·rw [f2];have aff:j < sz:=by
       have gI:=List.mem_of_getElem? hr;have:row.length=sz:=by
        rcases List.mem_or_eq_of_mem_set gI with h | h
        ·exact c2 row h
        ·rw [h]; exact hlen
       rw [← this]; exact (List.getElem?_eq_some_iff.1 hj).1
      by_cases e:r=p.1
      ·subst e;rw [List.getElem?_set_self an] at hr;cases hr;rw [if_pos ⟨by omega,by omega,by omega⟩]
       rw [show p.1*sz+j - (p.1*sz+0)=j by omega]
       exact vt.get hj
      ·rw [List.getElem?_set_ne (Ne.symm e)] at hr;have aE:¬ (p.1*sz+0≤r*sz+j∧r*sz+j < p.1*sz+0+(a.eval p.2).cells.toList.length):=by
        rw [eW];rcases Nat.lt_or_ge r p.1 with h | h
        ·have:(r+1)*sz≤p.1*sz:=Nat.mul_le_mul_right _ h;rw [Nat.add_mul] at this; omega
        ·have:(p.1+1)*sz≤r*sz:=Nat.mul_le_mul_right _ (by omega)
         rw [Nat.add_mul] at this; omega
       rw [if_neg (fun h=>aE h.2)]
       exact c3 r j row u hr hj
    obtain ⟨C',q1,q2⟩:=k4 ν a (fun q hq=>ha q (by simp [hq])) _ Ia
    refine ⟨C',q1,?_⟩;simp only [List.map_cons,Instr.fill];rw [if_neg]
    ·exact q2
    ·simp only [uP];simp;omega
  ·exact h.elim
theorem SJ {ah:Nat} {rows:List (List Value)} {k:aj→Prop} (h:GY ah rows k):∃ b,k b∧∀ (ν:Nu) (l:Loc) (w:World),bQ ν l (.aO true ah rows) w→bQ ν l b w:=by
 unfold GY at h
 split at h
 ·refine ⟨_,h,fun ν l w hB=>⟨hB.ah,fun r hr=>absurd hr (Nat.not_lt_zero r),fun r hr=>absurd hr (Nat.not_lt_zero r),fun _ r hr=>absurd hr (Nat.not_lt_zero r),fun r hr=>absurd hr (Nat.not_lt_zero r),fun _ _=>?_,(fun r h=>nomatch h),hB.live⟩⟩
  obtain ⟨cur,t,h1,J,_⟩:=hB.own rfl rfl;exact ⟨cur,t,h1,J,Nat.zero_le _⟩
 ·exact ⟨_,h,fun ν l w hB=>hB⟩
theorem Sh (hT:∀ t ti,tt t=some ti→aB P t ti) {t:TypeId} {n:Nat} {ps:Array (Nat × Operand)} (h:KP tt tmps t n ps.toList aI k):eO P (.buildSlice t n ps) tmps H aI k:=by
 obtain ⟨ti,ht,J⟩:=cR h;clear h;obtain ⟨d,hu,hd⟩:=(hT _ _ ht).under
 split at J
 ·rename_i e hk;rw [hk] at hd;have hd:d=.slice e:=hd;subst hd;obtain ⟨te,he,h⟩:=cR J;clear J;have bd:=hT _ _ he;obtain ⟨i,hi,gz,nM,z,hz,iy⟩:=bd.info
  split at h
  ·rename_i sS;have sS:=Nat.le_of_ble_eq_true sS;have h:=L9 h;obtain ⟨rows,k1,k2,k3,k4⟩:=KR (n:=n) h (by simp)
   obtain ⟨b,k1,kb⟩:=SJ k1;refine ⟨_,_,k1,fun o ν a w r nn ho ha hH hn next Q hN=>?_⟩
   have jA:z.cells.size=te.size:=by rw [iy]; simpa using bd.len
   -- the zero rows
   have Af:Ch ν te.size (List.replicate n te.zero) (madeCells z.cells (n*te.size)):=by
    refine ⟨by simp [size_madeCells],fun row aZ=>by rw [(List.mem_replicate.1 aZ).2]; exact bd.len,fun r j row v hr hj=>?_⟩
    have aZ:=(List.mem_replicate.1 (List.mem_of_getElem? hr)).2;subst aZ;have aei:r < n:=by have:=(List.getElem?_eq_some_iff.1 hr).1; simpa using this
    have gj:j < te.size:=by rw [← bd.len]; exact (List.getElem?_eq_some_iff.1 hj).1
    have an:r*te.size+j < n*te.size:=by
     have:(r+1)*te.size≤n*te.size:=Nat.mul_le_mul_right _ aei;rw [Nat.add_mul] at this; omega
    obtain ⟨v',h1,J⟩:=(bd.self ν).get hj;rw [hj] at h1; cases h1;exact ⟨v,by rw [Km _ _ _ an (by have:=bd.bit.1; omega),jA,Gt _ _ _ gj,iy]; simpa using hj,J⟩
   obtain ⟨C',q1,q2⟩:=k4 ν a (fun p hp=>ha p.2 (by simp [Op.operands]; exact ⟨p.1,by simpa using hp⟩)) _ Af
   have bC:(execOp a.eval o).run P w=.ok (.value (.slice (some ⟨w.heap.size,0,none⟩) n n)) { w with heap:=w.heap.push (.cells C' e) }:=by
    have e1:(ps.map fun (x:Nat × Operand)=>match x with | (i,x)=>(i,a.eval x))=(ps.map fun x=>(x.1,a.eval x.2)):=rfl
    have e2:(ps.map fun x=>(x.1,a.eval x.2)).toList=ps.toList.map fun p=>(p.1,a.eval p.2):=by simp
    have QJ:¬ (n*te.size > 2 ^ 24):=by omega
    have DM:Instr.fill (fun i=>some (i*te.size,te.size)) ((Array.range (n*te.size)).map (z.cells[· % z.cells.size]!)) (ps.map fun x=>(x.1,a.eval x.2)).toList=some C':=by rw [e2]; exact q2
    simp only [execOp,ho,Instr.buildSlice,Sem.run_bind,dB hu,Result.andThen_ok,gn hi,gz,e1];rw [if_neg QJ];by_cases h0:n*te.size=0
    ·have e0:(Array.range (n*te.size)).map (z.cells[· % z.cells.size]!)=(Array.range (n*te.size)).map ((#[]:Array Value)[· % (#[]:Array Value).size]!):=by rw [h0]; simp
     rw [e0] at DM;simp only [Sem.run_bind,Sem.run_ite,h0,if_true,Sem.run_pure,Result.andThen_ok,newRow,run_newObj];rw [h0] at DM;simp only [DM,Sem.run_bind,Sem.run_pure,Result.andThen_ok,newRow,run_newObj]
    ·simp only [Sem.run_bind,Sem.run_ite,h0,if_false,Sem.run_pure,wa hi hz,Result.andThen_ok];simp only [DM,Sem.run_bind,Sem.run_pure,Result.andThen_ok,newRow,run_newObj]
   have dz:({ w with heap:=w.heap.push (.cells C' e) }:World).heap[w.heap.size]?=some (.cells C' e (0,0)):=by simp
   obtain ⟨c1,c2,c3⟩:=q1;refine jI (by simp [ho]) bC next Q (hN _ _ (ν.add aI ⟨w.heap.size,0,te.size,n⟩) (nh hn ?_ (yx _ _) (Nat.le_refl _) ?_))
   ·refine kb _ _ _ ⟨rfl,fun r hr=>?_,fun r hr j v hv=>?_,fun h=>by simp [aj.iY] at h,fun r hr v hv=>?_,fun _ _=>⟨_,_,dz,?_,?_⟩,(fun r h=>nomatch h),by simp⟩
    ·have hr:r < rows.length:=hr;simp only [aj.row,List.getD,List.getElem?_eq_getElem hr,Option.getD_some];exact c2 _ (List.getElem_mem _)
    ·have hr:r < rows.length:=hr;simp only [aj.row,List.getD,List.getElem?_eq_getElem hr,Option.getD_some] at hv;obtain ⟨v',h1,J⟩:=c3 r j _ v (List.getElem?_eq_getElem hr) hv;refine ⟨v',?_,J.mono (Nu.kh hn)⟩;simp only [Loc.at,World.cell?,Nat.zero_add];rw [dz]
     simpa using h1
    ·have hr:r < rows.length:=hr;simp only [aj.row,List.getD,List.getElem?_eq_getElem hr,Option.getD_some] at hv;exact k3 (fun row aZ u hu=>by rw [(List.mem_replicate.1 aZ).2] at hu; exact bd.one u hu) _ (List.getElem_mem _) v hv
    ·simp [c1,k2]
    ·simp [aj.n,k2]
   ·have:=aq.slice (ν:=ν.add aI ⟨w.heap.size,0,te.size,n⟩) aI 0 n n n _ Nu.add_same (.inl rfl) (Nat.le_refl _) (by simp)
    simpa [Loc.at] using this
  ·exact h.elim
 ·exact J.elim
end
open Go Go.RowKit
section
variable {P:Program} {tt:TT} {w:World} {ν:Nu} {aI:Nat} {k:QK} {tmps:List Value} {H:aA}
theorem foldl_push (ns:List Int):∀ r:ByteArray,ns.foldl (fun r n=>r.push (UInt8.ofNat n.toNat)) r=⟨r.data++(ns.map fun n=>UInt8.ofNat n.toNat).toArray⟩:=by
 induction ns with
 | nil=>intro r; simp
 | cons n ns ih=>intro r; rw [List.foldl_cons,ih]; simp [ByteArray.push]
theorem Ti {a:Addr} {c:Nat} (w:World):(Conv.bytesToString (.slice (some a) 0 c)).run P w=.ok (.string ⟨#[]⟩) w:=by
 rw [run_bytesToString w a 0 c [] (by simpa using run_loadCells_list (P:=P) w a [] (fun j v h=>by simp at h))]
 rfl
theorem UK (hT:∀ t ti,tt t=some ti→aB P t ti) {s d:TypeId} {x:Operand} (h:MV tt tmps H s d x aI k):eO P (.convert s d x) tmps H aI k:=by
 obtain ⟨xv,J,hx⟩:=cQ h;clear h;obtain ⟨ts,hs,h⟩:=cR J;clear J;obtain ⟨td,hd,J⟩:=cR h;clear h;have h:=J;clear J;obtain ⟨ds,ta,eT⟩:=(hT _ _ hs).under;obtain ⟨dd,x4,c9⟩:=(hT _ _ hd).under
 split at h
 ·rename_i q q' m hk;rw [hk] at c9;have c9:dd=.int q:=c9;subst c9
  split at h
  ·rename_i qs jB;rw [jB] at eT;have eT:ds=.int qs:=eT;subst eT;refine .value (by simp) h fun o ν a w ho ha hH=>⟨_,.int _ _,?_⟩
   have hx:=(hx ν a (ha x (by simp [Op.operands]))).fJ
   simp [execOp,ho,hx,convert,dB ta,dB x4,Conv.intToInt]
  ·exact h.elim
 ·rename_i s hk;rw [hk] at c9;have c9:dd=.string:=c9;subst c9
  split at h
  ·rename_i jB;rw [jB] at eT;have eT:ds=.string:=eT;subst eT;refine .value (by simp) h fun o ν a w ho ha hH=>⟨_,.str _,?_⟩
   have hx:=(hx ν a (ha x (by simp [Op.operands]))).sh
   simp [execOp,ho,hx,convert,dB ta,dB x4]
  ·exact h.elim
 ·rename_i id row n c hk;rw [hk] at c9;have c9:dd=.string:=c9;subst c9
  split at h
  ·rename_i e jB;rw [jB] at eT;have eT:ds=.slice e:=eT;subst eT;obtain ⟨te,he,J⟩:=cR h;clear h;obtain ⟨de,x5,kG⟩:=(hT _ _ he).under
   split at J
   ·rename_i Ag;rw [Ag] at kG;have kG:de=.int .u8:=kG;subst kG;have O8:∀ (o:Oper) (ν:Nu) (a:Act) (w:World),o.op=.convert s d x→(∀ x'∈(Op.convert s d x).operands,fj ν tmps a x')→∃ ad c',a.eval x=.slice (some ad) n c'∧(0 < n→∃ l,ν id=some l∧ad=l.at row 0):=by
     intro o ν a w ho ha;rcases (hx ν a (ha x (by simp [Op.operands]))).ua with ⟨l,c',hl,hc,hn,hr,cm⟩ | ⟨hn,hc,bb,cm⟩
     ·exact ⟨_,_,cm,fun _=>⟨l,hl,rfl⟩⟩
     ·subst hn;exact ⟨_,_,cm,fun h=>absurd h (by omega)⟩
    split at J
    ·refine .value (by simp) J fun o ν a w ho ha hH=>⟨_,.str _,?_⟩
     obtain ⟨ad,c',cm,_⟩:=O8 o ν a w ho ha;have:=run_convert_bytes_string (P:=P) w s d e (some ad) 0 c' ta x5 x4;simp [execOp,ho,cm,this,Ti]
    ·rename_i m;obtain ⟨b,hb,h⟩:=gA J;clear J
     split at h
     ·rename_i Ib;obtain ⟨⟨hle,O9⟩,h⟩:=h;refine .value (by simp) h fun o ν a w ho ha hH=>⟨_,.str _,?_⟩
      obtain ⟨ad,c',cm,hl⟩:=O8 o ν a w ho ha;obtain ⟨l,eP,rfl⟩:=hl (by omega)
      clear hl;obtain ⟨l',cE,hB⟩:=hH.aJ id b hb;rw [eP] at cE; cases cE;have hc:=run_convert_bytes_string (P:=P) w s d e (some (l.at row 0)) (m+1) c' ta x5 x4
      let ns:List Int:=(List.range (m+1)).map fun r=>match b.row (row+r) with | .int _ x::_=>x | _=>0
      have aai:(loadCells (l.at row 0) (m+1)).run P w=.ok (ns.map (Value.int .u8)).toArray w:=by
       have:=run_loadCells_list (P:=P) w (l.at row 0) (ns.map (Value.int .u8)) (fun j v hj=>by
        have gj:j < m+1:=by
         have:=(List.getElem?_eq_some_iff.1 hj).1
         simpa [ns] using this
        obtain ⟨y,hy⟩:=O9 j gj;obtain ⟨v',h1,J⟩:=hB.cell (row+j) (by omega) 0 (.int .u8 y) (by rw [hy]; rfl)
        have J:=J.fJ;subst J;have hv:v=.int .u8 y:=by
         simp only [ns,List.map_map,List.getElem?_map,List.getElem?_range gj,Option.map_some,Function.comp,hy] at hj;exact (Option.some.inj hj).symm
        rw [Loc.jM,hv,← h1];simp only [Loc.at,hB.ah,Ib]
        congr 2
        omega)
       simpa [ns] using this
      have bC:=run_bytesToString (P:=P) w (l.at row 0) (m+1) c' ns aai;rw [foldl_push] at bC;have e:(⟨ByteArray.empty.data++(ns.map fun n=>UInt8.ofNat n.toNat).toArray⟩:ByteArray)=⟨⟨bytesOf b.row row (m+1)⟩⟩:=by
       have e0:ByteArray.empty.data=#[]:=rfl;rw [e0]
       congr 1
       simp only [Array.empty_append,bytesOf,ns,List.map_map]
       congr 1
       apply List.map_congr_left;intro r hr;obtain ⟨y,hy⟩:=O9 r (List.mem_range.1 hr);simp [hy]
      rw [e] at bC;simp [execOp,ho,cm,hc,bC]
     ·exact h.elim
   ·exact J.elim
  ·exact h.elim
 ·rename_i hk;rw [hk] at c9;have c9:dd=.string:=c9;subst c9
  split at h
  ·rename_i e jB;rw [jB] at eT;have eT:ds=.slice e:=eT;subst eT;obtain ⟨te,he,J⟩:=cR h;clear h;obtain ⟨de,x5,kG⟩:=(hT _ _ he).under
   split at J
   ·rename_i Ag;rw [Ag] at kG;have kG:de=.int .u8:=kG;subst kG;refine .value (by simp) J fun o ν a w ho ha hH=>⟨_,.str _,?_⟩
    have hx:=(hx ν a (ha x (by simp [Op.operands]))).qi
    have:=run_convert_bytes_string (P:=P) w s d e none 0 0 ta x5 x4;simp [execOp,ho,hx,this,Conv.bytesToString]
    rfl
   ·exact J.elim
  ·exact h.elim
 ·rename_i e str hk;rw [hk] at c9;have c9:dd=.slice e:=c9;subst c9
  split at h
  ·rename_i jB;rw [jB] at eT;have eT:ds=.string:=eT;subst eT;obtain ⟨te,he,J⟩:=cR h;clear h;obtain ⟨de,x5,kG⟩:=(hT _ _ he).under
   split at J
   ·rename_i Ag;rw [Ag] at kG;have kG:de=.int .u8:=kG;subst kG;refine ⟨_,_,J,fun o ν a w r nn ho ha hH hn next Q hN=>?_⟩
    have hx:=(hx ν a (ha x (by simp [Op.operands]))).sh
    have bC:=run_bytes_of_string (P:=P) w s d e str ta x4 x5;have eF:=grownCap_ge w str.size 0 e;have hb:Below w.heap.size w (w.drew.alloc (.cells (bytesRow str (grownCap w str.size 0 e)) e ((bytesRow str (grownCap w str.size 0 e)).size,(bytesRow str (grownCap w str.size 0 e)).size+1))):=((Below.refl _ w).drew).alloc (Nat.le_refl _) _;have acH:(execOp a.eval o).run P w=.ok (.value (.slice (some ⟨w.heap.size,0,none⟩) str.size (grownCap w str.size 0 e))) (w.drew.alloc (.cells (bytesRow str (grownCap w str.size 0 e)) e ((bytesRow str (grownCap w str.size 0 e)).size,(bytesRow str (grownCap w str.size 0 e)).size+1))):=by
     simp [execOp,ho,hx,bC]
    refine jI (by simp [ho]) acH next Q
     (hN _ _ (ν.add aI ⟨w.heap.size,0,1,grownCap w str.size 0 e⟩) (nh hn ?_ hb (Nat.le_refl _) ?_))
    ·have dz:(w.drew.alloc (.cells (bytesRow str (grownCap w str.size 0 e)) e ((bytesRow str (grownCap w str.size 0 e)).size,(bytesRow str (grownCap w str.size 0 e)).size+1))).heap[w.heap.size]?=some (.cells (bytesRow str (grownCap w str.size 0 e)) e ((bytesRow str (grownCap w str.size 0 e)).size,(bytesRow str (grownCap w str.size 0 e)).size+1)):=by
      show (w.heap.push _)[w.heap.size]?=_; simp
     refine ⟨rfl,fun r hr=>rfl,fun r hr j v hv=>⟨v,?_,aq.j7 ?_⟩,fun _ r hr v hv=>?_,fun r hr v hv=>?_,fun h _=>by simp [aj.own] at h,(fun r h=>nomatch h),?_⟩
     ·have hr:r < str.size:=hr;have hv:[Value.int .u8 (b8 str r)][j]?=some v:=hv;have hj:j=0:=by
       have:=(List.getElem?_eq_some_iff.1 hv).1
       simpa using this
      subst hj;simp only [Loc.at,World.cell?,Nat.zero_add];rw [dz];simp only [Option.isSome_none,Bool.false_eq_true,if_false];have an:r < str.data.size:=hr;simp [bytesRow,b8] at hv ⊢;rw [Array.getElem?_append_left (by simpa using an)]
      have hg:str.data[r]?=some (str.data[r]'an):=Array.getElem?_eq_getElem an;rw [hg] at hv;rw [Array.getElem?_map,hg,← hv]
      rfl
     ·have hv:[Value.int .u8 (b8 str r)][j]?=some v:=hv;have:=List.mem_of_getElem? hv;simp at this;rw [this]; rfl
     ·have hv:v∈[Value.int .u8 (b8 str r)]:=hv;simp at hv; rw [hv]; rfl
     ·have hv:v∈[Value.int .u8 (b8 str r)]:=hv;simp at hv; rw [hv]; rfl
     ·show w.heap.size < (w.drew.alloc _).heap.size
      simp
    ·have:=aq.slice (ν:=ν.add aI ⟨w.heap.size,0,1,grownCap w str.size 0 e⟩) aI 0 str.size aM (grownCap w str.size 0 e) _ Nu.add_same (.inr rfl) eF (by simp)
     simpa [Loc.at] using this
   ·exact J.elim
  ·exact h.elim
 ·exact h.elim
theorem acI (hT:∀ t ti,tt t=some ti→aB P t ti) {c:Call} (hc:c.callee=.builtin .cap) {t:TypeId} {x:Operand} (hx:c.args=#[x]) (ht:c.argTypes=#[t]) (h:PR tmps tt t x k):eO P (.call c) tmps H aI k:=by
 obtain ⟨xv,J,hv⟩:=cQ h;clear h;obtain ⟨ti,IU,h⟩:=cR J;clear J;obtain ⟨d,hu,hd⟩:=(hT _ _ IU).under
 split at h
 ·rename_i e hk;rw [hk] at hd;have hd:d=.slice e:=hd;subst hd;refine .value (by simp) h fun o ν a w ho ha hH=>⟨_,.int _ _,?_⟩
  have he:=(hv ν a (ha x (by simp [Op.operands,Call.operands,hc,hx]))).qi
  simp [execOp,ho,resolve,hc,hx,ht,invoke,builtin,Builtin.cap_,run_underlying hu,he,goInt]
 ·exact h.elim
theorem wrap_small {m:Nat} (h:m≤140737488355328):IntKind.i64.wrap (m:Int)=(m:Int):=by
 have e:IntKind.i64.wrap (m:Int)=if (true && decide ((m:Int) % (2 ^ 64:Int) ≥ (2 ^ 63:Int)))=true then (m:Int) % (2 ^ 64:Int) - (2 ^ 64:Int) else (m:Int) % (2 ^ 64:Int):=rfl
 rw [e];simp only [Bool.true_and,decide_eq_true_eq]
 split <;> omega
theorem R0 {t u ty e:TypeId} {q:IntKind} {i:TypeInfo} {z:Value} (ht:P.underlying t=some (.slice e)) (hu:P.underlying u=some (.int q)) (hi:P.info? e=some i) (hz:i.zero=some z)
  {n:Int} (h0:0 < n) (QM:n*i.bytes≤140737488355328) (h63:n≤140737488355328) :
  (Builtin.append_ #[t,u] ty #[.slice none 0 0,.int .i64 n]).run P w =
   .ok (.slice (some ⟨w.heap.size,0,none⟩) n.toNat (grownCap w n.toNat 0 e))
    (w.drew.alloc (.cells ((if n.toNat*i.size=0 then #[] else Builtin.zeroCells z.cells n.toNat)++Builtin.zeroCells z.cells (grownCap w n.toNat 0 e - n.toNat)) e)):=by
 obtain ⟨m,rfl⟩:∃ m:Nat,n=m:=⟨n.toNat,by omega⟩
 have hw:IntKind.i64.wrap (m:Int)=(m:Int):=wrap_small (by omega)
 have hn:m≠0:=by omega
 have h1:¬ ((m:Int) < 0):=by omega
 have J:¬ (281474976710656 < (m:Int)*(i.bytes:Int)):=by omega
 have PS:¬ (9223372036854775807 < (m:Int)):=by omega
 have PT:¬ (281474976710656 < Builtin.nextslicecap m 0*i.bytes):=by
  rw [nextslicecap_zero (by omega)]
  have QM:((m*i.bytes:Nat):Int)≤140737488355328:=by rw [Int.natCast_mul]; exact QM
  omega
 by_cases hs:m*i.size=0
 ·simp [Builtin.append_,run_underlying ht,run_underlying hu,sizeOf,typeInfo,zeroValue,hi,hz,asInt,asIntOf,hw,h1,J,hn,PS,PT,Question.forced,newRow,grownCap,Builtin.firstCells,hs]
 ·simp [Builtin.append_,run_underlying ht,run_underlying hu,sizeOf,typeInfo,zeroValue,hi,hz,asInt,asIntOf,hw,h1,J,hn,PS,PT,Question.forced,newRow,grownCap,Builtin.firstCells,hs]
theorem Kn (z:Array Value) (n j:Nat) (h:j < n*z.size) (hz:0 < z.size):(Builtin.zeroCells z n)[j]?=z[j % z.size]?:=by
 unfold Builtin.zeroCells;rw [Array.getElem?_map,Array.getElem?_range,if_pos h];simp only [Option.map_some];have:j % z.size < z.size:=Nat.mod_lt _ hz;rw [Array.getElem?_eq_getElem this];simp [this]
theorem Tj (hT:∀ t ti,tt t=some ti→aB P t ti) {c:Call} (hc:c.callee=.builtin .append) {t u:TypeId} {x y:Operand} (hx:c.args=#[x,y]) (Ah:c.argTypes=#[t,u]) (h:L6 tt tmps t u x y aI k):eO P (.call c) tmps H aI k:=by
 obtain ⟨xv,J,vv⟩:=cQ h;clear h;obtain ⟨yv,h,vw⟩:=cQ J;clear J;obtain ⟨ti,ht,J⟩:=cR h;clear h;obtain ⟨d,hu,hd⟩:=(hT _ _ ht).under
 split at J
 ·rename_i e hk;rw [hk] at hd;have hd:d=.slice e:=hd;subst hd;obtain ⟨te,he,h⟩:=cR J;clear J;obtain ⟨tu,htu,J⟩:=cR h;clear h;obtain ⟨du,huu,DN⟩:=(hT _ _ htu).under;have bd:=hT _ _ he;obtain ⟨i,hi,gz,nM,z,hz,iy⟩:=bd.info
  split at J
  ·rename_i q n hku c4;rw [hku] at DN;have DN:du=.int q:=DN;subst DN;obtain ⟨⟨b0,b1⟩,h⟩:=J;refine ⟨_,_,h,fun o ν a w r nn ho ha hH hn next Q hN=>?_⟩
   have rf:=(vv ν a (ha x (by simp [Op.operands,Call.operands,hc,hx]))).qi
   have Ai:=(vw ν a (ha y (by simp [Op.operands,Call.operands,hc,hx]))).fJ
   have lX:=bd.bit.2;have Aj:n≤n*te.bytes:=by
    have:n*1≤n*(te.bytes:Int):=Int.mul_le_mul_of_nonneg_left (by omega) (by omega)
    omega
   have bC:=R0 (P:=P) (w:=w) (ty:=o.type) hu huu hi hz b0 (by rw [nM]; exact b1) (by omega)
   have eF:=grownCap_ge w n.toNat 0 e;have oz:∀ C:Array Value,Below w.heap.size w (w.drew.alloc (.cells C e)):=fun C=>((Below.refl _ w).drew).alloc (Nat.le_refl _) _
   have hpz:0 < te.size:=bd.bit.1;have jA:z.cells.size=te.size:=by rw [iy]; simpa using bd.len
   have hm:¬ (n.toNat*i.size=0):=by
    rw [gz];intro h0;rcases Nat.mul_eq_zero.1 h0 with h | h <;> omega
   rw [if_neg hm] at bC;generalize hC:Builtin.zeroCells z.cells n.toNat++Builtin.zeroCells z.cells (grownCap w n.toNat 0 e - n.toNat)=C at bC;refine jI (w':=w.drew.alloc (.cells C e)) (v':=.slice (some ⟨w.heap.size,0,none⟩) n.toNat (grownCap w n.toNat 0 e)) (by simp [ho]) (by simp [execOp,ho,resolve,hc,hx,Ah,invoke,builtin,rf,Ai,bC]) next Q
    (hN _ _ (ν.add aI ⟨w.heap.size,0,te.size,grownCap w n.toNat 0 e⟩) (nh hn ?_ (oz _) (Nat.le_refl _) ?_))
   ·have DO:C.size=grownCap w n.toNat 0 e*te.size:=by
     rw [← hC,Array.size_append];simp only [Builtin.zeroCells,Array.size_map,Array.size_range,jA];rw [← Nat.add_mul]
     congr 1
     omega
    have dz:(w.drew.alloc (.cells C e)).heap[w.heap.size]?=some (.cells C e (0,0)):=by show (w.heap.push _)[w.heap.size]?=_; simp
    refine ⟨rfl,fun r hr=>bd.len,fun r hr j v hv=>⟨v,?_,aq.j7 (dD c4 v (List.mem_of_getElem? hv))⟩,fun _ r hr v hv=>dD c4 v hv,fun r hr v hv=>bd.one v hv,fun _ _=>⟨_,_,dz,?_,?_⟩,(fun r h=>nomatch h),?_⟩
    ·have hr:r < n.toNat:=hr;have hv:te.zero[j]?=some v:=hv;have hj:j < te.size:=by rw [← bd.len]; exact (List.getElem?_eq_some_iff.1 hv).1
     simp only [Loc.at,World.cell?,Nat.zero_add];rw [dz];have an:r*te.size+j < n.toNat*te.size:=by
      have:(r+1)*te.size≤n.toNat*te.size:=Nat.mul_le_mul_right _ (by omega)
      rw [Nat.add_mul] at this; omega
     simp only [Option.isSome_none,Bool.false_eq_true,if_false];rw [← hC,Array.getElem?_append_left (by simp only [Builtin.zeroCells,Array.size_map,Array.size_range,jA]; exact an),Kn _ _ _ (by rw [jA]; exact an) (by omega),jA,Gt _ _ _ hj,iy]
     simpa using hv
    ·rw [DO]; simp
    ·simp only [aj.n]; omega
    ·show w.heap.size < (w.drew.alloc _).heap.size
     simp
   ·have:=aq.slice (ν:=ν.add aI ⟨w.heap.size,0,te.size,grownCap w n.toNat 0 e⟩) aI 0 n.toNat aM (grownCap w n.toNat 0 e) _ Nu.add_same (.inr rfl) eF (by simp)
    simpa [Loc.at] using this
  ·exact J.elim
 ·exact J.elim
end
open Go Go.RowKit
section
variable {P:Program} {tt:TT} {Φ:zk} {w:World} {ν:Nu} {aI:Nat} {k:QK} {tmps:List Value} {H:aA}
def Nu.comp (ν:Nu) (τ:List Nat):Nu:=fun j=>(τ[j]?).bind ν
theorem Fu {τ:List Nat} {m:Nat} {x:Value} {xs l:List Value} (h:mO τ m (x::xs)=some l):∃ y ys,l=y::ys∧cM τ m x=some y∧mO τ m xs=some ys:=by
 unfold mO at h;rw [List.foldr_cons] at h
 split at h
 ·rename_i y ys h1 J;exact ⟨y,ys,(Option.some.inj h).symm,h1,J⟩
 ·cases h
theorem F1 {τ:List Nat} {m:Nat} {l:List Value} (h:mO τ m []=some l):l=[]:=by
 simp [mO] at h; exact h
theorem ub {τ:List Nat} {m:Nat} (h:∀ v v2 r,cM τ m v=some v2→aq ν v2 r→aq (ν.comp τ) v r):∀ {xs l rs:List Value},mO τ m xs=some l→bf ν l rs→bf (ν.comp τ) xs rs
 | [],l,rs,h1,J=>by rw [F1 h1] at J; rw [J.iW]; exact .nil _
 | x::xs,l,rs,h1,J=>by
  obtain ⟨y,ys,rfl,e1,e2⟩:=Fu h1;obtain ⟨r,cf,rfl,k1,k2⟩:=J.jr;exact .cons (h _ _ _ e1 k1) (ub h e2 k2)
theorem yG {τ:List Nat} {m:Nat} (h:∀ v v2 r,cM τ m v=some v2→aq (ν.comp τ) v r→aq ν v2 r):∀ {xs l rs:List Value},mO τ m xs=some l→bf (ν.comp τ) xs rs→bf ν l rs
 | [],l,rs,h1,J=>by rw [F1 h1]; rw [J.iW]; exact .nil _
 | x::xs,l,rs,h1,J=>by
  obtain ⟨y,ys,rfl,e1,e2⟩:=Fu h1;obtain ⟨r,cf,rfl,k1,k2⟩:=J.jr;exact .cons (h _ _ _ e1 k1) (yG h e2 k2)
theorem wK {τ:List Nat}:∀ (m:Nat) (v v2 r:Value),cM τ m v=some v2→aq ν v2 r→aq (ν.comp τ) v r:=by
 intro m
 induction m with
 | zero=>intro v v2 r h; simp [cM] at h
 | succ m ih =>
  intro v v2 r h hr;unfold cM at h
  split at h
  ·cases h; rw [hr.j9 rfl]; exact .bool _
  ·cases h; rw [hr.j9 rfl]; exact .int _ _
  ·cases h; rw [hr.j9 rfl]; exact .str _
  ·cases h; cases hr; exact .mM
  ·split at h
   ·rename_i vr e;cases h;obtain ⟨l,h1,rfl⟩:=hr.n5;exact .ptr _ _ _ l (by simp [Nu.comp,e,h1])
   ·cases h
  ·cases h; cases hr; exact .iL
  ·split at h
   ·rename_i vr e;cases h;rcases hr.ua with ⟨l,c',h1,J,h3,h4,rfl⟩ | ⟨rfl,J,b,rfl⟩
    ·exact .slice _ _ _ _ _ l (by simp [Nu.comp,e,h1]) J h3 h4
    ·exact .void _ _ _ _ J
   ·cases h
  ·cases h; cases hr; exact .mN
  ·split at h
   ·rename_i l l' e;cases h;obtain ⟨ys,rfl,hy⟩:=hr.uE;have:=ub ih e hy;exact .agg _ _ this.1 this.2
   ·cases h
  ·split at h
   ·rename_i l l' e;cases h;obtain ⟨ys,rfl,hy⟩:=hr.nY;have:=ub ih e hy;exact .tuple _ _ this.1 this.2
   ·cases h
  ·split at h
   ·rename_i l1 l2 l1' l2' e1 e2;cases h;obtain ⟨ys,dc,rfl,hy,Ai⟩:=hr.rY;have t1:=ub ih e1 hy;have t2:=ub ih e2 Ai;exact .func _ _ _ _ _ t1.1 t1.2 t2.1 t2.2
   ·cases h
  ·cases h
theorem F2 {τ:List Nat}:∀ (m:Nat) (v v2 r:Value),cM τ m v=some v2→aq (ν.comp τ) v r→aq ν v2 r:=by
 intro m
 induction m with
 | zero=>intro v v2 r h; simp [cM] at h
 | succ m ih =>
  intro v v2 r h hr;unfold cM at h
  split at h
  ·cases h; rw [hr.j9 rfl]; exact .bool _
  ·cases h; rw [hr.j9 rfl]; exact .int _ _
  ·cases h; rw [hr.j9 rfl]; exact .str _
  ·cases h; cases hr; exact .mM
  ·split at h
   ·rename_i vr e;cases h;obtain ⟨l,h1,rfl⟩:=hr.n5;simp [Nu.comp,e] at h1;exact .ptr _ _ _ l h1
   ·cases h
  ·cases h; cases hr; exact .iL
  ·split at h
   ·rename_i vr e;cases h;rcases hr.ua with ⟨l,c',h1,J,h3,h4,rfl⟩ | ⟨rfl,J,b,rfl⟩
    ·simp [Nu.comp,e] at h1;exact .slice _ _ _ _ _ l h1 J h3 h4
    ·exact .void _ _ _ _ J
   ·cases h
  ·cases h; cases hr; exact .mN
  ·split at h
   ·rename_i l l' e;cases h;obtain ⟨ys,rfl,hy⟩:=hr.uE;have:=yG ih e hy;exact .agg _ _ this.1 this.2
   ·cases h
  ·split at h
   ·rename_i l l' e;cases h;obtain ⟨ys,rfl,hy⟩:=hr.nY;have:=yG ih e hy;exact .tuple _ _ this.1 this.2
   ·cases h
  ·split at h
   ·rename_i l1 l2 l1' l2' e1 e2;cases h;obtain ⟨ys,dc,rfl,hy,Ai⟩:=hr.rY;have t1:=yG ih e1 hy;have t2:=yG ih e2 Ai;exact .func _ _ _ _ _ t1.1 t1.2 t2.1 t2.2
   ·cases h
  ·cases h
structure CF (b c:aj):Prop extends aG b c where
 rc:b.rc=none
theorem E7 {k:Prop}:∀ {σ:List Nat} {bs:List aj},zm H σ bs k→σ.length=bs.length∧(∀ (j s:Nat) (b:aj),σ[j]?=some s→bs[j]?=some b→∃ c,H[s]?=some (some c)∧CF b c)∧k
 | [],[],h=>⟨rfl,fun j s b h=>by simp at h,h⟩
 | s::σ,b::bs,h=>by
  have jk:b.rc=none∧gH H s fun c=>aG b c∧zm H σ bs k:=by
   cases b with
   | aO o e r=>exact ⟨rfl,h⟩
   | flat o n e g=>exact ⟨rfl,h⟩
   | cg r=>exact h.elim
  obtain ⟨jk,h⟩:=jk;obtain ⟨c,h1,J,h3⟩:=gA h;obtain ⟨e1,e2,e3⟩:=E7 h3;refine ⟨by simp [e1],fun j s' b' hs hb=>?_,e3⟩
  cases j with
  | zero=>simp at hs hb; subst hs; subst hb; exact ⟨c,h1,J,jk⟩
  | succ j=>exact e2 j s' b' (by simpa using hs) (by simpa using hb)
 | [],_::_,h=>h.elim
 | _::_,[],h=>h.elim
theorem bQ.F3 {ν al:Nu} {l:Loc} {b:aj} {w:World} (h:bQ ν l b w) (hs:∀ r,r < b.n→∀ v∈b.row r,cJ v=true):bQ al l b w :=
 ⟨h.ah,h.len,fun r hr j v hv=>by
  obtain ⟨v',h1,J⟩:=h.cell r hr j v hv;have Ak:=hs r hr v (List.mem_of_getElem? hv);rw [J.j9 Ak] at h1;exact ⟨v,h1,aq.j7 Ak⟩,h.plain,h.one,h.own,h.lr,h.live⟩
theorem bQ.le {ν al:Nu} {l:Loc} {b c:aj} {w:World} (h:bQ ν l c w) (hle:CF b c):bQ al l b w:=by
 refine ⟨h.ah.trans hle.ah,fun r hr=>?_,fun r hr j v hv=>?_,fun _ r hr v hv=>hle.flat r hr v hv,fun r hr v hv=>?_,fun ho _=>?_,(fun r h=>by rw [hle.rc] at h; cases h),h.live⟩
 ·rw [hle.row r hr,h.len r (Nat.lt_of_lt_of_le hr hle.n),hle.ah]
 ·rw [hle.row r hr] at hv;obtain ⟨v',h1,J⟩:=h.cell r (Nat.lt_of_lt_of_le hr hle.n) j v hv;have Ak:=hle.flat r hr v (by rw [hle.row r hr]; exact List.mem_of_getElem? hv)
  rw [J.j9 Ak] at h1;exact ⟨v,h1,aq.j7 Ak⟩
 ·rw [hle.row r hr] at hv;exact h.one r (Nat.lt_of_lt_of_le hr hle.n) v hv
 ·obtain ⟨h1,J⟩:=hle.own ho;obtain ⟨cur,t,q1,q2,q3⟩:=h.own (aj.cZ h1).1 (aj.cZ h1).2;exact ⟨cur,t,q1,q2,by omega⟩
theorem NM {σ:List Nat}:(ν.comp σ).le (ν.comp (σ++[aI])):=by
 intro j l h;unfold Nu.comp at h ⊢;cases e:σ[j]? with
 | none=>rw [e] at h; cases h
 | some s =>
  rw [List.getElem?_append_left (List.getElem?_eq_some_iff.1 e).1,e]
  rwa [e] at h
theorem KS {k:Prop} {τ:List Nat}:∀ {σ:List Nat} {bs:List aj},CA H τ σ bs k→σ.length=bs.length∧(∀ (j s:Nat) (b:aj),σ[j]?=some s→bs[j]?=some b→∃ c,H[s]?=some (some c)∧Dn τ b c∧b.rc=none)∧k
 | [],[],h=>⟨rfl,fun j s b h=>by simp at h,h⟩
 | s::σ,b::bs,h=>by
  have jk:b.rc=none∧gH H s fun c=>Dn τ b c∧CA H τ σ bs k:=by
   cases b with
   | aO o e r=>exact ⟨rfl,h⟩
   | flat o n e g=>exact ⟨rfl,h⟩
   | cg r=>exact h.elim
  obtain ⟨jk,h⟩:=jk;obtain ⟨c,h1,J,h3⟩:=gA h;obtain ⟨e1,e2,e3⟩:=KS h3;refine ⟨by simp [e1],fun j s' b' hs hb=>?_,e3⟩
  cases j with
  | zero=>simp at hs hb; subst hs; subst hb; exact ⟨c,h1,J,jk⟩
  | succ j=>exact e2 j s' b' (by simpa using hs) (by simpa using hb)
 | [],_::_,h=>h.elim
 | _::_,[],h=>h.elim
theorem MX {τ:List Nat} {m:Nat}:∀ {xs l:List Value},mO τ m xs=some l→xs.length=l.length∧∀ (j:Nat) v,xs[j]?=some v→∃ v2,l[j]?=some v2∧cM τ m v=some v2
 | [],l,h=>by rw [F1 h]; exact ⟨rfl,fun j v h=>by simp at h⟩
 | x::xs,l,h=>by
  obtain ⟨y,ys,rfl,h1,J⟩:=Fu h;obtain ⟨h3,h4⟩:=MX J;refine ⟨by simp [h3],fun j v hj=>?_⟩
  cases j with
  | zero=>simp at hj; subst hj; exact ⟨y,rfl,h1⟩
  | succ j=>exact h4 j v (by simpa using hj)
theorem VP {τ:List Nat} {m:Nat} {v v2:Value} (h:cM τ m v=some v2) (J:v2.oneCell'=true):v.oneCell'=true:=by
 cases m with
 | zero=>simp [cM] at h
 | succ m =>
  unfold cM at h
  split at h <;> first | rfl | (cases h; exact J) | (split at h <;> cases h <;> exact J) | (cases h)
theorem bQ.ler {ν:Nu} {σ:List Nat} {l:Loc} {b c:aj} {w:World} (h:bQ ν l c w) (hle:Dn σ b c) (IY:b.rc=none):bQ (ν.comp σ) l b w:=by
 rcases hle with hle | ⟨o,e,r,r',rfl,rfl,hr⟩
 ·exact h.le ⟨hle,IY⟩
 ·obtain ⟨h1,J⟩:=MX hr;have one:∀ q,q < 1→q=0:=fun q hq=>by omega
  refine ⟨h.ah,fun q hq=>?_,fun q hq j v hv=>?_,(fun h=>nomatch h),fun q hq v hv=>?_,(fun h=>nomatch h),(fun r h=>nomatch h),h.live⟩
  ·obtain rfl:=one q hq;exact h1.trans (h.len 0 hq)
  ·obtain rfl:=one q hq;obtain ⟨v2,h3,h4⟩:=J j v hv;obtain ⟨v',h5,h6⟩:=h.cell 0 hq j v2 h3;exact ⟨v',h5,wK 3 _ _ _ h4 h6⟩
  ·obtain rfl:=one q hq;obtain ⟨j,hj⟩:=List.getElem?_of_mem (show v∈r from hv)
   obtain ⟨v2,h3,h4⟩:=J j v hj;exact VP h4 (h.one 0 hq v2 (List.mem_of_getElem? h3))
theorem aaj {c:Call} {f:Operand} (hc:c.callee=.value f) (IZ:∀ g S,Φ g=some S→Dk P g S)
  (h:bX tmps f fun fv=>match fv with
   | .func (.func g) x y=>qA tmps c.args.toList fun vs=>qR x.toList vs fun l=>qR l y.toList fun args=>Hu Φ g args H aI k
   | _=>False):eO P (.call c) tmps H aI k:=by
 obtain ⟨fv,J,hf⟩:=cQ h;clear h
 split at J
 ·rename_i g x y;obtain ⟨vs,h,fw⟩:=Br J;clear J;have J:=wx (wx h);clear h;have OD:∀ (o:Oper) (ν:Nu) (a:Act),(∀ z∈(Op.call c).operands,fj ν tmps a z)→∃ ys dc,a.eval f=.func (.func g) ⟨ys⟩ ⟨dc⟩∧bf ν (x.toList++vs++y.toList) ((ys++c.args.toList.map a.eval)++dc):=by
   intro o ν a ha;have fw:=fw ν a (fun z hz=>ha z (by simp [Op.operands,Call.operands,hc]; exact .inr (by simpa using hz)))
   obtain ⟨ys,dc,jW,h1,J⟩:=(hf ν a (ha f (by simp [Op.operands,Call.operands,hc]))).rY
   exact ⟨ys,dc,jW,(h1.append fw).append J⟩
  have Pa:∀ (o:Oper) (a:Act) (w:World) (ys dc:List Value),(∀ args w,(callFunc g args).run P w=.ok (.enter g args) w)→o.op=.call c→a.eval f=.func (.func g) ⟨ys⟩ ⟨dc⟩ →
    (execOp a.eval o).run P w=.ok (.enter g ⟨(ys++c.args.toList.map a.eval)++dc⟩) w:=by
   intro o a w ys dc oA ho jW;simp only [execOp,ho,resolve,hc,jW,Deferred.ofValue,Sem.run_bind,Sem.run_pure,Result.andThen_ok,invoke,oA]
   congr 2
   apply Array.ext';simp
  have core:∀ (S:a9) (i:S.ι) (σ:List Nat) (v:Value),cU P g S→mO σ 3 (S.args i)=some (x.toList++vs++y.toList)→S.pre i→σ.length=(S.ae i).length →
    (∀ (ν:Nu) (w:World),bT ν H w→∀ id b,(S.ae i)[id]?=some b→∃ l,(ν.comp σ) id=some l∧bQ (ν.comp σ) l b w)→cM (σ++[aI]) 3 (S.val i)=some v→k v (S.new i)→eO P (.call c) tmps H aI k:=by
   intro S i σ v hs oi hp hlen Ic hv h;refine ⟨_,_,h,fun o ν a w r n ho ha hH hn next Q hN=>⟨fun _ _=>trivial,?_⟩⟩
   obtain ⟨ys,dc,jW,oc⟩:=OD o ν a ha;have aak:=ub (wK (ν:=ν) 3) oi oc;rw [Oper.semAt_eq _ _ _ (by simp [ho]),Pa o a w ys dc hs.enters ho jW]
   refine ⟨fun h=>by simp [WF,Fence.wide] at h,?_⟩
   have kH:bT (ν.comp σ) ((S.ae i).map some) w:=by
    have ld:∀ (id:Nat) (b:aj),((S.ae i).map some)[id]?=some (some b)→(S.ae i)[id]?=some b:=by
     intro id b bm;rw [List.getElem?_map] at bm;cases e:(S.ae i)[id]? with
     | none=>rw [e] at bm; cases bm
     | some b'=>rw [e] at bm; simp at bm; rw [bm]
    refine ⟨fun id b bm=>Ic ν w hH id b (ld id b bm),fun p q bp bq lp lq I0 _ _ ho=>?_⟩
    have:=hs.ro i bp (List.mem_of_getElem? (ld p bp I0));rw [this] at ho; cases ho
   have gk:∀ id,(S.ae i).length≤id→(ν.comp σ) id=none:=by
    intro id bm;simp [Nu.comp,List.getElem?_eq_none (show σ.length≤id by omega)]
   have zn:=hs.calls i hp (ν.comp σ) _ w (n - 1) aak kH gk;have yY:CallsIn (WF r) (n - 1) P g ⟨(ys++c.args.toList.map a.eval)++dc⟩ w fun e w'=>∃ v' al,e=.returned v'∧nw (ν.comp σ) al (S.ae i).length w w' (S.val i) v' (S.new i):=zn
   refine yY.mono ?_
   rintro e w' ⟨v',dP,rfl,hq⟩
   cases dz:S.new i with
   | none =>
    have e1:=hq.Ac dz;refine hN _ _ ν ⟨ν.le_refl,fun _ _=>rfl,?_,hq.below,fun _=>rfl,(fun b hb=>by rw [dz] at hb; cases hb)⟩
    refine F2 3 _ _ _ hv (hq.val.mono ?_);rw [e1]; exact NM
   | some b =>
    obtain ⟨l,h1,J,h3⟩:=hq.g7 b dz;have hle:dP.le ((ν.add aI l).comp (σ++[aI])):=by
     intro j lj hj;by_cases e:j=(S.ae i).length
     ·subst e;rw [h1] at hj; cases hj;simp [Nu.comp,← hlen,Nu.add_same]
     ·rw [hq.only j e] at hj;have:=NM (aI:=aI) j lj hj;unfold Nu.comp at this ⊢;cases e2:(σ++[aI])[j]? with
      | none=>rw [e2] at this; cases this
      | some s =>
       rw [e2] at this;exact Nu.kh hn s lj this
    have tb:=hs.fl i b dz;refine hN _ _ (ν.add aI l) ⟨Nu.kh hn,fun id bm=>Nu.iX bm,F2 3 _ _ _ hv (hq.val.mono hle),hq.below,(fun h=>by rw [dz] at h; cases h),(fun b' bz=>?_)⟩
    rw [dz] at bz; cases bz;exact ⟨l,Nu.add_same,J.F3 (J.plain tb),h3⟩
  unfold Hu at J
  split at J
  ·rename_i S hS;obtain ⟨i,hi,hp,h⟩:=J;have h:=wb h;have hs:bh P g S:=IZ g _ hS;refine ⟨_,none,h,fun o ν a w r n ho ha hH hn next Q hN=>⟨fun _ _=>trivial,?_⟩⟩
   obtain ⟨ys,dc,jW,oc⟩:=OD o ν a ha;rw [← hi] at oc;rw [Oper.semAt_eq _ _ _ (by simp [ho]),Pa o a w ys dc hs.enters ho jW]
   refine ⟨fun h=>by simp [WF,Fence.wide] at h,?_⟩
   have zn:=hs.calls i hp ν _ w (n - 1) oc;have yY:CallsIn (WF r) (n - 1) P g ⟨(ys++c.args.toList.map a.eval)++dc⟩ w fun e w'=>∃ v',e=.returned v'∧aq ν (S.val i) v'∧Below w.heap.size w w':=zn
   refine yY.mono ?_
   rintro e w' ⟨v',rfl,hv,hb⟩
   exact hN _ _ ν ⟨ν.le_refl,fun _ _=>rfl,hv,hb,fun _=>rfl,(fun b hb=>by cases hb)⟩
  ·rename_i S hS;obtain ⟨i,σ,oi,hp,h⟩:=J;obtain ⟨hlen,oz,v,hv,h⟩:=E7 h;refine core S i σ v (IZ g _ hS) oi hp hlen (fun ν w hH id b bm=>?_) hv (wb h)
   have an:id < σ.length:=by rw [hlen]; exact (List.getElem?_eq_some_iff.1 bm).1
   obtain ⟨cb,h1,J⟩:=oz id _ b (List.getElem?_eq_getElem an) bm;obtain ⟨l,h3,h4⟩:=hH.aJ _ _ h1;exact ⟨l,by simp [Nu.comp,List.getElem?_eq_getElem an,h3],h4.le J⟩
  ·rename_i S hS;obtain ⟨i,σ,oi,hp,h⟩:=J;obtain ⟨hlen,oz,v,hv,h⟩:=KS h;refine core S i σ v (IZ g _ hS) oi hp hlen (fun ν w hH id b bm=>?_) hv (wb h)
   have an:id < σ.length:=by rw [hlen]; exact (List.getElem?_eq_some_iff.1 bm).1
   obtain ⟨cb,h1,J,h5⟩:=oz id _ b (List.getElem?_eq_getElem an) bm;obtain ⟨l,h3,h4⟩:=hH.aJ _ _ h1;exact ⟨l,by simp [Nu.comp,List.getElem?_eq_getElem an,h3],h4.ler J h5⟩
  ·exact J.elim
 ·exact J.elim
structure Kept (O:Nat→Prop) (w w':World):Prop where
 os:w'.os=w.os
 tape:w'.tape=w.tape
 output:w'.output=w.output
 size:w.heap.size≤w'.heap.size
 aJ:∀ b,b < w.heap.size→¬ O b→w'.heap[b]?=w.heap[b]?
theorem Kept.refl {O:Nat→Prop} (w:World):Kept O w w:=⟨rfl,rfl,rfl,Nat.le_refl _,fun _ _ _=>rfl⟩
theorem Kept.below {O:Nat→Prop} {W w w':World} (h:Kept O W w) (hb:Below w.heap.size w w'):Kept O W w' :=
 ⟨hb.os.trans h.os,hb.tape.trans h.tape,hb.output.trans h.output,Nat.le_trans h.size hb.size,fun b h1 J=>(hb.block b (Nat.lt_of_lt_of_le h1 h.size)).trans (h.aJ b h1 J)⟩
theorem Kept.then {O O':Nat→Prop} {W w w':World} (h:Kept O W w) (h':Kept O' w w') (hO:∀ b,O' b→O b∨W.heap.size≤b):Kept O W w' :=
 ⟨h'.os.trans h.os,h'.tape.trans h.tape,h'.output.trans h.output,Nat.le_trans h.size h'.size,fun b h1 J =>
  (h'.aJ b (Nat.lt_of_lt_of_le h1 h.size) (fun h3=>(hO b h3).elim J (fun h4=>by omega))).trans (h.aJ b h1 J)⟩
structure fM (P:Program) (f:FuncId) (F:FT):Prop where
 enters:∀ args w,(callFunc f args).run P w=.ok (.enter f args) w
 calls:∀ (args:List Value) (H:aA) (K:Value→aA→Prop),F args H K→∀ (ν:Nu) (as:List Value) (w:World) (n:Nat) (O:Nat→Prop),bf ν args as→bT ν H w→(∀ id,H.length≤id→ν id=none) →
  (∀ id b l,H[id]?=some (some b)→b.own=true→ν id=some l→O l.aJ) →
  CallsIn Fence.wide n P f ⟨as⟩ w fun e w'=>∃ v v' al H',e=.returned v'∧K v H'∧aq al v v'∧ν.le al∧bT al H' w'∧(∀ id,H'.length≤id→al id=none)∧Kept O w w' ∧
   ∀ id b l,H'[id]?=some (some b)→b.own=true→al id=some l→O l.aJ∨w.heap.size≤l.aJ
structure EnvOk (P:Program) (E:Env):Prop where
 ty:∀ t ti,E.tt t=some ti→aB P t ti
 eq:∀ t∈E.eqs,∀ ti,E.tt t=some ti→xQ P t ti.zero
 fn:∀ g S,E.Φ g=some S→Dk P g S
 ft:∀ g F,E.Ψ g=some F→fM P g F:=by intro g F h; cases h
def G0 (K:Value→aA→Prop) (ν:Nu) (O:Nat→Prop) (w:World) (e:Ending) (w':World):Prop :=
 ∃ v v' al H',e=.returned v'∧K v H'∧aq al v v'∧ν.le al∧bT al H' w'∧(∀ id,H'.length≤id→al id=none)∧Kept O w w' ∧
   ∀ id b l,H'[id]?=some (some b)→b.own=true→al id=some l→O l.aJ∨w.heap.size≤l.aJ
def QN (P:Program) (l:Nat) (G:FT) (bn:Nu):Prop :=
 ∀ (args:List Value) (H:aA) (K:Value→aA→Prop),G args H K→∀ (ν:Nu) (as:List Value) (w:World) (n:Nat) (O:Nat→Prop),bn.le ν→bf ν args as→bT ν H w→(∀ id,H.length≤id→ν id=none) →
  (∀ id b l,H[id]?=some (some b)→b.own=true→ν id=some l→O l.aJ)→YieldAt Fence.wide n P l ⟨as⟩ w (G0 K ν O w)
structure zN (P:Program) (f:FuncId) (I:Nat→FT→Nu→FT):Prop where
 enters:∀ args w,(callFunc f args).run P w=.ok (.enter f args) w
 calls:∀ l G bn,QN P l G bn→∀ (args:List Value) (H:aA) (K:Value→aA→Prop),I l G bn args H K→∀ (ν:Nu) (as:List Value) (w:World) (n:Nat) (O:Nat→Prop),bn.le ν→bf ν args as→bT ν H w→(∀ id,H.length≤id→ν id=none) →
  (∀ id b l,H[id]?=some (some b)→b.own=true→ν id=some l→O l.aJ)→CallsIn Fence.wide n P f ⟨as⟩ w (G0 K ν O w)
def gP (P:Program) (E:Env):Prop:=∀ f I,E.It f=some I→zN P f I
theorem gP.none {P:Program} {E:Env} (h:E.It=fun _=>none):gP P E:=fun f I hI=>by rw [h] at hI; cases hI
structure jT (P:Program) (E:Env):Prop extends EnvOk P E where
 I3:gP P E
 ys:∀ l G r,E.ys=(l,G)::r→QN P l G E.nu
theorem EnvOk.x {P:Program} {E:Env} (h:EnvOk P E) (hI:gP P E) (hy:E.ys=[]):jT P E:=⟨h,hI,fun l G r e=>by rw [hy] at e; cases e⟩
def qI {α:Type _}:List (Nat × α)→Nat→Option α
 | [],_=>none
 | c::l,g=>match Nat.beq c.1 g with
  | true=>some c.2
  | false=>qI l g
def u9 {α:Type _} (Q:Nat→α→Prop):List (Nat × α)→Prop
 | []=>True
 | c::l=>Q c.1 c.2∧u9 Q l
theorem wL {α:Type _} {Q:Nat→α→Prop}:∀ {l:List (Nat × α)} {g:Nat} {S:α},u9 Q l→qI l g=some S→Q g S
 | c::l,g,S,hq,h=>by
  unfold qI at h
  split at h
  ·rename_i e; cases h; rw [← Nat.eq_of_beq_eq_true e]; exact hq.1
  ·exact wL hq.2 h
theorem Bz {E:Env} (hE:EnvOk P E) {op:Op} (h:lu E op tmps H aI k):eO P op tmps H aI k:=by
 cases op
 case move=>exact aaf h
 case assign=>exact VK h
 case nilCheck=>exact acz h
 case pick=>exact aag h
 case alloc=>exact Xi hE.ty h
 case box=>exact acA hE.ty h
 case build=>exact Xn hE.ty h
 case load=>exact aah hE.ty h
 case fieldAddr=>exact SE hE.ty h
 case field=>exact Xj hE.ty h
 case indexAddr=>exact SF hE.ty h
 case index=>exact Xm hE.ty h
 case extract=>exact UE h
 case makeFunc=>exact Tf h
 case unOp=>exact aeg h
 case binOp=>exact acC hE.ty hE.eq h
 case convert=>exact UK hE.ty h
 case buildSlice=>exact Sh hE.ty h
 case makeSlice=>exact SH hE.ty h
 case slice=>exact Xl hE.ty h
 case call c =>
  unfold lu at h
  dsimp only at h
  split at h
  ·rename_i f hc;exact aaj hc hE.fn h
  ·rename_i hc
   split at h
   ·rename_i x t hx ht;exact acD hE.ty hc (Array.ext' hx) (Array.ext' ht) h
   ·exact h.elim
  ·rename_i hc
   split at h
   ·rename_i x y hx;exact acE hc (Array.ext' hx) h
   ·exact h.elim
  ·rename_i hc
   split at h
   ·rename_i x t hx ht;exact acI hE.ty hc (Array.ext' hx) (Array.ext' ht) h
   ·exact h.elim
  ·rename_i hc
   split at h
   ·rename_i x y t u hx ht;exact Tj hE.ty hc (Array.ext' hx) (Array.ext' ht) h
   ·exact h.elim
  ·rename_i hc
   split at h
   ·rename_i x y hx;exact acF hc (Array.ext' hx) h
   ·exact h.elim
  ·exact h.elim
 all_goals exact h.elim
end
open Go Go.RowKit
abbrev SK:=List Value→aA→Prop
def Gu:List (List Value)→Nat→Nat→List Value→(List (List Value)→Prop)→Prop
 | [],_,_,_,_=>False
 | r::rs,0,c,vs,k=>u6 r c vs fun r'=>k (r'::rs)
 | r::rs,n+1,c,vs,k=>Gu rs n c vs fun cf=>k (r::cf)
theorem Ku:∀ {rs:List (List Value)} {n c:Nat} {vs:List Value} {k:List (List Value)→Prop},Gu rs n c vs k →
  ∃ r r',rs[n]?=some r∧(r'.length=r.length∧c+vs.length≤r.length∧(∀ (j:Nat) v,vs[j]?=some v→r'[c+j]?=some v)∧∀ (j:Nat),(j < c∨c+vs.length≤j)→r'[j]?=r[j]?)∧k (rs.set n r')
 | [],_,_,_,_,h=>h.elim
 | r::rs,0,c,vs,k,h=>by
  obtain ⟨l',h0,h1⟩:=yC h;exact ⟨r,l',rfl,h1,by simpa using h0⟩
 | r::rs,n+1,c,vs,k,h=>by
  obtain ⟨q,q',h1,J,h3⟩:=Ku (rs:=rs) h;exact ⟨q,q',by simpa using h1,J,by simpa using h3⟩
def jK:List Value→Bool
 | []=>true
 | v::l=>cJ v && jK l
theorem yp:∀ {l:List Value},jK l=true→∀ v∈l,cJ v=true
 | [],_,v,hv=>by simp at hv
 | v::l,h,u,hu=>by
  simp only [jK,Bool.and_eq_true] at h;rcases List.mem_cons.1 hu with e | e
  ·rw [e]; exact h.1
  ·exact yp h.2 u e
def MY (b:aj) (row cc:Nat) (cs:List Value) (k:aj→Prop):Prop :=
 match b with
 | .aO true ah rows=>Gu rows row cc cs fun jb=>k (.aO true ah jb)
 | .flat true n ah get=>row < n∧match jK cs with
  | true=>u6 (get row) cc cs fun r'=>k (.flat true n ah fun j=>if j=row then r' else get j)
  | false=>False
 | _=>False
def CG (E:Env) (tmps:List Value) (H:aA) (t:TypeId) (x y:Operand) (k:SK):Prop :=
 bX tmps x fun av=>match av with
  | .pointer (some ⟨id,row,sp⟩)=>bX tmps y fun v=>xm v fun cs=>cN E.tt t fun ti=>match qh cs ti.size with
   | true=>gH H id fun b=>MY b row (sp.getD 0) cs fun b'=>jx H id (some b') fun H'=>k tmps H'
   | false=>False
  | _=>False
def dq (tmps:List Value) (d:Option Tmp) (v:Value) (k:List Value→Prop):Prop :=
 match d with
 | none=>k tmps
 | some d=>xO tmps d v k
def vd (H:aA) (nb:Option aj) (k:aA→Prop):Prop :=
 match nb with
 | none=>k H
 | some b=>pB H (some b) k
structure Fr where
 W:World
 O:Nat→Prop
 ν:Nu
 n0:Nat
 fresh:∀ id,n0≤id→ν id=none
structure lz (F:Fr) (E:Env):Prop where
 n0:F.n0≤E.base
 nu:E.nu.le F.ν
def Marks (n:Nat) (ds:List Deferred) (w:World):Prop :=
 ds.Nodup∧∀ d∈ds,∃ D,d={ target:=.collected D,args:=#[] }∧n≤D∧w.heap[D]?=some (.deferred (some []))
theorem Marks.nil (n:Nat) (w:World):Marks n [] w:=⟨.nil,fun d hd=>by cases hd⟩
theorem BA {n:Nat} {ds:List Deferred} {w w':World} (h:Marks n ds w) (hk:∀ D:Nat,w.heap[D]?=some (Obj.deferred (some []))→w'.heap[D]?=some (Obj.deferred (some []))):Marks n ds w' :=
 ⟨h.1,fun d hd=>let ⟨D,h1,J,h3⟩:=h.2 d hd; ⟨D,h1,J,hk D h3⟩⟩
theorem Marks.below {n:Nat} {ds:List Deferred} {w w':World} (h:Marks n ds w) (hb:Below w.heap.size w w'):Marks n ds w' :=
 BA h fun D hD=>(hb.block D (Array.getElem?_eq_some_iff.1 hD).1).trans hD
theorem Marks.cT {n:Nat} {ds:List Deferred} {w w':World} (h:Marks n ds w) {b:Nat} {cur:Array Value} {t:TypeId} {z:Nat × Nat} (hb:w.heap[b]?=some (Obj.cells cur t z)) (hk:∀ q:Nat,q≠b→w'.heap[q]?=w.heap[q]?):Marks n ds w' :=
 BA h fun D hD=>(hk D (fun e=>by rw [e,hb] at hD; cases hD)).trans hD
structure bu (F:Fr) (ν:Nu) (tmps:List Value) (H:aA) (a:Act) (w:World):Prop where
 tm:bf ν tmps a.tmps.toList
 df:Marks F.W.heap.size a.defers w
 hp:bT ν H w
 fr:∀ id,H.length≤id→ν id=none
 kp:Kept F.O F.W w
 own:∀ id b l,H[id]?=some (some b)→b.own=true→ν id=some l→F.O l.aJ∨F.W.heap.size≤l.aJ
 mono:F.ν.le ν
section
variable {P:Program} {E:Env} {r:Option Nat} {n:Nat} {F:Fr}
theorem bu.mJ {ν:Nu} {tmps:List Value} {H:aA} {a:Act} {w:World} (h:bu F ν tmps H a w) (x:Operand):fj ν tmps a x:=by
 intro t ht v hv;obtain ⟨v',h1,J⟩:=h.tm.get hv;exact ⟨v',by simpa using h1,J⟩
theorem rV (a:Act) (d:Tmp) (v:Value):(a.put (some d) v).tmps.toList=a.tmps.toList.set d v:=by simp [Act.put]
theorem bu.dst {ν:Nu} {tmps:List Value} {H:aA} {a:Act} {w:World} (h:bu F ν tmps H a w) {d:Option Tmp} {v v':Value} (hv:aq ν v v') {k:List Value→Prop} (hk:dq tmps d v k) :
  ∃ t',k t'∧bu F ν t' H (a.put d v') w:=by
 cases d with
 | none=>exact ⟨tmps,hk,h⟩
 | some d =>
  obtain ⟨h1,J⟩:=o4 hk;exact ⟨_,J,⟨by rw [rV]; exact h.tm.set hv d,h.df,h.hp,h.fr,h.kp,h.own,h.mono⟩⟩
theorem bu.quiet {ν al:Nu} {tmps:List Value} {H:aA} {a:Act} {w w':World} (h:bu F ν tmps H a w) {v v':Value} {nb:Option aj} (hq:nw ν al H.length w w' v v' nb)
  {k:aA→Prop} (hk:vd H nb k):∃ H',k H'∧bu F al tmps H' a w':=by
 have hb:=hq.below;cases nb with
 | none =>
  have:=hq.Ac rfl;subst this;exact ⟨H,hk,⟨h.tm,h.df.below hb,h.hp.below hb,h.fr,h.kp.below hb,h.own,h.mono⟩⟩
 | some b =>
  obtain ⟨l,hl,hB,hle⟩:=hq.g7 b rfl;refine ⟨_,yw hk,⟨h.tm.mono hq.le,h.df.below hb,?_,fun id bm=>?_,h.kp.below hb,fun id c lc hc ho dH=>?_,Nu.le_trans h.mono hq.le⟩⟩
  ·have k9:al=ν.add H.length l:=by
    funext id
    by_cases e:id=H.length
    ·subst e; rw [hl,Nu.add_same]
    ·rw [hq.only id e,Nu.iX e]
   subst k9;refine h.hp.push hb (h.fr _ (Nat.le_refl _)) _ (fun j c hj=>?_) hle hB
   rw [List.getElem?_append] at hj
   split at hj
   ·rename_i an; exact .inr ⟨by omega,hj⟩
   ·rename_i eF;have:j - H.length=0:=by
     have:=(List.getElem?_eq_some_iff.1 hj).1;simp at this; omega
    rw [this] at hj;simp at hj;exact .inl ⟨by omega,hj.symm⟩
  ·rw [List.length_append,List.length_singleton] at bm;rw [hq.only id (by omega)]
   exact h.fr id (by omega)
  ·rw [List.getElem?_append] at hc
   split at hc
   ·rename_i an;have aE:id≠H.length:=by omega
    rw [hq.only id aE] at dH;exact h.own id c lc hc ho dH
   ·rename_i eF;have:id - H.length=0:=by
     have:=(List.getElem?_eq_some_iff.1 hc).1;simp at this; omega
    have:id=H.length:=by omega
    subst this;rw [hl] at dH; cases dH;exact .inr (Nat.le_trans h.kp.size hle)
structure x6 (b b':aj) (row cc:Nat) (cs:List Value):Prop where
 own:b.oh=true
 PU:b'.oh=true
 n:b'.n=b.n
 ah:b'.ah=b.ah
 flat:b'.iY=b.iY
 lt:row < b.n
 len:(b'.row row).length=(b.row row).length
 fit:cc+cs.length≤(b.row row).length
 DP:∀ j v,cs[j]?=some v→(b'.row row)[cc+j]?=some v
 out:∀ j,(j < cc∨cc+cs.length≤j)→(b'.row row)[j]?=(b.row row)[j]?
 DQ:∀ q,q≠row→b'.row q=b.row q
 pl:b.iY=true→∀ v∈cs,cJ v=true
theorem R9 {b:aj} {row cc:Nat} {cs:List Value} {k:aj→Prop} (h:MY b row cc cs k):∃ b',x6 b b' row cc cs∧k b':=by
 cases b with
 | aO o ah rows =>
  cases o with
  | false=>exact h.elim
  | true =>
   obtain ⟨q,l',h1,⟨k1,k2,k3,k4⟩,h3⟩:=Ku h;have an:row < rows.length:=(List.getElem?_eq_some_iff.1 h1).1;have e1:(aj.aO true ah (rows.set row l')).row row=l':=by simp [aj.row,List.getD,an]
   have e2:(aj.aO true ah rows).row row=q:=by simp [aj.row,List.getD,h1]
   refine ⟨.aO true ah (rows.set row l'),⟨rfl,rfl,by simp [aj.n],rfl,rfl,an,by rw [e1,e2]; exact k1,by rw [e2]; exact k2,by rw [e1]; exact k3,by rw [e1,e2]; exact k4,fun p hp=>?_,fun h=>by simp [aj.iY] at h⟩,h3⟩
   simp [aj.row,List.getD,List.getElem?_set,Ne.symm hp]
 | flat o n ah get =>
  cases o with
  | false=>exact h.elim
  | true =>
   obtain ⟨an,h⟩:=h
   split at h
   ·rename_i hs;obtain ⟨l',h0,k1,k2,k3,k4⟩:=yC h;have e1:(aj.flat true n ah fun j=>if j=row then l' else get j).row row=l':=by simp [aj.row]
    exact ⟨.flat true n ah fun j=>if j=row then l' else get j,⟨rfl,rfl,rfl,rfl,rfl,an,by rw [e1]; exact k1,k2,by rw [e1]; exact k3,by rw [e1]; exact k4,fun p hp=>by simp [aj.row,hp],fun _=>yp hs⟩,h0⟩
   ·exact h.elim
 | cg r=>exact h.elim
theorem x6.o {b b':aj} {row cc:Nat} {cs:List Value} (h:x6 b b' row cc cs):b.own=true:=(aj.cZ h.own).1
theorem x6.o' {b b':aj} {row cc:Nat} {cs:List Value} (h:x6 b b' row cc cs):b'.own=true:=(aj.cZ h.PU).1
theorem oW (b:Nat):∀ (vs:List Value) (o:Nat) (w:World),(w.setCells b o vs).heap.size=w.heap.size
 | [],_,_=>rfl
 | v::r,o,w=>by rw [World.setCells,oW b r]; simp [World.setCell]
theorem rM (b:Nat):∀ (vs:List Value) (o:Nat) (w:World) (k:Nat),k≠b→(w.setCells b o vs).heap[k]?=w.heap[k]?
 | [],_,_,_,_=>rfl
 | v::r,o,w,k,hk=>by rw [World.setCells,rM b r _ _ k hk]; exact Below.heap_setCell _ _ _ _ hk
theorem A5 (b:Nat):∀ (vs:List Value) (o:Nat) (w:World) (cur:Array Value) (t:TypeId),w.heap[b]?=some (.cells cur t (0,0)) →
  ∃ pI,(w.setCells b o vs).heap[b]?=some (.cells pI t (0,0))∧pI.size=cur.size
 | [],_,w,cur,t,h=>⟨cur,h,rfl⟩
 | v::r,o,w,cur,t,h=>by
  rw [World.setCells];have h1:(w.setCell ⟨b,o,none⟩ v).heap[b]?=some (.cells (cur.setIfInBounds o v) t (0,0)):=by
   simp [World.setCell,Array.getElem?_modify,h]
  obtain ⟨pI,J,h3⟩:=A5 b r (o+1) _ _ t h1;exact ⟨pI,J,by rw [h3]; simp⟩
theorem wc (b:Nat):∀ (vs:List Value) (o:Nat) (w:World),(w.setCells b o vs).os=w.os∧(w.setCells b o vs).tape=w.tape∧(w.setCells b o vs).output=w.output
 | [],_,_=>⟨rfl,rfl,rfl⟩
 | v::r,o,w=>by rw [World.setCells]; exact wc b r _ _
theorem bT.store {ν:Nu} {H:aA} {w:World} (h:bT ν H w) {id:Nat} {b b':aj} {l:Loc} (hb:H[id]?=some (some b)) (hl:ν id=some l) {row cc:Nat} {cs eM:List Value}
  (hu:x6 b b' row cc cs) (hr:bf ν cs eM) (h1:∀ v∈cs,v.oneCell'=true) :
  bT ν (H.set id (some b')) (w.setCells l.aJ (l.base+row*l.ah+cc) eM):=by
 obtain ⟨l',cE,hB⟩:=h.aJ id b hb;rw [hl] at cE; cases cE;have bm:id < H.length:=(List.getElem?_eq_some_iff.1 hb).1;have ld:∀ j c,(H.set id (some b'))[j]?=some (some c)→(j=id∧c=b')∨(j≠id∧H[j]?=some (some c)):=by
  intro j c hj;by_cases e:j=id
  ·subst e; rw [List.getElem?_set_self bm] at hj; cases hj; exact .inl ⟨rfl,rfl⟩
  ·rw [List.getElem?_set_ne (Ne.symm e)] at hj; exact .inr ⟨e,hj⟩
 have Ib:=hB.ah;have hlen:=hB.len row hu.lt;obtain ⟨cur,t,jU,fL,Pb⟩:=hB.own hu.o (aj.cZ hu.own).2;have eW:eM.length=cs.length:=hr.1.symm
 -- the cells of other places
 have xR:∀ r j,r < b.n→j < b.ah→(r≠row∨j < cc∨cc+cs.length≤j)→(w.setCells l.aJ (l.base+row*l.ah+cc) eM).cell? (l.at r j)=w.cell? (l.at r j):=by
  intro r j iP hj aE;refine World.cell?_setCells_out l.aJ _ _ _ _ (fun _ _=>?_)
  have xS:=hu.fit;rw [hlen] at xS;simp only [Loc.at,Ib,eW];rcases Nat.lt_trichotomy r row with h | h | h
  ·left
   have:(r+1)*b.ah≤row*b.ah:=Nat.mul_le_mul_right _ h;rw [Nat.add_mul] at this;omega
  ·subst h;rcases aE with aE | aE | aE
   ·exact absurd rfl aE
   ·left; omega
   ·right; omega
  ·right
   have:(row+1)*b.ah≤r*b.ah:=Nat.mul_le_mul_right _ h;rw [Nat.add_mul] at this;omega
 have pR:∀ j v,eM[j]?=some v→(w.setCells l.aJ (l.base+row*l.ah+cc) eM).cell? (l.at row (cc+j))=some v:=by
  intro j v hv;have hj:j < eM.length:=(List.getElem?_eq_some_iff.1 hv).1;have xS:=hu.fit;have:=World.cell?_setCells_in l.aJ eM (l.base+row*l.ah+cc) w (fun m hm=>by
   have IX:cc+m < (b.row row).length:=by omega
   obtain ⟨u,vx,_⟩:=hB.cell row hu.lt (cc+m) _ (List.getElem?_eq_getElem IX);simp only [Loc.at] at vx;rw [show l.base+row*l.ah+cc+m=l.base+row*l.ah+(cc+m) by omega,vx]; rfl) j hj
  simp only [Loc.at];rw [show l.base+row*l.ah+(cc+j)=l.base+row*l.ah+cc+j by omega,this]
  rw [← hv];simp
 refine ⟨fun j c hj=>?_,fun i j bi bj li lj hi hj aE ho e1 e2=>?_⟩
 ·rcases ld j c hj with ⟨rfl,rfl⟩ | ⟨aE,gj⟩
  ·refine ⟨l,hl,⟨by rw [hu.ah]; exact hB.ah,fun q hq=>?_,fun q hq j v hv=>?_,fun hf q hq v hv=>?_,fun q hq v hv=>?_,fun _ _=>?_,(fun r h=>by rw [(aj.cZ hu.PU).2] at h; cases h),?_⟩⟩
   ·rw [hu.n] at hq;by_cases e:q=row
    ·subst e; rw [hu.len,hu.ah]; exact hlen
    ·rw [hu.DQ q e,hu.ah]; exact hB.len q hq
   ·rw [hu.n] at hq;by_cases e:q=row
    ·subst e;by_cases hj:cc≤j∧j < cc+cs.length
     ·have DR:j - cc < cs.length:=by omega
      have:=hu.DP (j - cc) _ (List.getElem?_eq_getElem DR);rw [show cc+(j - cc)=j by omega,hv] at this
      cases this;obtain ⟨v',J,h3⟩:=hr.get (List.getElem?_eq_getElem DR);have:=pR (j - cc) v' J;rw [show cc+(j - cc)=j by omega] at this
      exact ⟨v',this,h3⟩
     ·have jl:=hu.out j (by omega)
      rw [jl] at hv;obtain ⟨v',J,h3⟩:=hB.cell q hq j v hv;have gj:j < b.ah:=by rw [← hlen]; exact (List.getElem?_eq_some_iff.1 hv).1
      exact ⟨v',by rw [xR q j hq gj (.inr (by omega))]; exact J,h3⟩
    ·rw [hu.DQ q e] at hv;obtain ⟨v',J,h3⟩:=hB.cell q hq j v hv;have gj:j < b.ah:=by rw [← hB.len q hq]; exact (List.getElem?_eq_some_iff.1 hv).1
     exact ⟨v',by rw [xR q j hq gj (.inl e)]; exact J,h3⟩
   ·rw [hu.n] at hq; rw [hu.flat] at hf;by_cases e:q=row
    ·subst e;obtain ⟨j,hj,rfl⟩:=List.getElem_of_mem hv;by_cases DR:cc≤j∧j < cc+cs.length
     ·have:=hu.DP (j - cc) _ (List.getElem?_eq_getElem (by omega:j - cc < cs.length))
      rw [show cc+(j - cc)=j by omega,List.getElem?_eq_getElem hj] at this
      injection this with this
      rw [this];exact hu.pl hf _ (List.getElem_mem _)
     ·have:=hu.out j (by omega)
      rw [List.getElem?_eq_getElem hj] at this;exact hB.plain hf q hq _ (List.mem_of_getElem? this.symm)
    ·rw [hu.DQ q e] at hv; exact hB.plain hf q hq v hv
   ·rw [hu.n] at hq;by_cases e:q=row
    ·subst e;obtain ⟨j,hj,rfl⟩:=List.getElem_of_mem hv;by_cases DR:cc≤j∧j < cc+cs.length
     ·have:=hu.DP (j - cc) _ (List.getElem?_eq_getElem (by omega:j - cc < cs.length))
      rw [show cc+(j - cc)=j by omega,List.getElem?_eq_getElem hj] at this
      injection this with this
      rw [this];exact h1 _ (List.getElem_mem _)
     ·have:=hu.out j (by omega)
      rw [List.getElem?_eq_getElem hj] at this;exact hB.one q hq _ (List.mem_of_getElem? this.symm)
    ·rw [hu.DQ q e] at hv; exact hB.one q hq v hv
   ·obtain ⟨pI,J,h3⟩:=A5 l.aJ eM (l.base+row*l.ah+cc) w cur t jU;exact ⟨pI,t,J,by rw [h3]; exact fL,by rw [hu.n]; exact Pb⟩
   ·rw [oW]; exact hB.live
  ·obtain ⟨lj,c5,ri⟩:=h.aJ j c gj;have Ie:=h.sep id j b c l lj hb gj (Ne.symm aE) hu.o hl c5;exact ⟨lj,c5,ri.same (rM _ _ _ _ _ (Ne.symm Ie)) (by rw [oW]; exact Nat.le_refl _)⟩
 ·rcases ld i bi hi with ⟨rfl,rfl⟩ | ⟨hni,aP⟩ <;> rcases ld j bj hj with ⟨rfl,rfl⟩ | ⟨hnj,gj⟩
  ·exact absurd rfl aE
  ·exact h.sep _ j b bj li lj hb gj aE hu.o e1 e2
  ·exact h.sep i _ bi b li lj aP hb aE ho e1 e2
  ·exact h.sep i j bi bj li lj aP gj aE ho e1 e2
theorem Lf (hE:EnvOk P E) {o:Oper} {t:TypeId} {x y:Operand} (ho:o.op=.store t x y) {ν:Nu} {tmps ts:List Value} {H:aA} {a b:Act} {w:World} (hi:bu F ν ts H b w) {k:SK}
  (hx:fj ν tmps a x) (hy:fj ν tmps a y) (h:CG E tmps H t x y k):∃ w' H',(execOp a.eval o).run P w=.ok .skip w'∧bu F ν ts H' b w'∧k tmps H':=by
 obtain ⟨av,J,hv⟩:=kQ h hx;clear h
 split at J
 ·rename_i id row sp;obtain ⟨v,h,hvv⟩:=kQ J hy;clear J;have J:=Bd h;clear h;obtain ⟨ti,ht,h⟩:=cR J;clear J
  split at h
  ·rename_i bd;obtain ⟨hlen,qS⟩:=yo bd;obtain ⟨bl,hb,J⟩:=gA h;clear h;obtain ⟨b',hu,h⟩:=R9 J;clear J;obtain ⟨an,J⟩:=mC h;clear h;obtain ⟨l,hl,he⟩:=hv.n5;obtain ⟨l',cE,hB⟩:=hi.hp.aJ id bl hb;rw [hl] at cE; cases cE;have hc:=hvv.cells;obtain ⟨cur,tt',jU,fL,Pb⟩:=hB.own hu.o (aj.cZ hu.own).2;obtain ⟨i,iM,gz,_⟩:=(hE.ty _ _ ht).info;have acJ:∀ u∈(a.eval y).cells.toList,u.oneCell'=true:=by
    intro u tc;obtain ⟨j,hj,rfl⟩:=List.getElem_of_mem tc;have gj:j < v.cells.toList.length:=by rw [hc.1]; exact hj
    have:=hc.2 j _ _ (List.getElem?_eq_getElem gj) (List.getElem?_eq_getElem hj);rw [this.Ce]; exact qS _ (List.getElem_mem _)
   have au:(storeCells (l.at row (sp.getD 0)) (a.eval y).cells.toList).run P w=.ok () (w.setCells l.aJ (l.base+row*l.ah+sp.getD 0) (a.eval y).cells.toList):=by
    have:=run_storeCells_cells (P:=P) l.aJ (l.base+row*l.ah+sp.getD 0) (a.eval y).cells.toList 0 w (fun j hj=>by
     have xS:=hu.fit;rw [hc.1] at xS;obtain ⟨u,vx,_⟩:=hB.cell row hu.lt (sp.getD 0+j) _ (List.getElem?_eq_getElem (by omega))
     simp only [Loc.at] at vx;rw [show l.base+row*l.ah+sp.getD 0+0+j=l.base+row*l.ah+(sp.getD 0+j) by omega,vx]; rfl) (fun j hj=>by
     simp [World.frozen?,jU]) acJ
    simpa [Loc.at] using this
   have ba:(a.eval y).cells.size=i.size:=by rw [gz,← hlen,hc.1]; simp
   have bC:(execOp a.eval o).run P w=.ok .skip (w.setCells l.aJ (l.base+row*l.ah+sp.getD 0) (a.eval y).cells.toList):=by
    simp [execOp,ho,Instr.storeAt,he,Instr.sureAddr,storeVar,gn iM,ba,au]
   have aP:bu F ν ts (H.set id (some b')) b (w.setCells l.aJ (l.base+row*l.ah+sp.getD 0) (a.eval y).cells.toList):=by
    obtain ⟨o1,o2,o3⟩:=wc l.aJ (a.eval y).cells.toList (l.base+row*l.ah+sp.getD 0) w;refine ⟨hi.tm,hi.df.cT jU (fun q hq=>rM _ _ _ _ _ hq),hi.hp.store hb hl hu hc qS,fun j hj=>hi.fr j (by simpa using hj),⟨o1.trans hi.kp.os,o2.trans hi.kp.tape,o3.trans hi.kp.output,by rw [oW]; exact hi.kp.size,fun q h1 J=>?_⟩,fun j c lc hj oB dH=>?_,hi.mono⟩
    ·rw [rM]
     ·exact hi.kp.aJ q h1 J
     ·intro e;subst e;rcases hi.own id bl l hb hu.o hl with h | h
      ·exact J h
      ·omega
    ·by_cases e:j=id
     ·subst e;rw [hl] at dH; cases dH;exact hi.own j bl l hb hu.o hl
     ·rw [List.getElem?_set_ne (Ne.symm e)] at hj;exact hi.own j c lc hj oB dH
   exact ⟨_,_,bC,aP,J⟩
  ·exact h.elim
 ·exact J.elim
theorem SL (hE:EnvOk P E) {o:Oper} {t:TypeId} {x y:Operand} (ho:o.op=.store t x y) {ν:Nu} {tmps:List Value} {H:aA} {a:Act} {w:World} (hi:bu F ν tmps H a w) {k:SK}
  (h:CG E tmps H t x y fun t' H'=>dq t' o.dst undef fun vy=>k vy H') {next:Act→World→Prop} {Q:Exit→Act→World→Prop}
  (hk:∀ ν t' H' a' w',bu F ν t' H' a' w'→k t' H'→next a' w'):o.wpIn (WF r) n P a w next Q:=by
 obtain ⟨w',H',bC,aP,J⟩:=Lf hE ho hi (hi.mJ x) (hi.mJ y) h;obtain ⟨t',I5,aej⟩:=aP.dst (.undef ν) J;refine ⟨fun _ _=>trivial,?_⟩
 rw [Oper.semAt_eq _ _ _ (by simp [ho]),bC]
 exact hk _ _ _ _ _ aej I5
end
open Go Go.RowKit
def pC (id:Nat):Nat→Value→Bool
 | 0,_=>true
 | k+1,v=>match v with
  | .bool _ | .int _ _ | .string _ | .pointer none | .slice none _ _ | .nilFunc | .chan none=>false
  | .pointer (some ⟨j,_,_⟩)=>Nat.beq j id
  | .slice (some ⟨j,_,_⟩) _ _=>Nat.beq j id
  | .func _ ⟨l⟩ ⟨m⟩=>l.foldr (fun v acc=>pC id k v || acc) false || m.foldr (fun v acc=>pC id k v || acc) false
  | .agg ⟨l⟩=>l.foldr (fun v acc=>pC id k v || acc) false
  | .tuple ⟨l⟩=>l.foldr (fun v acc=>pC id k v || acc) false
  | _=>true
def sE (id k:Nat) (l:List Value):Bool:=l.foldr (fun v acc=>pC id k v || acc) false
theorem wj {id k:Nat}:∀ {l:List Value},sE id k l=false→∀ v∈l,pC id k v=false
 | [],_,v,hv=>by simp at hv
 | x::l,h,v,hv=>by
  simp only [sE,List.foldr_cons,Bool.or_eq_false_iff] at h;rcases List.mem_cons.1 hv with e | e
  ·rw [e]; exact h.1
  ·exact wj (l:=l) h.2 v e
def Nu.off (ν al:Nu) (id:Nat):Prop:=∀ j,j≠id→al j=ν j
theorem bf.map {ν al:Nu} {xs ys:List Value} (h:bf ν xs ys) (hm:∀ v∈xs,∀ r,aq ν v r→aq al v r):bf al xs ys :=
 ⟨h.1,fun i x y hx hy=>hm x (List.mem_of_getElem? hx) y (h.2 i x y hx hy)⟩
theorem ES {id:Nat} {ν al:Nu} (gV:ν.off al id):∀ (k:Nat) (v r:Value),pC id k v=false→aq ν v r→aq al v r:=by
 intro k
 induction k with
 | zero=>intro v r h; simp [pC] at h
 | succ k ih =>
  intro v r h hr;cases hr with
  | bool b=>exact .bool b
  | int q n=>exact .int q n
  | str s=>exact .str s
  | mM=>exact .mM
  | ptr j row sp l hl=>exact .ptr j row sp l (by rw [gV j (Nat.ne_of_beq_eq_false h)]; exact hl)
  | iL=>exact .iL
  | slice j row n c c' l hl hc hn hr=>exact .slice j row n c c' l (by rw [gV j (Nat.ne_of_beq_eq_false h)]; exact hl) hc hn hr
  | void j row c a hc=>exact .void j row c a hc
  | mh j row m n c' l hl hm hn hr=>exact .mh j row m n c' l (by rw [gV j (Nat.ne_of_beq_eq_false h)]; exact hl) hm hn hr
  | kZ j row a=>exact .kZ j row a
  | mN=>exact .mN
  | func fn xs ys nL dc h1 J h3 h4 =>
   have h:(sE id k xs || sE id k nL)=false:=h;rw [Bool.or_eq_false_iff] at h;have a1:=bf.map (al:=al) ⟨h1,J⟩ (fun v hv r hr=>ih v r (wj h.1 v hv) hr)
   have a2:=bf.map (al:=al) ⟨h3,h4⟩ (fun v hv r hr=>ih v r (wj h.2 v hv) hr)
   exact .func fn _ _ _ _ a1.1 a1.2 a2.1 a2.2
  | agg xs ys h1 J =>
   have h:sE id k xs=false:=h;have a1:=bf.map (al:=al) ⟨h1,J⟩ (fun v hv r hr=>ih v r (wj h v hv) hr)
   exact .agg _ _ a1.1 a1.2
  | tuple xs ys h1 J =>
   have h:sE id k xs=false:=h;have a1:=bf.map (al:=al) ⟨h1,J⟩ (fun v hv r hr=>ih v r (wj h v hv) hr)
   exact .tuple _ _ a1.1 a1.2
  | dead=>exact .dead _ (by assumption)
def qJ (id:Nat):Nat→Value→Option Value
 | 0,_=>none
 | k+1,v=>match pC id 3 v with
  | false=>some v
  | true=>match v.oneCell' with
   | true=>some (.chan none)
   | false=>match v with
    | .agg ⟨l⟩=>match l.foldr (fun v acc=>match qJ id k v,acc with | some x,some xs=>some (x::xs) | _,_=>none) (some []) with | some l'=>some (.agg ⟨l'⟩) | none=>none
    | .tuple ⟨l⟩=>match l.foldr (fun v acc=>match qJ id k v,acc with | some x,some xs=>some (x::xs) | _,_=>none) (some []) with | some l'=>some (.tuple ⟨l'⟩) | none=>none
    | _=>none
def zo (id k:Nat) (l:List Value):Option (List Value):=l.foldr (fun v acc=>match qJ id k v,acc with | some x,some xs=>some (x::xs) | _,_=>none) (some [])
theorem Tk {id m:Nat} {x:Value} {xs l:List Value} (h:zo id m (x::xs)=some l):∃ y ys,l=y::ys∧qJ id m x=some y∧zo id m xs=some ys:=by
 unfold zo at h;rw [List.foldr_cons] at h
 split at h
 ·rename_i y ys h1 J;exact ⟨y,ys,(Option.some.inj h).symm,h1,J⟩
 ·cases h
theorem Fv {id m:Nat} {ν al:Nu} (h:∀ v v2 r,qJ id m v=some v2→aq ν v r→aq al v2 r):∀ {xs l rs:List Value},zo id m xs=some l→bf ν xs rs→bf al l rs
 | [],l,rs,h1,J=>by
  have:l=[]:=by simp [zo] at h1; exact h1
  rw [this,J.iW]; exact .nil _
 | x::xs,l,rs,h1,J=>by
  obtain ⟨y,ys,rfl,e1,e2⟩:=Tk h1;obtain ⟨r,cf,rfl,k1,k2⟩:=J.jr;exact .cons (h _ _ _ e1 k1) (Fv h e2 k2)
theorem UL {id:Nat} {ν al:Nu} (gV:ν.off al id):∀ (m:Nat) (v v2 r:Value),qJ id m v=some v2→aq ν v r→aq al v2 r:=by
 intro m
 induction m with
 | zero=>intro v v2 r h; simp [qJ] at h
 | succ m ih =>
  intro v v2 r h hr;unfold qJ at h
  split at h
  ·rename_i hm;cases h;exact ES gV 3 v r hm hr
  ·split at h
   ·rename_i h1;cases h;exact .dead _ (by rw [hr.Ce]; exact h1)
   ·split at h
    ·split at h
     ·rename_i l l' e;cases h;obtain ⟨ys,rfl,hy⟩:=hr.uE;have:=Fv (ih) e hy;exact .agg _ _ this.1 this.2
     ·cases h
    ·split at h
     ·rename_i l l' e;cases h;obtain ⟨ys,rfl,hy⟩:=hr.nY;have:=Fv (ih) e hy;exact .tuple _ _ this.1 this.2
     ·cases h
    ·cases h
def zO {α:Type} (o:Option α) (k:α→Prop):Prop:=match o with | some a=>k a | none=>False
theorem Fw {α:Type} {o:Option α} {k:α→Prop} (h:zO o k):∃ a,o=some a∧k a:=by
 unfold zO at h; split at h
 ·exact ⟨_,rfl,h⟩
 ·exact h.elim
theorem EU {P:Value→Value→Prop}:∀ {ys:List Value},(∀ y∈ys,∃ x,P x y)→∃ xs:List Value,xs.length=ys.length∧∀ (i:Nat) x y,xs[i]?=some x→ys[i]?=some y→P x y
 | [],_=>⟨[],rfl,fun i x y hx=>by simp at hx⟩
 | y::ys,h=>by
  obtain ⟨x,hx⟩:=h y (by simp)
  obtain ⟨xs,h1,J⟩:=EU (ys:=ys) (fun z hz=>h z (by simp [hz]))
  refine ⟨x::xs,by simp [h1],fun i a b ha hb=>?_⟩
  cases i with
  | zero=>simp at ha hb; subst ha; subst hb; exact hx
  | succ i=>exact J i a b (by simpa using ha) (by simpa using hb)
theorem aq.any {ν:Nu} {v r:Value} (h:aq ν v r):∃ x,∀ al,aq al x r:=by
 induction h with
 | agg xs ys h1 _ ih =>
  obtain ⟨zs,e1,e2⟩:=EU (P:=fun x y=>∀ al,aq al x y) (ys:=ys) (fun y hy=>by
   obtain ⟨i,hi,rfl⟩:=List.getElem_of_mem hy;exact ih i _ _ (List.getElem?_eq_getElem (h1 ▸ hi)) (List.getElem?_eq_getElem hi))
  exact ⟨.agg ⟨zs⟩,fun al=>.agg _ _ e1 (fun i x y hx hy=>e2 i x y hx hy al)⟩
 | tuple xs ys h1 _ ih =>
  obtain ⟨zs,e1,e2⟩:=EU (P:=fun x y=>∀ al,aq al x y) (ys:=ys) (fun y hy=>by
   obtain ⟨i,hi,rfl⟩:=List.getElem_of_mem hy;exact ih i _ _ (List.getElem?_eq_getElem (h1 ▸ hi)) (List.getElem?_eq_getElem hi))
  exact ⟨.tuple ⟨zs⟩,fun al=>.tuple _ _ e1 (fun i x y hx hy=>e2 i x y hx hy al)⟩
 | dead w hw=>exact ⟨.chan none,fun al=>.dead w hw⟩
 | _=>exact ⟨.chan none,fun al=>.dead _ rfl⟩
def I6 (i:Nat):List Nat→Bool
 | []=>false
 | a::l=>match Nat.beq a i with
  | true=>true
  | false=>I6 i l
def uQ (a:Nat→Value) (id:Nat) (aa:List Nat):Nat→List Value→(List Value→Prop)→Prop
 | _,[],k=>k []
 | i,v::l,k=>match I6 i aa with
  | true=>zO (qJ id 3 v) fun v'=>uQ a id aa (i+1) l fun l'=>k (v'::l')
  | false=>uQ a id aa (i+1) l fun l'=>k (a i::l')
theorem NN {ν:Nu} {t r:List Value} (h:bf ν t r):∃ a:Nat→Value,∀ (j:Nat) (y:Value),r[j]?=some y→∀ al,aq al (a j) y:=by
 have hx:∀ j:Nat,∃ x:Value,∀ y:Value,r[j]?=some y→∀ al,aq al x y:=by
  intro j;cases hj:r[j]? with
  | none=>exact ⟨undef,fun y hy=>by simp at hy⟩
  | some y =>
   have an:j < t.length:=by
    rw [h.1];exact (List.getElem?_eq_some_iff.1 hj).1
   obtain ⟨x,hx⟩:=(h.2 j t[j] y (List.getElem?_eq_getElem an) hj).any;exact ⟨x,fun y' hy=>by cases hy; exact hx⟩
 exact ⟨fun j=>Classical.choose (hx j),fun j y hy=>Classical.choose_spec (hx j) y hy⟩
theorem MZ {a:Nat→Value} {i:Nat} {y:Value} {ys:List Value} (h:∀ (j:Nat) (z:Value),(y::ys)[j]?=some z→∀ al:Nu,aq al (a (i+j)) z) :
  (∀ al:Nu,aq al (a i) y)∧∀ (j:Nat) (z:Value),ys[j]?=some z→∀ al:Nu,aq al (a (i+1+j)) z:=by
 refine ⟨fun al=>h 0 y rfl al,fun j z hz al=>?_⟩
 have:=h (j+1) z (by simpa using hz) al
 rw [show i+1+j=i+(j+1) by omega]
 exact this
theorem E8 {a:Nat→Value} {id:Nat} {aa:List Nat}:∀ {t:List Value} {i:Nat} {k:List Value→Prop},uQ a id aa i t k→∀ (ν:Nu) r,bf ν t r→(∀ (j:Nat) (y:Value),r[j]?=some y→∀ al:Nu,aq al (a (i+j)) y)→∃ t',k t'∧∀ al,ν.off al id→bf al t' r
 | [],i,k,h,ν,r,hr,ha=>⟨[],h,fun al _=>by rw [hr.iW]; exact .nil _⟩
 | v::l,i,k,h,ν,r,hr,ha=>by
  obtain ⟨y,ys,rfl,h1,J⟩:=hr.jr;obtain ⟨hx,ha⟩:=MZ ha;unfold uQ at h
  split at h
  ·obtain ⟨v',e,h⟩:=Fw h;obtain ⟨l',h3,h4⟩:=E8 h ν ys J ha;exact ⟨_,h3,fun al ho=>.cons (UL ho 3 _ _ _ e h1) (h4 al ho)⟩
  ·obtain ⟨l',h3,h4⟩:=E8 h ν ys J ha;exact ⟨_,h3,fun al ho=>.cons (hx _) (h4 al ho)⟩
def uR (id:Nat) (v:Value):Value:=match pC id 3 v with | false=>v | true=>.chan none
def BQ (id:Nat):List (List Value)→(List (List Value)→Prop)→Prop
 | [],k=>k []
 | r::l,k=>BQ id l fun l'=>k (r.map (uR id)::l')
theorem Ko {id:Nat}:∀ {l:List (List Value)} {k:List (List Value)→Prop},BQ id l k→k (l.map fun r=>r.map (uR id))
 | [],k,h=>h
 | r::l,k,h=>by have:=Ko (l:=l) h; simpa using this
def zt (id:Nat):List (List Value)→Bool
 | []=>false
 | r::l=>sE id 3 r || zt id l
theorem Lg {id:Nat}:∀ {l:List (List Value)},zt id l=false→∀ r∈l,sE id 3 r=false
 | [],_,v,hv=>by simp at hv
 | x::l,h,v,hv=>by
  simp only [zt,Bool.or_eq_false_iff] at h;rcases List.mem_cons.1 hv with e | e
  ·rw [e]; exact h.1
  ·exact Lg (l:=l) h.2 v e
def zu (id:Nat) (b:aj) (k:aj→Prop):Prop :=
 match b with
 | .flat o n e g=>k (.flat o n e g)
 | .aO o e rows=>match zt id rows with
  | false=>k (.aO o e rows)
  | true=>BQ id rows fun jb=>k (.aO o e jb)
 | .cg r=>k (.cg r)
theorem Lh {id:Nat} {b:aj} {k:aj→Prop} (h:zu id b k):∃ b',k b'∧b'.own=b.own∧∀ (ν al:Nu) (l:Loc) (w:World),ν.off al id→bQ ν l b w→bQ al l b' w:=by
 cases b with
 | flat o n e g =>
  exact ⟨_,h,rfl,fun ν al l w ho hB=>⟨hB.ah,hB.len,fun r hr j v hv=>by
   obtain ⟨v',h1,J⟩:=hB.cell r hr j v hv;have:=hB.plain rfl r hr v (List.mem_of_getElem? hv);rw [J.j9 this] at h1;exact ⟨v,h1,aq.j7 this⟩,hB.plain,hB.one,hB.own,hB.lr,hB.live⟩⟩
 | cg r =>
  exact ⟨_,h,rfl,fun ν al l w ho hB=>⟨hB.ah,fun r hr=>absurd hr (Nat.not_lt_zero r),fun r hr=>absurd hr (Nat.not_lt_zero r),(fun h=>nomatch h),fun r hr=>absurd hr (Nat.not_lt_zero r),fun _ h=>(nomatch h),hB.lr,hB.live⟩⟩
 | aO o e rows =>
  have h:(match zt id rows with
   | false=>k (.aO o e rows)
   | true=>BQ id rows fun jb=>k (.aO o e jb)):=h
  split at h
  ·rename_i hm;exact ⟨_,h,rfl,fun ν al l w ho hB=>⟨hB.ah,hB.len,fun r hr j v hv=>by
    obtain ⟨v',h1,J⟩:=hB.cell r hr j v hv;refine ⟨v',h1,ES ho 3 v v' ?_ J⟩;have iP:r < rows.length:=hr;simp only [aj.row,List.getD,List.getElem?_eq_getElem iP,Option.getD_some] at hv;exact wj (Lg hm _ (List.getElem_mem _)) v (List.mem_of_getElem? hv),hB.plain,hB.one,hB.own,hB.lr,hB.live⟩⟩
  ·rename_i hm;have h:=Ko h;have aZ:∀ r,(aj.aO o e (rows.map fun r=>r.map (uR id))).row r=((aj.aO o e rows).row r).map (uR id):=by
    intro r;simp only [aj.row,List.getD,List.getElem?_map];cases rows[r]? <;> rfl
   have h1c:∀ v,v.oneCell'=true→(uR id v).oneCell'=true:=by
    intro v hv;unfold uR
    split
    ·exact hv
    ·rfl
   refine ⟨_,h,rfl,fun ν al l w ho hB=>⟨hB.ah,fun r hr=>?_,fun r hr j v hv=>?_,fun h=>by simp [aj.iY] at h,fun r hr v hv=>?_,fun h _=>?_,(fun r h=>nomatch h),hB.live⟩⟩
   ·have hr:r < (aj.aO o e rows).n:=by simpa [aj.n] using hr
    rw [aZ,List.length_map]; exact hB.len r hr
   ·have hr:r < (aj.aO o e rows).n:=by simpa [aj.n] using hr
    rw [aZ,List.getElem?_map] at hv;cases hx:((aj.aO o e rows).row r)[j]? with
    | none=>rw [hx] at hv; cases hv
    | some x =>
     rw [hx] at hv;cases hv;obtain ⟨v',h1,J⟩:=hB.cell r hr j x hx;refine ⟨v',h1,?_⟩;unfold uR
     split
     ·rename_i tf; exact ES ho 3 x v' tf J
     ·exact .dead _ (by rw [J.Ce]; exact hB.one r hr x (List.mem_of_getElem? hx))
   ·have hr:r < (aj.aO o e rows).n:=by simpa [aj.n] using hr
    rw [aZ] at hv;obtain ⟨x,hx,rfl⟩:=List.mem_map.1 hv;exact h1c x (hB.one r hr x hx)
   ·obtain ⟨cur,t,q1,q2,q3⟩:=hB.own h rfl;exact ⟨cur,t,q1,q2,by simpa [aj.n] using q3⟩
def xz (id:Nat):aA→(aA→Prop)→Prop
 | [],k=>k []
 | none::H,k=>xz id H fun H'=>k (none::H')
 | some b::H,k=>zu id b fun b'=>xz id H fun H'=>k (some b'::H')
theorem E9 {id:Nat}:∀ {H:aA} {k:aA→Prop},xz id H k→∃ H',k H'∧H'.length=H.length∧∀ (j:Nat) (b':aj),H'[j]?=some (some b')→∃ b,H[j]?=some (some b)∧b'.own=b.own ∧
  ∀ (ν al:Nu) (l:Loc) (w:World),ν.off al id→bQ ν l b w→bQ al l b' w
 | [],k,h=>⟨[],h,rfl,fun j b' hj=>by simp at hj⟩
 | none::H,k,h=>by
  obtain ⟨H',h1,J,h3⟩:=E9 (H:=H) h;refine ⟨_,h1,by simp [J],fun j b' hj=>?_⟩
  cases j with
  | zero=>simp at hj
  | succ j=>exact h3 j b' (by simpa using hj)
 | some b::H,k,h=>by
  obtain ⟨b1,h,hb⟩:=Lh h;obtain ⟨H',h1,J,h3⟩:=E9 (H:=H) h;refine ⟨_,h1,by simp [J],fun j b' hj=>?_⟩
  cases j with
  | zero=>simp at hj; subst hj; exact ⟨b,rfl,hb⟩
  | succ j=>exact h3 j b' (by simpa using hj)
open Go Go.RowKit
structure CR (ν:Nu) (ah:Nat) (g:Nat→List Value) (m:Nat) (L:List Value):Prop where
 len:L.length=m*ah
 row:∀ r,r < m→(g r).length=ah
 cell:∀ r,r < m→∀ (j:Nat) v,(g r)[j]?=some v→∃ v',L[r*ah+j]?=some v'∧aq ν v v'
 one:∀ u∈L,u.oneCell'=true
 sT:∀ r,r < m→∀ v∈g r,v.oneCell'=true
def iH (g:Nat→List Value) (n:Nat) (h:Nat→List Value):Nat→List Value:=fun j=>bif Nat.blt j n then g j else h (j - n)
theorem jn {g h:Nat→List Value} {n j:Nat} (hj:j < n):iH g n h j=g j:=by
 have:Nat.blt j n=true:=by rw [Nat.blt_eq]; exact hj
 simp [iH,this]
theorem gp {g h:Nat→List Value} {n j:Nat} (hj:n≤j):iH g n h j=h (j - n):=by
 have:Nat.blt j n=false:=by
  cases h:Nat.blt j n with
  | false=>rfl
  | true=>rw [Nat.blt_eq] at h; omega
 simp [iH,this]
theorem CR.append {ν:Nu} {ah n m:Nat} {g h:Nat→List Value} {L M:List Value} (a:CR ν ah g n L) (b:CR ν ah h m M):CR ν ah (iH g n h) (n+m) (L++M):=by
 refine ⟨by rw [List.length_append,a.len,b.len,Nat.add_mul],fun r hr=>?_,fun r hr j v hv=>?_,fun u hu=>?_,fun r hr v hv=>?_⟩
 ·by_cases h:r < n
  ·rw [jn h]; exact a.row r h
  ·rw [gp (by omega)]; exact b.row _ (by omega)
 ·by_cases h:r < n
  ·rw [jn h] at hv;obtain ⟨v',h1,J⟩:=a.cell r h j v hv;exact ⟨v',by rw [List.getElem?_append_left (List.getElem?_eq_some_iff.1 h1).1]; exact h1,J⟩
  ·rw [gp (by omega)] at hv
   obtain ⟨v',h1,J⟩:=b.cell (r - n) (by omega) j v hv
   refine ⟨v',?_,J⟩;have e:r*ah+j=L.length+((r - n)*ah+j):=by
    rw [a.len];have:r*ah=n*ah+(r - n)*ah:=by rw [← Nat.add_mul]; congr 1; omega
    omega
   rw [e,List.getElem?_append_right (by omega),Nat.add_sub_cancel_left]; exact h1
 ·rcases List.mem_append.1 hu with h | h
  ·exact a.one u h
  ·exact b.one u h
 ·by_cases h:r < n
  ·rw [jn h] at hv; exact a.sT r h v hv
  ·rw [gp (by omega)] at hv; exact b.sT _ (by omega) v hv
theorem CR.nil (ν:Nu) (ah:Nat) (g:Nat→List Value):CR ν ah g 0 [] :=
 ⟨by simp,fun r hr=>absurd hr (by omega),fun r hr=>absurd hr (by omega),fun u hu=>by simp at hu,fun r hr=>absurd hr (by omega)⟩
theorem CR.mono {ν al:Nu} {ah m:Nat} {g:Nat→List Value} {L:List Value} (h:CR ν ah g m L) (hle:ν.le al):CR al ah g m L :=
 ⟨h.len,h.row,fun r hr j v hv=>let ⟨v',h1,J⟩:=h.cell r hr j v hv; ⟨v',h1,J.mono hle⟩,h.one,h.sT⟩
theorem CR.congr {ν:Nu} {ah m:Nat} {g g':Nat→List Value} {L:List Value} (h:CR ν ah g m L) (hg:∀ r,r < m→g' r=g r):CR ν ah g' m L :=
 ⟨h.len,fun r hr=>by rw [hg r hr]; exact h.row r hr,fun r hr j v hv=>h.cell r hr j v (by rw [← hg r hr]; exact hv),h.one,fun r hr v hv=>h.sT r hr v (by rw [← hg r hr]; exact hv)⟩
theorem CR.G1 {ν:Nu} {l:Loc} {b:aj} {w:World} (hB:bQ ν l b w) {row m:Nat} (hm:row+m≤b.n):∃ L,CR ν b.ah (fun j=>b.row (row+j)) m L∧∀ (j:Nat) u,L[j]?=some u→w.cell? ((l.at row 0).add j)=some u:=by
 have key:∀ q,q < m*b.ah→∃ r j v v',r < m∧j < b.ah∧q=r*b.ah+j∧(b.row (row+r))[j]?=some v∧w.cell? ((l.at row 0).add q)=some v'∧aq ν v v'∧v'.oneCell'=true:=by
  intro q hq;have he:0 < b.ah:=by
   rcases Nat.eq_zero_or_pos b.ah with h | h
   ·rw [h] at hq; omega
   ·exact h
  have hr:q / b.ah < m:=(Nat.div_lt_iff_lt_mul he).2 hq;have hj:q % b.ah < b.ah:=Nat.mod_lt _ he;have hlen:=hB.len (row+q / b.ah) (by omega)
  have hv:(b.row (row+q / b.ah))[q % b.ah]?=some _:=List.getElem?_eq_getElem (by omega)
  obtain ⟨v',h1,J⟩:=hB.cell (row+q / b.ah) (by omega) _ _ hv
  refine ⟨q / b.ah,q % b.ah,_,v',hr,hj,by rw [Nat.mul_comm,Nat.div_add_mod],hv,?_,J,by rw [J.Ce]; exact hB.one _ (by omega) _ (List.getElem_mem _)⟩
  rw [Loc.jM,← h1];unfold Loc.at
  congr 2
  rw [hB.ah,Nat.add_mul];have:=Nat.div_add_mod q b.ah;rw [Nat.mul_comm] at this;omega
 let L:=(List.range (m*b.ah)).map fun q=>(w.cell? ((l.at row 0).add q)).getD undef
 have ld:∀ q,q < m*b.ah→L[q]?=some ((w.cell? ((l.at row 0).add q)).getD undef):=by
  intro q hq;simp only [L,List.getElem?_map,List.getElem?_range hq,Option.map_some]
 have hL:L.length=m*b.ah:=by simp [L]
 refine ⟨L,⟨hL,fun r hr=>hB.len _ (by omega),fun r hr j v hv=>?_,fun u hu=>?_,fun r hr v hv=>hB.one _ (by omega) v hv⟩,fun j u hu=>?_⟩
 ·have hj:j < b.ah:=by rw [← hB.len (row+r) (by omega)]; exact (List.getElem?_eq_some_iff.1 hv).1
  have hq:r*b.ah+j < m*b.ah:=by
   have:(r+1)*b.ah≤m*b.ah:=Nat.mul_le_mul_right _ hr;rw [Nat.add_mul] at this; omega
  obtain ⟨v',h1,J⟩:=hB.cell (row+r) (by omega) j v hv
  refine ⟨v',?_,J⟩;have e:(l.at row 0).add (r*b.ah+j)=l.at (row+r) j:=by
   rw [Loc.jM]; unfold Loc.at; congr 1; rw [hB.ah,Nat.add_mul]; omega
  rw [ld _ hq,e,h1]; rfl
 ·obtain ⟨q,hq,rfl⟩:=List.getElem_of_mem hu;rw [hL] at hq;obtain ⟨r,j,v,v',_,_,_,_,h1,_,J⟩:=key q hq;have:=ld q hq;rw [h1] at this;have e:=List.getElem?_eq_getElem (l:=L) (i:=q) (by omega)
  rw [this] at e;rw [← Option.some.inj e]; exact J
 ·have hj:j < m*b.ah:=by rw [← hL]; exact (List.getElem?_eq_some_iff.1 hu).1
  obtain ⟨r,q,v,v',_,_,_,_,h1,_,J⟩:=key j hj;rw [ld j hj,h1] at hu;rw [h1,← hu]; rfl
theorem Xo {ν:Nu} {ah N cap aJ:Nat} {g:Nat→List Value} {L:List Value} {b':aj} (hC:CR ν ah g N L) (aZ:∀ r,r < N→b'.row r=g r) (hn:b'.n=N) (he:b'.ah=ah)
  (hf:b'.iY=true→∀ r,r < N→∀ v∈g r,cJ v=true) {w':World} {C:Array Value} {t:TypeId} (hw:w'.heap[aJ]?=some (.cells C t (0,0))) (hCL:∀ q,q < L.length→C[q]?=L[q]?)
  (fL:N≤cap) (ba:cap*ah≤C.size) (IY:b'.rc=none):bQ ν ⟨aJ,0,ah,cap⟩ b' w':=by
 have Hw:aJ < w'.heap.size:=(Array.getElem?_eq_some_iff.1 hw).1;refine ⟨he.symm,fun r hr=>?_,fun r hr j v hv=>?_,fun h r hr v hv=>?_,fun r hr v hv=>?_,fun _ _=>⟨C,t,hw,by simpa using ba,by rw [hn]; exact fL⟩,(fun r h=>by rw [IY] at h; cases h),Hw⟩
 ·rw [hn] at hr; rw [aZ r hr,he]; exact hC.row r hr
 ·rw [hn] at hr; rw [aZ r hr] at hv;obtain ⟨v',h1,J⟩:=hC.cell r hr j v hv;refine ⟨v',?_,J⟩;simp only [Loc.at,World.cell?,Nat.zero_add];rw [hw];simp only [Option.isSome_none,Bool.false_eq_true,if_false];rw [hCL _ (List.getElem?_eq_some_iff.1 h1).1]; exact h1
 ·rw [hn] at hr; rw [aZ r hr] at hv; exact hf h r hr v hv
 ·rw [hn] at hr; rw [aZ r hr] at hv; exact hC.sT r hr v hv
theorem bT.cT {ν al:Nu} {H H':aA} {w w':World} (h:bT ν H w) {id:Nat} (gV:ν.off al id)
  (ho:∀ (j:Nat) (b':aj),H'[j]?=some (some b')→j≠id→∃ b,H[j]?=some (some b)∧b'.own=b.own∧∀ l,ν j=some l→bQ ν l b w→bQ al l b' w')
  (bm:∀ b',H'[id]?=some (some b')→∃ l,al id=some l∧bQ al l b' w'∧∀ j lj bj,j≠id→H[j]?=some (some bj)→ν j=some lj→lj.aJ≠l.aJ):bT al H' w':=by
 refine ⟨fun j b' hj=>?_,fun i j bi bj li lj hi hj aE I7 h1 J=>?_⟩
 ·by_cases e:j=id
  ·subst e; obtain ⟨l,h1,J,_⟩:=bm b' hj; exact ⟨l,h1,J⟩
  ·obtain ⟨b,h1,_,J⟩:=ho j b' hj e;obtain ⟨l,h3,h4⟩:=h.aJ j b h1;exact ⟨l,by rw [gV j e]; exact h3,J l h3 h4⟩
 ·by_cases ei:i=id
  ·subst ei;obtain ⟨l,e1,_,e2⟩:=bm bi hi;rw [h1] at e1; cases e1;obtain ⟨b,e3,_,_⟩:=ho j bj hj (Ne.symm aE);rw [gV j (Ne.symm aE)] at J;exact Ne.symm (e2 j lj b (Ne.symm aE) e3 J)
  ·obtain ⟨b,e3,e4,_⟩:=ho i bi hi ei;rw [gV i ei] at h1;by_cases ej:j=id
   ·subst ej;obtain ⟨l,e1,_,e2⟩:=bm bj hj;rw [J] at e1; cases e1;exact e2 i li b ei e3 h1
   ·obtain ⟨c,e5,_,_⟩:=ho j bj hj ej;rw [gV j ej] at J;exact h.sep i j b c li lj e3 e5 aE (by rw [← e4]; exact I7) h1 J
section
variable {P:Program} {w:World}
theorem rP {t ty e:TypeId} {i:TypeInfo} (ht:P.underlying t=some (.slice e)) (hi:P.info? e=some i) {A oy:Option Addr} {n c m cy:Nat} {L:List Value} (hl:L.length=m*i.size)
  (hL:∀ a,oy=some a→∀ (j:Nat) u,L[j]?=some u→w.cell? (a.add j)=some u) (hn:oy=none→m=0) (cS:n+m≤c) {w2:World}
  (au:∀ a,A=some a→(storeCells (a.add (n*i.size)) L).run P w=.ok () w2) (ny:A=none→w2=w) :
  (Builtin.append_ #[t,t] ty #[.slice A n c,.slice oy m cy]).run P w=.ok (.slice A (n+m) c) w2:=by
 have hf:(Builtin.firstCells i.size m (.slice oy m cy)).run P w=.ok L.toArray w:=by
  cases oy with
  | none =>
   have:=hn rfl;subst this;have:L=[]:=List.eq_nil_of_length_eq_zero (by simpa using hl)
   rw [this];exact run_firstCells_none (P:=P) (w:=w) i.size 0 0 cy
  | some a=>exact run_firstCells_some (P:=P) w i.size m a m cy L hl (hL a rfl)
 cases A with
 | none =>
  have:=ny rfl;subst this;simp [Builtin.append_,run_underlying ht,sizeOf,typeInfo,hi,Builtin.lenOf,cS,hf]
 | some a =>
  have:=au a rfl;simp [Builtin.append_,run_underlying ht,sizeOf,typeInfo,hi,Builtin.lenOf,cS,hf,this]
def uc (C:Array Value) (z:Value) (k:Nat) (e:TypeId):Obj:=.cells (C++Builtin.zeroCells z.cells k) e
theorem A8 {t ty e:TypeId} {i:TypeInfo} {z:Value} (ht:P.underlying t=some (.slice e)) (hi:P.info? e=some i) (hz:i.zero=some z) {A oy:Option Addr} {n c m cy:Nat} {O L:List Value}
  (hJ:O.length=n*i.size) (hO:∀ a,A=some a→∀ (j:Nat) u,O[j]?=some u→w.cell? (a.add j)=some u) (hA:A=none→n=0∧c=0)
  (hl:L.length=m*i.size) (hL:∀ a,oy=some a→∀ (j:Nat) u,L[j]?=some u→w.cell? (a.add j)=some u) (hn:oy=none→m=0) (DS:n≤c) (cS:c < n+m) (hB:(n+m)*i.bytes≤140737488355328) (hN:n+m≤140737488355328) :
  (Builtin.append_ #[t,t] ty #[.slice A n c,.slice oy m cy]).run P w=.ok (.slice (some ⟨w.heap.size,0,none⟩) (n+m) (grownCap w (n+m) c e)) (w.drew.alloc (uc (O++L).toArray z (grownCap w (n+m) c e - (n+m)) e)):=by
 cases oy with
 | none=>have:=hn rfl; omega
 | some a =>
  cases A with
  | none =>
   obtain ⟨rfl,rfl⟩:=hA rfl;have hO0:O=[]:=List.eq_nil_of_length_eq_zero (by simpa using hJ)
   subst hO0;have:=run_append_nil (P:=P) (w:=w) t ty e i z ht hi hz a m cy L hl (hL a rfl) (by omega) (by omega) (by simp only [Nat.zero_add] at hB; omega)
   simp only [Nat.zero_add,List.nil_append];exact this
  | some b =>
   have:=run_append_grow (P:=P) (w:=w) t ty e i z ht hi hz b n c O hJ (hO b rfl) a m cy L hl (hL a rfl) cS (by omega) (growslice_fits cS hB)
   rw [this];simp [uc]
end
inductive Src where
 | fl (m:Nat) (g:Nat→List Value)
 | ex (L:List (List Value))
def Src.m:Src→Nat
 | .fl m _=>m
 | .ex L=>L.length
def Src.get:Src→Nat→List Value
 | .fl _ g=>g
 | .ex L=>fun j=>L.getD j []
def Src.kC:Src→Bool
 | .fl _ _=>true
 | .ex _=>false
def sF:List (List Value)→Nat→Nat→(List (List Value)→Prop)→Prop
 | _,0,0,k=>k []
 | [],0,_+1,_=>False
 | v::l,0,n+1,k=>sF l 0 n fun vs=>k (v::vs)
 | [],_+1,_,_=>False
 | _::l,o+1,n,k=>sF l o n k
theorem yy:∀ {l:List (List Value)} {o n:Nat} {k:List (List Value)→Prop},sF l o n k→∃ vs,k vs∧(vs.length=n∧o+n≤l.length)∧∀ (j:Nat) v,vs[j]?=some v→l[o+j]?=some v
 | l,0,0,k,h=>⟨[],by cases l <;> exact h,⟨rfl,by simp⟩,fun j v hv=>by simp at hv⟩
 | [],0,_+1,_,h=>h.elim
 | v::l,0,n+1,k,h=>by
  obtain ⟨vs,h1,⟨J,h4⟩,h3⟩:=yy (l:=l) h;refine ⟨v::vs,h1,⟨by simp [J],by simp at h4 ⊢; omega⟩,fun j u hu=>?_⟩
  cases j with
  | zero=>simpa using hu
  | succ j=>have:=h3 j u (by simpa using hu); simpa using this
 | [],o+1,n,k,h=>by cases n <;> exact h.elim
 | x::l,o+1,n,k,h=>by
  have h':sF l o n k:=by cases n <;> exact h
  obtain ⟨vs,h1,⟨J,h4⟩,h3⟩:=yy (l:=l) h';exact ⟨vs,h1,⟨J,by simp; omega⟩,fun j v hv=>by have:=h3 j v hv; rwa [show o+1+j=(o+j)+1 by omega,List.getElem?_cons_succ]⟩
def CZ:List (List Value)→Bool
 | []=>true
 | r::l=>mP r && CZ l
theorem Li:∀ {l:List (List Value)},CZ l=true→∀ r∈l,∀ v∈r,cJ v=true
 | [],_,r,hr=>by simp at hr
 | q::l,h,r,hr=>by
  simp only [CZ,Bool.and_eq_true] at h;rcases List.mem_cons.1 hr with e | e
  ·rw [e]; exact dD h.1
  ·exact Li h.2 r e
def sU:List (List Value)→List (List Value)→(List (List Value)→Prop)→Prop
 | [],l,k=>k l
 | x::xs,l,k=>sU xs l fun r=>k (x::r)
theorem yD:∀ {xs l:List (List Value)} {k:List (List Value)→Prop},sU xs l k→k (xs++l)
 | [],_,_,h=>h
 | _::xs,l,k,h=>yD (xs:=xs) h
def xA (g:Nat→List Value):Nat→Nat→(List (List Value)→Prop)→Prop
 | _,0,k=>k []
 | i,m+1,k=>xA g (i+1) m fun l=>k (g i::l)
theorem Fa {g:Nat→List Value}:∀ {m i:Nat} {k:List (List Value)→Prop},xA g i m k→∃ l,k l∧l.length=m∧∀ j,j < m→l.getD j []=g (i+j)
 | 0,i,k,h=>⟨[],h,rfl,fun j hj=>absurd hj (by omega)⟩
 | m+1,i,k,h=>by
  obtain ⟨l,h1,J,h3⟩:=Fa (m:=m) h;refine ⟨_,h1,by simp [J],fun j hj=>?_⟩
  cases j with
  | zero=>simp [List.getD]
  | succ j =>
   have:=h3 j (by omega)
   simp only [List.getD,List.getElem?_cons_succ] at this ⊢;rw [this]; congr 1; omega
def zP (H:aA) (ah:Nat) (yv:Value) (k:Src→Prop):Prop :=
 match yv with
 | .slice none 0 0=>k (.fl 0 fun _=>[])
 | .slice (some ⟨id,row,_⟩) m _=>gH H id fun b=>match Nat.beq b.ah ah with
  | true=>match b with
   | .flat _ n _ get=>row+m≤n∧k (.fl m fun j=>get (eZ row j))
   | .aO _ _ rows=>sF rows row m fun L=>match CZ L with
    | true=>k (.fl m fun j=>L.getD j [])
    | false=>k (.ex L)
   | .cg _=>False
  | false=>False
 | _=>False
theorem Fx {H:aA} {ah:Nat} {yv:Value} {k:Src→Prop} (h:zP H ah yv k):∃ s,k s∧(s.kC=true→∀ r,r < s.m→∀ (ν:Nu) w,bT ν H w→∀ v∈s.get r,cJ v=true) ∧
  ∀ (ν:Nu) (w:World) (r:Value),bT ν H w→aq ν yv r→∃ oy cy L,r=.slice oy s.m cy∧(oy=none→s.m=0)∧CR ν ah s.get s.m L∧∀ a,oy=some a→∀ (j:Nat) u,L[j]?=some u→w.cell? (a.add j)=some u:=by
 unfold zP at h
 split at h
 ·refine ⟨_,h,fun _ r hr=>absurd hr (by simp [Src.m]),fun ν w r hH hr=>?_⟩
  have:=hr.qi;subst this;exact ⟨none,0,[],rfl,fun _=>rfl,CR.nil _ _ _,fun a ha=>by cases ha⟩
 ·rename_i id row sp m c;obtain ⟨b,hb,h⟩:=gA h
  split at h
  ·rename_i he;have he:b.ah=ah:=Nat.eq_of_beq_eq_true he
   -- a source whose rows are the block's
   have gen:∀ (s:Src),s.m=m→row+m≤b.n→(∀ j,j < m→s.get j=b.row (row+j))→∀ (ν:Nu) (w:World) (r:Value),bT ν H w→aq ν (.slice (some ⟨id,row,sp⟩) m c) r →
     ∃ oy cy L,r=.slice oy s.m cy∧(oy=none→s.m=0)∧CR ν ah s.get s.m L∧∀ a,oy=some a→∀ (j:Nat) u,L[j]?=some u→w.cell? (a.add j)=some u:=by
    intro s hm hle aZ ν w r hH hr;obtain ⟨l,hl,hB⟩:=hH.aJ id b hb;rcases hr.CB with ⟨l',c',cE,_,_,rfl⟩ | ⟨kI,bb,rfl⟩
    ·rw [hl] at cE; cases cE;obtain ⟨L,h1,J⟩:=CR.G1 hB hle;rw [he] at h1;refine ⟨_,c',L,by rw [hm],(fun h=>by cases h),?_,(fun a ha=>by cases ha; exact J)⟩
     rw [hm];exact h1.congr aZ
    ·refine ⟨some bb,0,[],by rw [hm,kI],(fun h=>by cases h),?_,fun a ha j u hu=>by simp at hu⟩
     rw [hm,kI];exact CR.nil _ _ _
   cases b with
   | flat o n e get =>
    obtain ⟨hle,h⟩:=h;have aZ:∀ j,j < m→(Src.fl m fun j=>get (eZ row j)).get j=(aj.flat o n e get).row (row+j):=fun j _=>by simp [Src.get,aj.row,ay]
    refine ⟨_,h,fun _ r hr ν w hH v hv=>?_,gen _ rfl hle aZ⟩
    obtain ⟨l,hl,hB⟩:=hH.aJ id _ hb;have hr:r < m:=hr;rw [aZ r hr] at hv;exact hB.plain rfl (row+r) (by simp only [aj.n]; omega) v hv
   | aO o e rows =>
    obtain ⟨L,h,⟨hlen,hle⟩,ld⟩:=yy h;have aZ:∀ j,j < m→L.getD j []=(aj.aO o e rows).row (row+j):=fun j hj=>by
     have an:j < L.length:=by omega
     have:=ld j _ (List.getElem?_eq_getElem an);simp [aj.row,List.getD,this,List.getElem?_eq_getElem an]
    split at h
    ·rename_i hs;refine ⟨_,h,fun _ r hr ν w hH v hv=>?_,gen _ rfl hle aZ⟩
     have hr:r < m:=hr;have an:r < L.length:=by omega
     have hv:v∈L.getD r []:=hv;simp only [List.getD,List.getElem?_eq_getElem an,Option.getD_some] at hv;exact Li hs _ (List.getElem_mem _) v hv
    ·exact ⟨_,h,fun h=>by simp [Src.kC] at h,gen _ hlen hle aZ⟩
   | cg r=>exact h.elim
  ·exact h.elim
 ·exact h.elim
end Go.Ae
