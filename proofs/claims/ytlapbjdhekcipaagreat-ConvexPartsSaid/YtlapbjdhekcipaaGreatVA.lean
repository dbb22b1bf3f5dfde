import Derived.OrdersIn
import Derived.CallsIn
import Derived.ControlIn
import Derived.Below
import Derived.Laws.IdiomCopy
import Derived.Laws.AppendOwn
import Derived.Laws.NewBlocks
import Derived.Laws.BytesString
import Derived.Laws.MakeOwn
import Derived.Laws.IdiomStrings
import Derived.RangeFuncSeq
set_option linter.unusedVariables false
set_option linter.unusedSimpArgs false
namespace Go.Ae
open Go Go.RowKit
structure Loc where
 aG:Nat
 base:Nat
 ae:Nat
 cap:Nat
def Loc.at (l:Loc) (row bZ:Nat):Addr:=⟨l.aG,l.base+row*l.ae+bZ,none⟩
abbrev Nu:=Nat→Option Loc
def Nu.le (ν ai:Nu):Prop:=∀ id l,ν id=some l→ai id=some l
theorem Nu.le_refl (ν:Nu):ν.le ν:=fun _ _ h=>h
theorem Nu.le_trans {a b c:Nu} (h:a.le b) (k:b.le c):a.le c:=fun id l e=>k id l (h id l e)
def Nu.add (ν:Nu) (id:Nat) (l:Loc):Nu:=fun j=>if j=id then some l else ν j
theorem Nu.kl {ν:Nu} {id:Nat} {l:Loc} (h:ν id=none):ν.le (ν.add id l):=by
 intro j k hj;by_cases e:j=id
 ·subst e; rw [h] at hj; cases hj
 ·simp [Nu.add,e,hj]
theorem Nu.add_same {ν:Nu} {id:Nat} {l:Loc}:ν.add id l id=some l:=by simp [Nu.add]
theorem Nu.iQ {ν:Nu} {id j:Nat} {l:Loc} (h:j≠id):ν.add id l j=ν j:=by simp [Nu.add,h]
def cG:Value→Bool
 | .bool _ | .int _ _ | .string _=>true
 | _=>false
def aK:Nat:=9223372036854775808
inductive aq (ν:Nu):Value→Value→Prop
 | bool (b:Bool):aq ν (.bool b) (.bool b)
 | int (k:IntKind) (n:Int):aq ν (.int k n) (.int k n)
 | str (s:ByteArray):aq ν (.string s) (.string s)
 | mC:aq ν (.pointer none) (.pointer none)
 | ptr (id row:Nat) (sp:Option Nat) (l:Loc) (h:ν id=some l):aq ν (.pointer (some ⟨id,row,sp⟩)) (.pointer (some (l.at row (sp.getD 0))))
 | ju:aq ν (.slice none 0 0) (.slice none 0 0)
 | slice (id row n c c':Nat) (l:Loc) (h:ν id=some l) (hc:c'=c∨c=aK) (hn:n≤c') (hr:row+c'≤l.cap) :
   aq ν (.slice (some ⟨id,row,none⟩) n c) (.slice (some (l.at row 0)) n c')
 | void (id row c:Nat) (a:Addr) (hc:0=c∨c=aK):aq ν (.slice (some ⟨id,row,none⟩) 0 c) (.slice (some a) 0 0)
 | l9 (id row m n c':Nat) (l:Loc) (h:ν id=some l) (hm:m≤c') (hn:n≤c') (hr:row+c'≤l.cap) :
   aq ν (.slice (some ⟨id,row,some m⟩) n aK) (.slice (some (l.at row 0)) n c')
 | lf (id row:Nat) (a:Addr):aq ν (.slice (some ⟨id,row,some 0⟩) 0 aK) (.slice (some a) 0 0)
 | mD:aq ν .nilFunc .nilFunc
 | func (fn:Fn) (xs ys nD c7:List Value) (h1:xs.length=ys.length) (J:∀ (i:Nat) (x y:Value),xs[i]?=some x→ys[i]?=some y→aq ν x y)
   (h3:nD.length=c7.length) (h4:∀ (i:Nat) (x y:Value),nD[i]?=some x→c7[i]?=some y→aq ν x y) :
   aq ν (.func fn ⟨xs⟩ ⟨nD⟩) (.func fn ⟨ys⟩ ⟨c7⟩)
 | agg (xs ys:List Value) (h1:xs.length=ys.length) (J:∀ (i:Nat) (x y:Value),xs[i]?=some x→ys[i]?=some y→aq ν x y):aq ν (.agg ⟨xs⟩) (.agg ⟨ys⟩)
 | tuple (xs ys:List Value) (h1:xs.length=ys.length) (J:∀ (i:Nat) (x y:Value),xs[i]?=some x→ys[i]?=some y→aq ν x y):aq ν (.tuple ⟨xs⟩) (.tuple ⟨ys⟩)
 | dead (w:Value) (h:w.oneCell'=true):aq ν (.chan none) w
def bc (ν:Nu) (xs ys:List Value):Prop:=xs.length=ys.length∧∀ (i:Nat) (x y:Value),xs[i]?=some x→ys[i]?=some y→aq ν x y
theorem aq.mono {ν ai:Nu} (hle:ν.le ai) {v w:Value} (h:aq ν v w):aq ai v w:=by
 induction h with
 | bool b=>exact .bool b
 | int k n=>exact .int k n
 | str s=>exact .str s
 | mC=>exact .mC
 | ptr id row sp l h=>exact .ptr id row sp l (hle _ _ h)
 | ju=>exact .ju
 | slice id row n c c' l h hc hn hr=>exact .slice id row n c c' l (hle _ _ h) hc hn hr
 | void id row c a hc=>exact .void id row c a hc
 | l9 id row m n c' l h hm hn hr=>exact .l9 id row m n c' l (hle _ _ h) hm hn hr
 | lf id row a=>exact .lf id row a
 | mD=>exact .mD
 | func fn xs ys nD c7 h1 _ h3 _ i2 i4=>exact .func fn xs ys nD c7 h1 i2 h3 i4
 | agg xs ys h1 _ i2=>exact .agg xs ys h1 i2
 | tuple xs ys h1 _ i2=>exact .tuple xs ys h1 i2
 | dead w h=>exact .dead w h
theorem bc.mono {ν ai:Nu} (hle:ν.le ai) {xs ys:List Value} (h:bc ν xs ys):bc ai xs ys :=
 ⟨h.1,fun i x y hx hy=>(h.2 i x y hx hy).mono hle⟩
theorem bc.nil (ν:Nu):bc ν [] []:=⟨rfl,fun i x y hx _=>by simp at hx⟩
theorem bc.cons {ν:Nu} {x y:Value} {xs ys:List Value} (h:aq ν x y) (hs:bc ν xs ys):bc ν (x::xs) (y::ys):=by
 refine ⟨by simp [hs.1],fun i a b ha hb=>?_⟩
 cases i with
 | zero=>simp at ha hb; subst ha; subst hb; exact h
 | succ i=>exact hs.2 i a b (by simpa using ha) (by simpa using hb)
theorem bc.head {ν:Nu} {x y:Value} {xs ys:List Value} (h:bc ν (x::xs) (y::ys)):aq ν x y:=h.2 0 x y rfl rfl
theorem bc.tail {ν:Nu} {x y:Value} {xs ys:List Value} (h:bc ν (x::xs) (y::ys)):bc ν xs ys :=
 ⟨by have:=h.1; simpa using this,fun i a b ha hb=>h.2 (i+1) a b (by simpa using ha) (by simpa using hb)⟩
theorem bc.jl {ν:Nu} {x:Value} {xs zs:List Value} (h:bc ν (x::xs) zs):∃ y ys,zs=y::ys∧aq ν x y∧bc ν xs ys:=by
 cases zs with
 | nil=>simp [bc] at h
 | cons y ys=>exact ⟨y,ys,rfl,h.head,h.tail⟩
theorem bc.iP {ν:Nu} {zs:List Value} (h:bc ν [] zs):zs=[]:=by
 cases zs with
 | nil=>rfl
 | cons y ys=>simp [bc] at h
theorem bc.append {ν:Nu} {a b c d:List Value} (h:bc ν a b) (k:bc ν c d):bc ν (a++c) (b++d):=by
 induction a generalizing b with
 | nil=>rw [bc.iP h]; exact k
 | cons x xs ih=>obtain ⟨y,ys,rfl,h1,J⟩:=h.jl; exact .cons h1 (ih J)
theorem bc.get {ν:Nu} {xs ys:List Value} (h:bc ν xs ys) {i:Nat} {x:Value} (hx:xs[i]?=some x):∃ y,ys[i]?=some y∧aq ν x y:=by
 have hi:i < xs.length:=(List.getElem?_eq_some_iff.1 hx).1;refine ⟨ys[i]'(h.1 ▸ hi),List.getElem?_eq_getElem _,h.2 i _ _ hx (List.getElem?_eq_getElem _)⟩
theorem bc.set {ν:Nu} {xs ys:List Value} (h:bc ν xs ys) {v w:Value} (hv:aq ν v w) (i:Nat):bc ν (xs.set i v) (ys.set i w):=by
 refine ⟨by simp [h.1],fun j x y hx hy=>?_⟩
 rw [List.getElem?_set] at hx hy;by_cases e:i=j
 ·subst e;rw [if_pos rfl] at hx hy
  split at hx
  ·split at hy
   ·cases hx; cases hy; exact hv
   ·cases hy
  ·cases hx
 ·rw [if_neg e] at hx hy;exact h.2 j x y hx hy
theorem aq.kU {ν:Nu} {v w:Value} (h:cG v=true) (hr:aq ν v w):w=v:=by
 cases hr <;> simp_all [cG]
theorem aq.kR {ν:Nu} {v:Value} (h:cG v=true):aq ν v v:=by
 cases v <;> simp [cG] at h <;> constructor
theorem aq.ug {ν:Nu} {xs:List Value} {r:Value} (h:aq ν (.agg ⟨xs⟩) r):∃ ys,r=.agg ⟨ys⟩∧bc ν xs ys:=by
 cases h with | agg _ ys h1 J=>exact ⟨ys,rfl,h1,J⟩
theorem aq.nT {ν:Nu} {xs:List Value} {r:Value} (h:aq ν (.tuple ⟨xs⟩) r):∃ ys,r=.tuple ⟨ys⟩∧bc ν xs ys:=by
 cases h with | tuple _ ys h1 J=>exact ⟨ys,rfl,h1,J⟩
theorem aq.undef (ν:Nu):aq ν undef undef:=.tuple [] [] rfl (fun i x y hx _=>by simp at hx)
theorem aq.BC {ν:Nu} {v w:Value} (h:aq ν v w):w.oneCell'=v.oneCell':=by cases h <;> first | rfl | assumption
theorem aq.cells {ν:Nu} {v w:Value} (h:aq ν v w):bc ν v.cells.toList w.cells.toList:=by
 cases h with
 | agg xs ys h1 J=>exact ⟨h1,J⟩
 | bool b=>exact .cons (.bool b) (.nil ν)
 | int k n=>exact .cons (.int k n) (.nil ν)
 | str s=>exact .cons (.str s) (.nil ν)
 | mC=>exact .cons .mC (.nil ν)
 | ptr id row sp l h=>exact .cons (.ptr id row sp l h) (.nil ν)
 | ju=>exact .cons .ju (.nil ν)
 | slice id row n c c' l h hc hn hr=>exact .cons (.slice id row n c c' l h hc hn hr) (.nil ν)
 | void id row c a hc=>exact .cons (.void id row c a hc) (.nil ν)
 | l9 id row m n c' l h hm hn hr=>exact .cons (.l9 id row m n c' l h hm hn hr) (.nil ν)
 | lf id row a=>exact .cons (.lf id row a) (.nil ν)
 | mD=>exact .cons .mD (.nil ν)
 | func fn xs ys nD c7 h1 J h3 h4=>exact .cons (.func fn xs ys nD c7 h1 J h3 h4) (.nil ν)
 | tuple xs ys h1 J=>exact .cons (.tuple xs ys h1 J) (.nil ν)
 | dead w h=>
  have e:w.cells=#[w]:=by cases w <;> first | rfl | simp [Value.oneCell'] at h
  rw [e]; exact .cons (.dead w h) (.nil ν)
inductive ah where
 | aL (own:Bool) (ae:Nat) (rows:List (List Value))
 | flat (own:Bool) (n ae:Nat) (get:Nat→List Value)
 | b9 (r:Loop)
def ah.own:ah→Bool
 | .aL o _ _ | .flat o _ _ _=>o
 | .b9 _=>true
def ah.ae:ah→Nat
 | .aL _ e _ | .flat _ _ e _=>e
 | .b9 _=>0
def ah.n:ah→Nat
 | .aL _ _ rows=>rows.length
 | .flat _ n _ _=>n
 | .b9 _=>0
def ah.row:ah→Nat→List Value
 | .aL _ _ rows=>fun r=>rows.getD r []
 | .flat _ _ _ get=>get
 | .b9 _=>fun _=>[]
def ah.jR:ah→Bool
 | .aL ..=>false
 | .flat ..=>true
 | .b9 _=>false
def ah.n7:ah→Bool
 | .aL o _ _ | .flat o _ _ _=>o
 | .b9 _=>false
def ah.rc:ah→Option Loop
 | .b9 r=>some r
 | _=>none
abbrev aw:=List (Option ah)
theorem ah.cU {b:ah} (h:b.n7=true):b.own=true∧b.rc=none:=by
 cases b with
 | aL o e r=>exact ⟨h,rfl⟩
 | flat o n e g=>exact ⟨h,rfl⟩
 | b9 r=>cases h
structure bP (ν:Nu) (l:Loc) (b:ah) (w:World):Prop where
 ae:l.ae=b.ae
 len:∀ r,r < b.n→(b.row r).length=b.ae
 cell:∀ r,r < b.n→∀ j v,(b.row r)[j]?=some v→∃ v',w.cell? (l.at r j)=some v'∧aq ν v v'
 plain:b.jR=true→∀ r,r < b.n→∀ v∈b.row r,cG v=true
 one:∀ r,r < b.n→∀ v∈b.row r,v.oneCell'=true
 own:b.own=true→b.rc=none→∃ cur t,w.heap[l.aG]?=some (.cells cur t (0,0))∧l.base+l.cap*l.ae≤cur.size∧b.n≤l.cap
 lr:∀ r,b.rc=some r→w.heap[l.aG]?=some (.loop r)
 live:l.aG < w.heap.size
structure bU (ν:Nu) (H:aw) (w:World):Prop where
 aG:∀ id b,H[id]?=some (some b)→∃ l,ν id=some l∧bP ν l b w
 sep:∀ i j bi bj li lj,H[i]?=some (some bi)→H[j]?=some (some bj)→i≠j→bi.own=true→ν i=some li→ν j=some lj→li.aG≠lj.aG
theorem RT {w w':World} (h:Below w.heap.size w w') {a:Addr} {v:Value} (hc:w.cell? a=some v):w'.cell? a=some v :=
 (World.cell?_of_block (h.block _ (World.block_lt_of_cell? w a hc))).trans hc
theorem bP.below {ν:Nu} {l:Loc} {b:ah} {w w':World} (h:bP ν l b w) (hb:Below w.heap.size w w'):bP ν l b w' :=
 ⟨h.ae,h.len,fun r hr j v hv=>let ⟨v',hc,jy⟩:=h.cell r hr j v hv; ⟨v',RT hb hc,jy⟩,h.plain,h.one,
   fun ho hc=>let ⟨cur,t,h1,J⟩:=h.own ho hc; ⟨cur,t,by rw [hb.block _ h.live]; exact h1,J⟩,fun r hr=>(hb.block _ h.live).trans (h.lr r hr),Nat.lt_of_lt_of_le h.live hb.size⟩
theorem bP.same {ν:Nu} {l:Loc} {b:ah} {w w':World} (h:bP ν l b w) (he:w'.heap[l.aG]?=w.heap[l.aG]?) (hs:w.heap.size≤w'.heap.size):bP ν l b w' :=
 ⟨h.ae,h.len,fun r hr j v hv=>let ⟨v',hc,jy⟩:=h.cell r hr j v hv; ⟨v',by rw [World.cell?_of_block (a:=l.at r j) he]; exact hc,jy⟩,h.plain,h.one,
   fun ho hc=>let ⟨cur,t,h1,J⟩:=h.own ho hc; ⟨cur,t,by rw [he]; exact h1,J⟩,fun r hr=>he.trans (h.lr r hr),Nat.lt_of_lt_of_le h.live hs⟩
theorem bP.mono {ν ai:Nu} (hle:ν.le ai) {l:Loc} {b:ah} {w:World} (h:bP ν l b w):bP ai l b w :=
 ⟨h.ae,h.len,fun r hr j v hv=>let ⟨v',hc,jy⟩:=h.cell r hr j v hv; ⟨v',hc,jy.mono hle⟩,h.plain,h.one,h.own,h.lr,h.live⟩
theorem bU.below {ν:Nu} {H:aw} {w w':World} (h:bU ν H w) (hb:Below w.heap.size w w'):bU ν H w' :=
 ⟨fun id b hi=>let ⟨l,h1,J⟩:=h.aG id b hi; ⟨l,h1,J.below hb⟩,h.sep⟩
theorem bU.mono {ν ai:Nu} (hle:ν.le ai) {H:aw} {w:World} (h:bU ν H w):bU ai H w :=
 ⟨fun id b hi=>let ⟨l,h1,J⟩:=h.aG id b hi; ⟨l,hle _ _ h1,J.mono hle⟩,
   fun i j bi bj li lj hi hj aH ho h1 J=>by
  obtain ⟨l1,e1,_⟩:=h.aG i bi hi;obtain ⟨l2,e2,_⟩:=h.aG j bj hj;have:=hle _ _ e1; rw [h1] at this; cases this;have:=hle _ _ e2; rw [J] at this; cases this;exact h.sep i j bi bj _ _ hi hj aH ho e1 e2⟩
def aw.le (H G:aw):Prop:=∀ (id:Nat) (b:ah),H[id]?=some (some b)→G[id]?=some (some b)
theorem bU.sj {ν:Nu} {H G:aw} {w:World} (h:bU ν G w) (hle:aw.le H G):bU ν H w :=
 ⟨fun id b hi=>h.aG id b (hle id b hi),fun i j bi bj li lj hi hj=>h.sep i j bi bj li lj (hle i bi hi) (hle j bj hj)⟩
theorem bU.push {ν:Nu} {H:aw} {w w':World} (h:bU ν H w) (hb:Below w.heap.size w w') {id:Nat} (hn:ν id=none) {l:Loc} {b:ah} (G:aw)
  (hG:∀ j c,G[j]?=some (some c)→(j=id∧c=b)∨(j≠id∧H[j]?=some (some c))) (hl:w.heap.size≤l.aG)
  (hB:bP (ν.add id l) l b w'):bU (ν.add id l) G w':=by
 have hle:ν.le (ν.add id l):=Nu.kl hn;have h':=(h.mono hle).below hb;refine ⟨fun j c hj=>?_,fun i j bi bj li lj hi hj aH ho h1 J=>?_⟩
 ·rcases hG j c hj with ⟨rfl,rfl⟩ | ⟨_,gk⟩
  ·exact ⟨l,Nu.add_same,hB⟩
  ·exact h'.aG j c gk
 ·rcases hG i bi hi with ⟨rfl,rfl⟩ | ⟨_,aP⟩ <;> rcases hG j bj hj with ⟨rfl,rfl⟩ | ⟨_,gk⟩
  ·exact absurd rfl aH
  ·obtain ⟨l2,e2,dC⟩:=h.aG j bj gk;have:=hle _ _ e2; rw [J] at this; cases this;rw [Nu.add_same] at h1; cases h1;have:=dC.live;omega
  ·obtain ⟨l2,e2,dC⟩:=h.aG i bi aP;have:=hle _ _ e2; rw [h1] at this; cases this;rw [Nu.add_same] at J; cases J;have:=dC.live;omega
  ·exact h'.sep i j bi bj li lj aP gk aH ho h1 J
def qM:List Value→Nat→(Value→Prop)→Prop
 | [],_,_=>False
 | v::_,0,k=>k v
 | _::l,n+1,k=>qM l n k
def xB:List Value→Nat→Value→(List Value→Prop)→Prop
 | [],_,_,_=>False
 | _::l,0,v,k=>k (v::l)
 | x::l,n+1,v,k=>xB l n v fun l'=>k (x::l')
theorem oP:∀ {l:List Value} {n:Nat} {k:Value→Prop},qM l n k→∃ v,l[n]?=some v∧k v
 | [],_,_,h=>h.elim
 | v::_,0,_,h=>⟨v,rfl,h⟩
 | _::l,n+1,k,h=>by obtain ⟨v,h1,J⟩:=oP (l:=l) h; exact ⟨v,by simpa using h1,J⟩
theorem oQ:∀ {l:List Value} {n:Nat} {v:Value} {k:List Value→Prop},xB l n v k→n < l.length∧k (l.set n v)
 | [],_,_,_,h=>h.elim
 | _::l,0,v,k,h=>⟨by simp,h⟩
 | x::l,n+1,v,k,h=>by
  obtain ⟨h1,J⟩:=oQ (l:=l) h;exact ⟨by simpa using h1,by simpa using J⟩
def Gu (v:Value) (k:Value→Prop):Prop :=
 match v with
 | .bool b=>k (.bool b)
 | .int q n=>k (.int q n)
 | .string s=>k (.string s)
 | .pointer none=>k (.pointer none)
 | .slice none 0 0=>k (.slice none 0 0)
 | .nilFunc=>k .nilFunc
 | _=>False
theorem Kc {v:Value} {k:Value→Prop} (h:Gu v k):k v∧∀ ν,aq ν v v:=by
 unfold Gu at h
 split at h
 ·exact ⟨h,fun ν=>.bool _⟩
 ·exact ⟨h,fun ν=>.int _ _⟩
 ·exact ⟨h,fun ν=>.str _⟩
 ·exact ⟨h,fun ν=>.mC⟩
 ·exact ⟨h,fun ν=>.ju⟩
 ·exact ⟨h,fun ν=>.mD⟩
 ·exact h.elim
def bT (tmps:List Value) (x:Operand) (k:Value→Prop):Prop :=
 match x with
 | .tmp t=>qM tmps t k
 | .const v=>Gu v k
 | .func f=>k (.func (.func f) #[] #[])
 | .global _=>False
def fc (ν:Nu) (tmps:List Value) (a:Act) (x:Operand):Prop :=
 ∀ t,x=.tmp t→∀ v,tmps[t]?=some v→∃ v',a.tmps[t]?=some v'∧aq ν v v'
theorem kQ {tmps:List Value} {x:Operand} {k:Value→Prop} (h:bT tmps x k) {ν:Nu} {a:Act} (ha:fc ν tmps a x) :
  ∃ v,k v∧aq ν v (a.eval x):=by
 cases x with
 | tmp t =>
  obtain ⟨v,h1,J⟩:=oP h;obtain ⟨v',h3,h4⟩:=ha t rfl v h1;exact ⟨v,J,by simpa [Act.eval,h3] using h4⟩
 | const v=>obtain ⟨h1,J⟩:=Kc h; exact ⟨v,h1,J ν⟩
 | func f=>exact ⟨_,h,.func _ [] [] [] [] rfl (fun i x y hx _=>by simp at hx) rfl (fun i x y hx _=>by simp at hx)⟩
 | global g=>exact h.elim
theorem cP {tmps:List Value} {x:Operand} {k:Value→Prop} (h:bT tmps x k) :
  ∃ v,k v∧∀ (ν:Nu) (a:Act),fc ν tmps a x→aq ν v (a.eval x):=by
 cases x with
 | tmp t =>
  obtain ⟨v,h1,J⟩:=oP h;refine ⟨v,J,fun ν a ha=>?_⟩
  obtain ⟨v',h3,h4⟩:=ha t rfl v h1
  simpa [Act.eval,h3] using h4
 | const v=>obtain ⟨h1,J⟩:=Kc h; exact ⟨v,h1,fun ν a _=>J ν⟩
 | func f=>exact ⟨_,h,fun ν a _=>.func _ [] [] [] [] rfl (fun i x y hx _=>by simp at hx) rfl (fun i x y hx _=>by simp at hx)⟩
 | global g=>exact h.elim
def qi (tmps:List Value):List Operand→(List Value→Prop)→Prop
 | [],k=>k []
 | x::xs,k=>bT tmps x fun v=>qi tmps xs fun vs=>k (v::vs)
theorem D5 {tmps:List Value} {ν:Nu} {a:Act}:∀ {xs:List Operand} {k:List Value→Prop},qi tmps xs k→(∀ x∈xs,fc ν tmps a x) →
  ∃ vs,k vs∧bc ν vs (xs.map a.eval)
 | [],k,h,_=>⟨[],h,.nil ν⟩
 | x::xs,k,h,ha=>by
  obtain ⟨v,h1,J⟩:=kQ h (ha x (by simp))
  obtain ⟨vs,h3,h4⟩:=D5 h1 (fun y hy=>ha y (by simp [hy]))
  exact ⟨v::vs,h3,.cons J h4⟩
theorem AY {tmps:List Value}:∀ {xs:List Operand} {k:List Value→Prop},qi tmps xs k →
  ∃ vs,k vs∧∀ (ν:Nu) (a:Act),(∀ x∈xs,fc ν tmps a x)→bc ν vs (xs.map a.eval)
 | [],k,h=>⟨[],h,fun ν a _=>.nil ν⟩
 | x::xs,k,h=>by
  obtain ⟨v,h1,J⟩:=cP h;obtain ⟨vs,h3,h4⟩:=AY h1;exact ⟨v::vs,h3,fun ν a ha=>.cons (J ν a (ha x (by simp))) (h4 ν a (fun y hy=>ha y (by simp [hy])))⟩
def ux:List Value→Nat→Nat→(List Value→Prop)→Prop
 | _,0,0,k=>k []
 | [],0,_+1,_=>False
 | v::l,0,n+1,k=>ux l 0 n fun vs=>k (v::vs)
 | [],_+1,_,_=>False
 | _::l,o+1,n,k=>ux l o n k
theorem x8:∀ {l:List Value} {o n:Nat} {k:List Value→Prop},ux l o n k→∃ vs,k vs∧vs.length=n∧∀ j v,vs[j]?=some v→l[o+j]?=some v
 | l,0,0,k,h=>⟨[],by cases l <;> exact h,rfl,fun j v hv=>by simp at hv⟩
 | [],0,_+1,_,h=>h.elim
 | v::l,0,n+1,k,h=>by
  obtain ⟨vs,h1,J,h3⟩:=x8 (l:=l) h;refine ⟨v::vs,h1,by simp [J],fun j u hu=>?_⟩
  cases j with
  | zero=>simpa using hu
  | succ j=>have:=h3 j u (by simpa using hu); simpa using this
 | [],o+1,n,k,h=>by cases n <;> exact h.elim
 | x::l,o+1,n,k,h=>by
  have h':ux l o n k:=by cases n <;> exact h
  obtain ⟨vs,h1,J,h3⟩:=x8 (l:=l) h';exact ⟨vs,h1,J,fun j v hv=>by have:=h3 j v hv; rwa [show o+1+j=(o+j)+1 by omega,List.getElem?_cons_succ]⟩
def uR:List Value→Nat→List Value→(List Value→Prop)→Prop
 | l,0,[],k=>k l
 | [],0,_::_,_=>False
 | _::l,0,v::vs,k=>uR l 0 vs fun l'=>k (v::l')
 | [],_+1,_,_=>False
 | x::l,o+1,vs,k=>uR l o vs fun l'=>k (x::l')
theorem yh:∀ {l:List Value} {o:Nat} {vs:List Value} {k:List Value→Prop},uR l o vs k →
  ∃ l',k l'∧l'.length=l.length∧o+vs.length≤l.length∧(∀ j v,vs[j]?=some v→l'[o+j]?=some v)∧∀ j,(j < o∨o+vs.length≤j)→l'[j]?=l[j]?
 | l,0,[],k,h=>⟨l,by cases l <;> exact h,rfl,by simp,fun j v hv=>by simp at hv,fun _ _=>rfl⟩
 | [],0,_::_,_,h=>h.elim
 | x::l,0,v::vs,k,h=>by
  obtain ⟨l',h1,J,h3,h4,h5⟩:=yh (l:=l) h;refine ⟨v::l',h1,by simp [J],by simp at h3 ⊢; omega,fun j u hu=>?_,fun j hj=>?_⟩
  ·cases j with
   | zero=>simpa using hu
   | succ j=>have:=h4 j u (by simpa using hu); simpa using this
  ·cases j with
   | zero=>simp at hj
   | succ j=>have:=h5 j (by simp at hj ⊢; omega); simpa using this
 | [],o+1,vs,k,h=>by cases vs <;> exact h.elim
 | x::l,o+1,vs,k,h=>by
  have h':uR l o vs fun l'=>k (x::l'):=by cases vs <;> exact h
  obtain ⟨l',h1,J,h3,h4,h5⟩:=yh (l:=l) h';refine ⟨x::l',h1,by simp [J],by simp; omega,fun j u hu=>?_,fun j hj=>?_⟩
  ·have:=h4 j u hu; rwa [show o+1+j=(o+j)+1 by omega,List.getElem?_cons_succ]
  ·cases j with
   | zero=>simp
   | succ j=>have:=h5 j (by omega); simpa using this
def gG:aw→Nat→(ah→Prop)→Prop
 | [],_,_=>False
 | b::_,0,k=>match b with | some b=>k b | none=>False
 | _::H,n+1,k=>gG H n k
theorem gB:∀ {H:aw} {id:Nat} {k:ah→Prop},gG H id k→∃ b,H[id]?=some (some b)∧k b
 | [],_,_,h=>h.elim
 | some b::_,0,_,h=>⟨b,rfl,h⟩
 | none::_,0,_,h=>h.elim
 | _::H,n+1,k,h=>by obtain ⟨b,h1,J⟩:=gB (H:=H) h; exact ⟨b,by simpa using h1,J⟩
def jv:aw→Nat→Option ah→(aw→Prop)→Prop
 | [],_,_,_=>False
 | _::H,0,b,k=>k (b::H)
 | c::H,n+1,b,k=>jv H n b fun H'=>k (c::H')
theorem mq:∀ {H:aw} {id:Nat} {b:Option ah} {k:aw→Prop},jv H id b k→id < H.length∧k (H.set id b)
 | [],_,_,_,h=>h.elim
 | _::H,0,_,_,h=>⟨by simp,h⟩
 | c::H,n+1,b,k,h=>by obtain ⟨h1,J⟩:=mq (H:=H) h; exact ⟨by simpa using h1,by simpa using J⟩
def o8:aw→Option ah→(aw→Prop)→Prop
 | [],b,k=>k [b]
 | c::H,b,k=>o8 H b fun H'=>k (c::H')
theorem x9:∀ {H:aw} {b:Option ah} {k:aw→Prop},o8 H b k→k (H++[b])
 | [],_,_,h=>h
 | _::H,b,k,h=>x9 (H:=H) h
def jw:aw→(Nat→Prop)→Prop
 | [],k=>k 0
 | _::H,k=>jw H fun n=>k (n+1)
theorem mr:∀ {H:aw} {k:Nat→Prop},jw H k→k H.length
 | [],_,h=>h
 | _::H,k,h=>mr (H:=H) h
def br (b:Bool) (x y:Prop):Prop:=match b with | true=>x | false=>y
theorem aI {b:Bool} {x y:Prop} (h1:b=true→x) (J:b=false→y):br b x y:=by cases b <;> simp_all [br]
theorem BD {b:Bool} {x y:Prop} (h:br b x y) (hb:b=true):x:=by subst hb; exact h
theorem Bj {b:Bool} {x y:Prop} (h:br b x y) (hb:b=false):y:=by subst hb; exact h
theorem m8 {b:Bool} {x y:Prop} (h:b=true) (hx:x):br b x y:=by subst h; exact hx
def xC (p:Prop) [Decidable p] (k:Prop):Prop:=br (decide p) k False
theorem A4 {p:Prop} [Decidable p] {k:Prop} (h:xC p k):p∧k:=by
 unfold xC br at h
 split at h
 ·rename_i hp; exact ⟨of_decide_eq_true hp,h⟩
 ·exact h.elim
open Go Go.RowKit
inductive TK where
 | int (k:IntKind) | bool | str
 | struct (fs:List (Nat × Nat × Bool))      -- offset,size,is it a struct or an array
 | slice (e:TypeId)
 | array (n:Nat) (e:TypeId)
 | other
structure TI where
 size:Nat
 bytes:Nat
 kind:TK
 zero:List Value
def TI.agg (ti:TI):Bool:=match ti.kind with | .struct _ | .array _ _=>true | _=>false
abbrev TT:=TypeId→Option TI
def uh:TypeDesc→Bool
 | .struct _ | .array _ _=>true
 | _=>false
def yw (P:Program) (f:Field) (x:Nat × Nat × Bool):Prop :=
 f.offset=x.1∧0 < x.2.1∧(∃ i,P.info? f.type=some i∧i.size=x.2.1)∧∃ d,P.underlying f.type=some d∧uh d=x.2.2
def C9 (P:Program) (k:TK) (d:TypeDesc):Prop :=
 match k with
 | .int q=>d=.int q
 | .bool=>d=.bool
 | .str=>d=.string
 | .struct fs=>∃ fields,d=.struct fields∧fields.size=fs.length∧∀ (i:Nat) f x,fields[i]?=some f→fs[i]?=some x→yw P f x
 | .slice e=>d=.slice e
 | .array n e=>d=.array n e
 | .other=>uh d=false
structure ay (P:Program) (t:TypeId) (ti:TI):Prop where
 info:∃ i,P.info? t=some i∧i.size=ti.size∧i.bytes=ti.bytes∧∃ z,i.zero=some z∧z.cells=⟨ti.zero⟩
 under:∃ d,P.underlying t=some d∧C9 P ti.kind d
 self:∀ ν,bc ν ti.zero ti.zero
 len:ti.zero.length=ti.size
 one:∀ v∈ti.zero,v.oneCell'=true
 bit:0 < ti.size∧0 < ti.bytes
theorem ay.acL {P:Program} {t:TypeId} {ti:TI} (h:ay P t ti):∃ d,P.underlying t=some d∧uh d=ti.agg:=by
 obtain ⟨d,h1,J⟩:=h.under;refine ⟨d,h1,?_⟩;unfold C9 at J;unfold TI.agg
 split at J <;> rename_i hk <;> rw [hk] <;> first | (subst J; rfl) | (obtain ⟨_,rfl,_⟩:=J; rfl) | (simpa using J)
theorem Lg {P:Program} {t:TypeId} {d:TypeDesc} (h:P.underlying t=some d) (w:World):(isAgg t).run P w=.ok (uh d) w:=by
 unfold isAgg underlying;simp [h];cases d <;> rfl
theorem gq {P:Program} {t:TypeId} {i:TypeInfo} (h:P.info? t=some i) (w:World):(sizeOf t).run P w=.ok i.size w:=by simp [sizeOf,typeInfo,h]
theorem vR {P:Program} {t:TypeId} {i:TypeInfo} {z:Value} (h:P.info? t=some i) (hz:i.zero=some z) (w:World):(zeroValue t).run P w=.ok z w:=by
 simp [zeroValue,typeInfo,h,hz]
theorem dx {P:Program} {t:TypeId} {d:TypeDesc} (h:P.underlying t=some d) (w:World):(underlying t).run P w=.ok d w:=by simp [underlying,h]
theorem JR {P:Program} {t:TypeId} {ti:TI} (h:ay P t ti) {w:World} {a:Addr} {cs:List Value} (hl:cs.length=ti.size)
  (hc:∀ j v,cs[j]?=some v→w.cell? (a.add j)=some v) :
  (loadVar t a).run P w=.ok (if ti.agg then .agg ⟨cs⟩ else cs.getD 0 undef) w:=by
 obtain ⟨d,h1,J⟩:=h.acL;obtain ⟨i,hi,hs,_⟩:=h.info;unfold loadVar;simp only [Sem.run_bind,Lg h1,Result.andThen_ok,Sem.run_ite];rw [J]
 split
 ·simp only [Sem.run_bind,gq hi,Result.andThen_ok];rw [hs,← hl,run_loadCells_list w a cs hc]
  rfl
 ·have hp:=h.bit.1;cases cs with
  | nil=>simp at hl; omega
  | cons v r =>
   have:=hc 0 v rfl;simp only [Addr.add,if_true] at this;simp [run_load,this]
theorem Uu (b o j:Nat):(⟨b,o,none⟩:Addr).add j=⟨b,o+j,none⟩:=by unfold Addr.add; split <;> simp_all
theorem Loc.jS (l:Loc) (row bZ j:Nat):(l.at row bZ).add j=l.at row (bZ+j):=by
 unfold Loc.at; rw [Uu]; congr 1; omega
open Go Go.RowKit
structure bD where
 ι:Type
 args:ι→List Value
 pre:ι→Prop
 val:ι→Value
structure cI where
 ι:Type
 args:ι→List Value
 aj:ι→List ah
 pre:ι→Prop
 val:ι→Value
 new:ι→Option ah
inductive uy where
 | p (S:bD)
 | q (S:cI)
 | r (S:cI)
abbrev yT:=FuncId→Option uy
def WF (r:Option Nat):Fence:={ Fence.wide with round:=r }
structure bf (P:Program) (f:FuncId) (S:bD):Prop where
 enters:∀ args w,(callFunc f args).run P w=.ok (.enter f args) w
 calls:∀ (i:S.ι),S.pre i→∀ (ν:Nu) (as:List Value) (w:World) (n:Nat),bc ν (S.args i) as →
  CallsIn Fence.wide n P f ⟨as⟩ w fun e w'=>∃ v',e=.returned v'∧aq ν (S.val i) v'∧Below w.heap.size w w'
structure ng (ν ai:Nu) (aE:Nat) (w w':World) (v v':Value) (nb:Option ah):Prop where
 le:ν.le ai
 only:∀ id,id≠aE→ai id=ν id
 val:aq ai v v'
 below:Below w.heap.size w w'
 zF:nb=none→ai=ν
 gW:∀ b,nb=some b→∃ l,ai aE=some l∧bP ai l b w'∧w.heap.size≤l.aG
structure dc (P:Program) (f:FuncId) (S:cI):Prop where
 enters:∀ args w,(callFunc f args).run P w=.ok (.enter f args) w
 ro:∀ i b,b∈S.aj i→b.own=false
 fl:∀ i b,S.new i=some b→b.jR=true
 calls:∀ (i:S.ι),S.pre i→∀ (ν:Nu) (as:List Value) (w:World) (n:Nat),bc ν (S.args i) as→bU ν ((S.aj i).map some) w→(∀ id,(S.aj i).length≤id→ν id=none) →
  CallsIn Fence.wide n P f ⟨as⟩ w fun e w'=>∃ v' ai,e=.returned v'∧ng ν ai (S.aj i).length w w' (S.val i) v' (S.new i)
def CJ (P:Program) (f:FuncId):uy→Prop
 | .p S=>bf P f S
 | .q S=>dc P f S
 | .r S=>dc P f S
abbrev QK:=Value→Option ah→Prop
def qj (v:Value) (k:Value→Prop):Prop :=
 match v with
 | .bool b=>k (.bool b)
 | .int q n=>k (.int q n)
 | .string s=>k (.string s)
 | .agg cs=>k (.agg cs)
 | .tuple cs=>k (.tuple cs)
 | .pointer a=>k (.pointer a)
 | .slice a n c=>k (.slice a n c)
 | .func f a b=>k (.func f a b)
 | .nilFunc=>k .nilFunc
 | _=>False
theorem vS {v:Value} {k:Value→Prop} (h:qj v k):k v:=by
 unfold qj at h; split at h <;> first | exact h | exact h.elim
def qN:List Value→List Value→(List Value→Prop)→Prop
 | [],l,k=>k l
 | x::xs,l,k=>qN xs l fun r=>k (x::r)
theorem wc:∀ {xs l:List Value} {k:List Value→Prop},qN xs l k→k (xs++l)
 | [],_,_,h=>h
 | _::xs,l,k,h=>wc (xs:=xs) h
def p6:List Value→Nat→Bool
 | [],0=>true
 | v::l,n+1=>v.oneCell' && p6 l n
 | _,_=>false
theorem xZ:∀ {l:List Value} {n:Nat},p6 l n=true→l.length=n∧∀ v∈l,v.oneCell'=true
 | [],0,_=>⟨rfl,fun v hv=>by simp at hv⟩
 | v::l,n+1,h=>by
  simp only [p6,Bool.and_eq_true] at h;obtain ⟨h1,J⟩:=xZ h.2;exact ⟨by simp [h1],fun u hu=>by
   rcases List.mem_cons.1 hu with e | e
   ·rw [e]; exact h.1
   ·exact J u e⟩
 | [],_+1,h=>by simp [p6] at h
 | _::_,0,h=>by simp [p6] at h
def wY (v:Value) (k:List Value→Prop):Prop :=
 match v with
 | .agg cs=>k cs.toList
 | .tuple _=>False
 | v=>k [v]
theorem AK {v:Value} {k:List Value→Prop} (h:wY v k):k v.cells.toList:=by
 unfold wY at h
 split at h
 ·exact h
 ·exact h.elim
 ·rename_i h1 J;cases v <;> first | exact h | exact absurd rfl (h1 _)
def GW:List (List Value)→Nat→(List Value→Prop)→Prop
 | [],_,_=>False
 | r::_,0,k=>k r
 | _::rs,n+1,k=>GW rs n k
theorem Kw:∀ {rs:List (List Value)} {n:Nat} {k:List Value→Prop},GW rs n k→∃ r,rs[n]?=some r∧k r
 | [],_,_,h=>h.elim
 | r::_,0,_,h=>⟨r,rfl,h⟩
 | _::rs,n+1,k,h=>by obtain ⟨r,h1,J⟩:=Kw (rs:=rs) h; exact ⟨r,by simpa using h1,J⟩
def Hq (b:ah) (row:Nat) (k:List Value→Prop):Prop :=
 match b with
 | .aL _ _ rows=>GW rows row k
 | .flat _ n _ get=>row < n∧k (get row)
 | .b9 _=>False
theorem Lh {b:ah} {row:Nat} {k:List Value→Prop} (h:Hq b row k):row < b.n∧k (b.row row):=by
 cases b with
 | aL o e rows =>
  obtain ⟨r,h1,J⟩:=Kw h;exact ⟨(List.getElem?_eq_some_iff.1 h1).1,by simpa [ah.row,List.getD,h1] using J⟩
 | flat o n e get=>exact h
 | b9 r=>exact h.elim
def yD:List (Nat × Nat × Bool)→Nat→(Nat→Nat→Bool→Prop)→Prop
 | [],_,_=>False
 | (a,b,c)::_,0,k=>k a b c
 | _::l,n+1,k=>yD l n k
theorem AL:∀ {l:List (Nat × Nat × Bool)} {n:Nat} {k:Nat→Nat→Bool→Prop},yD l n k→∃ x,l[n]?=some x∧k x.1 x.2.1 x.2.2
 | [],_,_,h=>h.elim
 | x::_,0,_,h=>⟨x,rfl,h⟩
 | _::l,n+1,k,h=>by obtain ⟨r,h1,J⟩:=AL (l:=l) h; exact ⟨r,by simpa using h1,J⟩
def eX (a b:Nat):Nat:=match a with | 0=>b | a+1=>(a+1)+b
theorem ax (a b:Nat):eX a b=a+b:=by cases a <;> simp [eX]
def cJ (tt:TT) (t:TypeId) (k:TI→Prop):Prop:=match tt t with | some ti=>k ti | none=>False
theorem cN {tt:TT} {t:TypeId} {k:TI→Prop} (h:cJ tt t k):∃ ti,tt t=some ti∧k ti:=by
 unfold cJ at h; split at h
 ·exact ⟨_,by assumption,h⟩
 ·exact h.elim
def valOf (agg:Bool) (cs:List Value):Value:=match agg,cs with | true,cs=>.agg ⟨cs⟩ | false,v::_=>v | false,[]=>undef
def CK (agg:Bool) (cs:List Value) (k:Value→Prop):Prop :=
 match agg,cs with
 | true,cs=>k (.agg ⟨cs⟩)
 | false,v::_=>qj v k
 | false,[]=>k undef
def Ic (sp:Option Nat) (k:Nat→Prop):Prop:=match sp with | none=>k 0 | some c=>k c
theorem Mb {sp:Option Nat} {k:Nat→Prop} (h:Ic sp k):k (sp.getD 0):=by cases sp <;> exact h
def bX (s:ByteArray) (i:Nat):Nat:=(s.data.toList.getD i 0).toNat
def Cj (tmps:List Value) (x:Operand) (k:QK):Prop:=bT tmps x fun v=>k v none
def N9 (tmps:List Value) (c a b:Operand) (k:QK):Prop :=
 bT tmps c fun cv=>match cv with
  | .bool t=>bT tmps a fun av=>bT tmps b fun bv =>
   match av,bv with
   | .bool x,.bool y=>k (.bool (bif t then x else y)) none
   | av,bv=>br t (k av none) (k bv none)
  | _=>False
def m9:List Value→List Value→Option (List Value)
 | [],l=>some l
 | .int q n::z,.int q' n'::l=>match decide (q=q') && decide (n=n') with | true=>m9 z l | false=>none
 | .bool b::z,.bool b'::l=>match b == b' with | true=>m9 z l | false=>none
 | .string s::z,.string s'::l=>match Nat.beq s.size 0 && Nat.beq s'.size 0 with | true=>m9 z l | false=>none
 | _,_=>none
def yU (z:List Value):Nat→List Value→Bool
 | 0,[]=>true
 | 0,_::_=>false
 | n+1,l=>match m9 z l with | some l'=>yU z n l' | none=>false
def Ny (tt:TT) (t:TypeId) (aE:Nat) (k:QK):Prop :=
 cJ tt t fun ti=>match ti.kind with
  | .array n e=>cJ tt e fun te=>match Nat.beq te.size 1 && yU te.zero n ti.zero with
   | true=>k (.pointer (some ⟨aE,0,none⟩)) (some (.flat true n te.size fun _=>te.zero))
   | false=>k (.pointer (some ⟨aE,0,none⟩)) (some (.aL true ti.size [ti.zero]))
  | _=>k (.pointer (some ⟨aE,0,none⟩)) (some (.aL true ti.size [ti.zero]))
def OL (tt:TT) (tmps:List Value) (t:TypeId) (x:Operand) (aE:Nat) (k:QK):Prop :=
 cJ tt t fun ti=>bT tmps x fun v=>wY v fun cs=>match p6 cs ti.size with
  | true=>k (.pointer (some ⟨aE,0,none⟩)) (some (.aL true ti.size [cs]))
  | false=>False
def GX (tt:TT) (tmps:List Value) (H:aw) (t:TypeId) (a:Operand) (k:QK):Prop :=
 bT tmps a fun av=>match av with
  | .pointer (some ⟨id,row,sp⟩)=>cJ tt t fun ti=>gG H id fun b=>Hq b row fun cs=>Ic sp fun c=>ux cs c ti.size fun vs=>CK ti.agg vs fun v=>k v none
  | _=>False
def Kx (tt:TT) (tmps:List Value) (t:TypeId) (x:Operand) (f:Nat) (k:QK):Prop :=
 bT tmps x fun av=>match av with
  | .pointer (some ⟨id,row,sp⟩)=>cJ tt t fun ti=>match ti.kind with
   | .struct fs=>yD fs f fun off _ _=>Ic sp fun c=>k (.pointer (some ⟨id,row,some (c+off)⟩)) none
   | _=>False
  | _=>False
def Nz (tt:TT) (tmps:List Value) (t:TypeId) (x:Operand) (f:Nat) (k:QK):Prop :=
 bT tmps x fun av=>match av with
  | .agg cs=>cJ tt t fun ti=>match ti.kind with
   | .struct fs=>yD fs f fun off sz ag=>ux cs.toList off sz fun vs=>CK ag vs fun v=>k v none
   | _=>False
  | _=>False
def Er (tt:TT) (tmps:List Value) (H:aw) (t:TypeId) (x ix:Operand) (k:QK):Prop :=
 bT tmps x fun xv=>bT tmps ix fun iv=>match iv with
  | .int _ i=>cJ tt t fun ti=>match ti.kind with
   | .slice e=>match xv with
    | .slice (some ⟨id,row,none⟩) n _=>cJ tt e fun te=>gG H id fun b =>
     (0≤i∧i < (n:Int))∧match Nat.beq b.ae te.size with
      | true=>k (.pointer (some ⟨id,eX row i.toNat,none⟩)) none
      | false=>False
    | _=>False
   | .array n e=>match xv with
    | .pointer (some ⟨id,row,none⟩)=>cJ tt e fun te=>gG H id fun b=>(0≤i∧i < (n:Int))∧match Nat.beq b.ae te.size with
     | true=>k (.pointer (some ⟨id,eX row i.toNat,none⟩)) none
     | false=>k (.pointer (some ⟨id,row,some (0+i.toNat*te.size)⟩)) none
    | .pointer (some ⟨id,row,some c⟩)=>cJ tt e fun te=>(0≤i∧i < (n:Int))∧k (.pointer (some ⟨id,row,some (c+i.toNat*te.size)⟩)) none
    | _=>False
   | _=>False
  | _=>False
def NA (tt:TT) (tmps:List Value) (t:TypeId) (x ix:Operand) (k:QK):Prop :=
 bT tmps x fun xv=>bT tmps ix fun iv=>match iv with
  | .int _ i=>cJ tt t fun ti=>match ti.kind with
   | .str=>match xv with
    | .string s=>(0≤i∧i < (s.size:Int))∧k (.int .u8 (bX s i.toNat)) none
    | _=>False
   | _=>False
  | _=>False
def Fk (tmps:List Value) (x:Operand) (ix:Nat) (k:QK):Prop :=
 bT tmps x fun xv=>match xv with
  | .tuple vs=>qM vs.toList ix fun v=>k v none
  | _=>False
def Li (tmps:List Value) (fn:Fn) (first cap:List Operand) (k:QK):Prop :=
 qi tmps first fun a=>qi tmps cap fun b=>k (.func fn ⟨a⟩ ⟨b⟩) none
def Px (tmps:List Value) (op:UnOp) (x:Operand) (k:QK):Prop :=
 bT tmps x fun xv=>match op,xv with
  | .neg,.int q n=>k (.int q (q.wrap (0 - n))) none
  | .not,.bool b=>k (.bool !b) none
  | .xor,.int q n=>match Op.intBits .xor q (if q.signed then -1 else q.max) n with
   | .pure v=>qj v fun v=>match cG v with | true=>k v none | false=>False
   | _=>False
  | _,_=>False
def bz:List Value→List Value→Bool
 | [],[]=>true
 | .bool a::l,.bool b::m=>(a == b) && bz l m
 | .int _ a::l,.int _ b::m=>(a == b) && bz l m
 | .string a::l,.string b::m=>(a.toList == b.toList) && bz l m
 | _,_=>false
def eW:List Value→List Value→Bool
 | [],[]=>true
 | .bool _::l,.bool _::m=>eW l m
 | .int q _::l,.int q' _::m=>decide (q=q') && eW l m
 | .string _::l,.string _::m=>eW l m
 | _,_=>false
def xD (P:Program) (t:TypeId) (zero:List Value):Prop :=
 ∀ xs ys w,eW xs zero=true→eW ys zero=true→(Op.equal t (.agg ⟨xs⟩) (.agg ⟨ys⟩)).run P w=.ok (bz xs ys) w∧∀ x y op,(eqGuard op t x y (.agg ⟨xs⟩) (.agg ⟨ys⟩)).run P w=.ok () w
def Oa (op:BinOp) (q:IntKind) (a b:Int) (k:QK):Prop :=
 match op with
 | .and | .or | .xor | .andNot=>match Op.intBits op q a b with
  | .pure v=>qj v fun v=>match cG v with | true=>k v none | false=>False
  | _=>False
 | _=>False
def BE (op:BinOp) (q q':IntKind) (a b:Int) (k:QK):Prop :=
 match op with
 | .shl=>xC (0≤b) <| k (.int q (q.wrap (a*2 ^ (min b.toNat q.bits)))) none
 | .shr=>xC (0≤b) <| k (.int q (a.fdiv (2 ^ (min b.toNat q.bits)))) none
 | op=>match decide (q=q') with
  | true=>match op with
   | .add=>k (.int q (q.wrap (a+b))) none
   | .sub=>k (.int q (q.wrap (a - b))) none
   | .mul=>k (.int q (q.wrap (a*b))) none
   | .quo=>xC (b≠0) <| k (.int q (q.wrap (a.tdiv b))) none
   | .rem=>xC (b≠0) <| k (.int q (a.tmod b)) none
   | .eql=>k (.bool (a == b)) none
   | .neq=>k (.bool (a != b)) none
   | .lss=>k (.bool (decide (a < b))) none
   | .leq=>k (.bool (decide (a≤b))) none
   | .gtr=>k (.bool (decide (a > b))) none
   | .geq=>k (.bool (decide (a ≥ b))) none
   | op=>Oa op q a b k
  | false=>False
def MT (op:BinOp) (a b:ByteArray) (k:QK):Prop :=
 match op with
 | .add=>(a.size+b.size < 9223372036854775808)∧k (.string (a++b)) none
 | .eql=>k (.bool (a.toList == b.toList)) none
 | .neq=>k (.bool !(a.toList == b.toList)) none
 | .lss=>k (.bool (Op.bytesLess a.toList b.toList)) none
 | .gtr=>k (.bool !(Op.bytesLess a.toList b.toList || a.toList == b.toList)) none
 | _=>False
def Fl (tk:TK) (op:BinOp) (a b:Bool) (k:QK):Prop :=
 match tk,op with
 | .bool,.eql=>k (.bool (a == b)) none
 | .bool,.neq=>k (.bool !(a == b)) none
 | _,_=>False
def FU (eqs:List TypeId) (t:TypeId) (zero:List Value) (op:BinOp) (a b:List Value) (k:QK):Prop :=
 match eqs.contains t && eW a zero && eW b zero,op with
 | true,.eql=>k (.bool (bz a b)) none
 | true,.neq=>k (.bool !(bz a b)) none
 | _,_=>False
def FW (tk:TK) (op:BinOp) (a:Option Addr) (k:QK):Prop :=
 match tk,op,a with
 | .slice _,.eql,none=>k (.bool true) none
 | .slice _,.eql,some _=>k (.bool false) none
 | .slice _,.neq,none=>k (.bool false) none
 | .slice _,.neq,some _=>k (.bool true) none
 | _,_,_=>False
def CL (tt:TT) (eqs:List TypeId) (tmps:List Value) (op:BinOp) (t:TypeId) (x y:Operand) (k:QK):Prop :=
 bT tmps x fun xv=>bT tmps y fun yv=>match xv,yv with
  | .int q a,.int q' b=>BE op q q' a b k
  | .string a,.string b=>MT op a b k
  | .bool a,.bool b=>cJ tt t fun ti=>Fl ti.kind op a b k
  | .agg a,.agg b=>cJ tt t fun ti=>FU eqs t ti.zero op a.toList b.toList k
  | .slice a _ _,.slice none 0 0=>cJ tt t fun ti=>FW ti.kind op a k
  | _,_=>False
def bytesOf (get:Nat→List Value) (row n:Nat):List UInt8:=(List.range n).map fun r=>match get (row+r) with | .int _ x::_=>UInt8.ofNat x.toNat | _=>0
def Mc (tt:TT) (tmps:List Value) (H:aw) (src dst:TypeId) (x:Operand) (aE:Nat) (k:QK):Prop :=
 bT tmps x fun xv=>cJ tt src fun ts=>cJ tt dst fun td=>match td.kind,xv with
  | .int q,.int _ n=>match ts.kind with
   | .int _=>k (.int q (q.wrap n)) none
   | _=>False
  | .str,.string s=>match ts.kind with
   | .str=>k (.string s) none
   | _=>False
  | .str,.slice (some ⟨id,row,none⟩) n _=>match ts.kind with
   | .slice e=>cJ tt e fun te=>match te.kind with
    | .int .u8=>match n with
     | 0=>k (.string ⟨#[]⟩) none
     | n+1=>gG H id fun b=>match b.ae with
      | 1=>(row+(n+1)≤b.n∧∀ r,r < n+1→∃ x,b.row (row+r)=[.int .u8 x])∧k (.string ⟨⟨bytesOf b.row row (n+1)⟩⟩) none
      | _=>False
    | _=>False
   | _=>False
  | .str,.slice none 0 0=>match ts.kind with
   | .slice e=>cJ tt e fun te=>match te.kind with
    | .int .u8=>k (.string ⟨#[]⟩) none
    | _=>False
   | _=>False
  | .slice e,.string s=>match ts.kind with
   | .str=>cJ tt e fun te=>match te.kind with
    | .int .u8=>k (.slice (some ⟨aE,0,none⟩) s.size aK) (some (.flat false s.size 1 fun r=>[.int .u8 (bX s r)]))
    | _=>False
   | _=>False
  | _,_=>False
def Hr (tmps:List Value) (tt:TT) (t:TypeId) (x:Operand) (k:QK):Prop :=
 bT tmps x fun xv=>cJ tt t fun ti=>match ti.kind,xv with
  | .str,.string s=>k (.int .i64 s.size) none
  | .slice _,.slice _ n _=>k (.int .i64 n) none
  | _,_=>False
def OM (tmps:List Value) (x y:Operand) (k:QK):Prop :=
 bT tmps x fun xv=>bT tmps y fun yv=>match xv,yv with
  | .int q a,.int _ b=>k (.int q (if b > a then b else a)) none
  | _,_=>False
def ON (tmps:List Value) (x y:Operand) (k:QK):Prop :=
 bT tmps x fun xv=>bT tmps y fun yv=>match xv,yv with
  | .int q a,.int _ b=>k (.int q (if b < a then b else a)) none
  | _,_=>False
def Ck (tmps:List Value) (fs:List (Nat × Nat × Bool)):List (Nat × Operand)→List Value→(List Value→Prop)→Prop
 | [],cs,k=>k cs
 | p::ps,cs,k=>bT tmps p.2 fun v=>wY v fun vs=>yD fs p.1 fun off sz _=>match p6 vs sz with
  | true=>uR cs off vs fun eF=>Ck tmps fs ps eF k
  | false=>False
def xk (sz:Nat):Nat→Nat→List (Nat × Nat × Bool)
 | _,0=>[]
 | off,n+1=>(off,sz,true)::xk sz (off+sz) n
def NB (tt:TT) (tmps:List Value) (t:TypeId) (parts:List (Nat × Operand)) (k:QK):Prop :=
 cJ tt t fun ti=>match ti.kind with
  | .struct fs=>Ck tmps fs parts ti.zero fun cs=>k (.agg ⟨cs⟩) none
  | .array n e=>cJ tt e fun te=>Ck tmps (xk te.size 0 n) parts ti.zero fun cs=>k (.agg ⟨cs⟩) none
  | _=>False
def cQ (τ:List Nat):Nat→Value→Option Value
 | 0,_=>none
 | k+1,v=>match v with
  | .bool b=>some (.bool b)
  | .int q n=>some (.int q n)
  | .string s=>some (.string s)
  | .pointer none=>some (.pointer none)
  | .pointer (some ⟨id,row,sp⟩)=>match τ[id]? with | some vh=>some (.pointer (some ⟨vh,row,sp⟩)) | none=>none
  | .slice none 0 0=>some (.slice none 0 0)
  | .slice (some ⟨id,row,none⟩) n c=>match τ[id]? with | some vh=>some (.slice (some ⟨vh,row,none⟩) n c) | none=>none
  | .nilFunc=>some .nilFunc
  | .agg ⟨l⟩=>match l.foldr (fun v acc=>match cQ τ k v,acc with | some x,some xs=>some (x::xs) | _,_=>none) (some []) with | some l'=>some (.agg ⟨l'⟩) | none=>none
  | .tuple ⟨l⟩=>match l.foldr (fun v acc=>match cQ τ k v,acc with | some x,some xs=>some (x::xs) | _,_=>none) (some []) with | some l'=>some (.tuple ⟨l'⟩) | none=>none
  | .func fn ⟨l⟩ ⟨m⟩=>match l.foldr (fun v acc=>match cQ τ k v,acc with | some x,some xs=>some (x::xs) | _,_=>none) (some []),m.foldr (fun v acc=>match cQ τ k v,acc with | some x,some xs=>some (x::xs) | _,_=>none) (some []) with
   | some l',some m'=>some (.func fn ⟨l'⟩ ⟨m'⟩) | _,_=>none
  | _=>none
def mE (τ:List Nat) (k:Nat) (l:List Value):Option (List Value):=l.foldr (fun v acc=>match cQ τ k v,acc with | some x,some xs=>some (x::xs) | _,_=>none) (some [])
def mF:List Value→Bool
 | []=>true
 | v::l=>cG v && mF l
theorem dz:∀ {l:List Value},mF l=true→∀ v∈l,cG v=true
 | [],_,v,hv=>by simp at hv
 | v::l,h,u,hu=>by
  simp only [mF,Bool.and_eq_true] at h;rcases List.mem_cons.1 hu with e | e
  ·rw [e]; exact h.1
  ·exact dz h.2 u e
structure aO (b c:ah):Prop where
 own:b.own=true→c.n7=true∧c.n=b.n
 ae:c.ae=b.ae
 n:b.n≤c.n
 row:∀ r,r < b.n→b.row r=c.row r
 flat:∀ r,r < b.n→∀ v∈b.row r,cG v=true
theorem aO.aW {o o':Bool} {n e:Nat} {g:Nat→List Value} (h:o=true→o'=true) (hs:∀ r,r < n→mF (g r)=true):aO (.flat o n e g) (.flat o' n e g) :=
 ⟨fun ho=>⟨h ho,rfl⟩,rfl,Nat.le_refl _,fun _ _=>rfl,fun r hr v hv=>dz (hs r hr) v hv⟩
def yV (H:aw):List Nat→List ah→Prop→Prop
 | [],[],k=>k
 | s::σ,b::bs,k=>match b with
  | .b9 _=>False
  | b=>gG H s fun c=>aO b c∧yV H σ bs k
 | _,_,_=>False
def CM (σ:List Nat) (b c:ah):Prop:=aO b c∨∃ o e r r',b=.aL false e [r]∧c=.aL o e [r']∧mE σ 3 r=some r'
def BV (H:aw) (τ:List Nat):List Nat→List ah→Prop→Prop
 | [],[],k=>k
 | s::σ,b::bs,k=>match b with
  | .b9 _=>False
  | b=>gG H s fun c=>CM τ b c∧BV H τ σ bs k
 | _,_,_=>False
def GY (Φ:yT) (g:FuncId) (args:List Value) (H:aw) (aE:Nat) (k:QK):Prop :=
 match Φ g with
 | some (.p S)=>∃ i:S.ι,S.args i=args∧S.pre i∧qj (S.val i) fun v=>k v none
 | some (.q S)=>∃ (i:S.ι) (σ:List Nat),mE σ 3 (S.args i)=some args∧S.pre i∧yV H σ (S.aj i) (∃ v,cQ (σ++[aE]) 3 (S.val i)=some v∧qj v fun v=>k v (S.new i))
 | some (.r S)=>∃ (i:S.ι) (σ:List Nat),mE σ 3 (S.args i)=some args∧S.pre i∧BV H σ σ (S.aj i) (∃ v,cQ (σ++[aE]) 3 (S.val i)=some v∧qj v fun v=>k v (S.new i))
 | none=>False
def ui (c l:Nat):Nat:=match decide (c=aK) with | true=>aK | false=>c - l
def setRow:List (List Value)→Nat→List Value→(List (List Value)→Prop)→Prop
 | [],_,_,_=>False
 | _::rs,0,r,k=>k (r::rs)
 | q::rs,n+1,r,k=>setRow rs n r fun b6=>k (q::b6)
def rowsOf (tmps:List Value) (sz:Nat):List (Nat × Operand)→List (List Value)→(List (List Value)→Prop)→Prop
 | [],rows,k=>k rows
 | p::ps,rows,k=>bT tmps p.2 fun v=>wY v fun cs=>match p6 cs sz with
  | true=>setRow rows p.1 cs fun iS=>rowsOf tmps sz ps iS k
  | false=>False
def Hs (n:Nat) (r:List Value) (k:List (List Value)→Prop):Prop:=match n with
 | 0=>k []
 | n+1=>Hs n r fun l=>k (r::l)
def Gv (ae:Nat) (rows:List (List Value)) (k:ah→Prop):Prop :=
 match rows with
 | []=>k (.flat true 0 ae fun _=>[])
 | r::rs=>k (.aL true ae (r::rs))
def Kd (tt:TT) (tmps:List Value) (t:TypeId) (n:Nat) (ps:List (Nat × Operand)) (aE:Nat) (k:QK):Prop :=
 cJ tt t fun ti=>match ti.kind with
  | .slice e=>cJ tt e fun te=>match Nat.ble (n*te.size) 16777216 with
   | true=>Hs n te.zero fun aa5=>rowsOf tmps te.size ps aa5 fun rows=>Gv te.size rows fun b=>k (.slice (some ⟨aE,0,none⟩) n n) (some b)
   | false=>False
  | _=>False
def Ky (tt:TT) (tmps:List Value) (t:TypeId) (x y:Operand) (aE:Nat) (k:QK):Prop :=
 bT tmps x fun xv=>bT tmps y fun yv=>cJ tt t fun ti=>match ti.kind with
  | .slice e=>cJ tt e fun te=>match mF te.zero,xv,yv with
   | true,.int _ n,.int _ m=>(0≤n∧n≤m∧m*te.bytes≤140737488355328)∧k (.slice (some ⟨aE,0,none⟩) n.toNat m.toNat) (some (.flat true n.toNat te.size fun _=>te.zero))
   | _,_,_=>False
  | _=>False
def lT (tmps:List Value) (x:Option Operand) (d:Int) (k:Int→Prop):Prop :=
 match x with
 | none=>k d
 | some x=>bT tmps x fun v=>match v with | .int _ n=>k n | _=>False
def Gw (tt:TT) (tmps:List Value) (H:aw) (t:TypeId) (x:Operand) (lo hi mx:Option Operand) (k:QK):Prop :=
 bT tmps x fun xv=>cJ tt t fun ti=>match ti.kind,xv with
  | .str,.string s=>match mx with
   | none=>lT tmps lo 0 fun l=>lT tmps hi s.size fun h=>(0≤l∧l≤h∧h≤s.size)∧k (.string (s.extract l.toNat h.toNat)) none
   | some _=>False
  | .slice e,.slice (some ⟨id,row,none⟩) n c=>cJ tt e fun te=>gG H id fun b=>match Nat.beq b.ae te.size with
   | true=>match hi,mx with
    | hi,none=>lT tmps lo 0 fun l=>lT tmps hi n fun h=>(0≤l∧l≤h∧h≤n)∧k (.slice (some ⟨id,eX row l.toNat,none⟩) (h.toNat - l.toNat) (ui c l.toNat)) none
    | some h0,some m=>lT tmps lo 0 fun l=>bT tmps h0 fun hv=>bT tmps m fun mv=>match hv,mv with
     | .int _ h,.int _ m=>(0≤l∧l≤h∧h≤m∧m≤n)∧k (.slice (some ⟨id,eX row l.toNat,none⟩) (h.toNat - l.toNat) (m.toNat - l.toNat)) none
     | _,_=>False
    | none,some _=>False
   | false=>False
  | .slice e,.slice (some ⟨id,row,some b0⟩) n _=>cJ tt e fun te=>gG H id fun b=>match Nat.beq b.ae te.size with
   | true=>match hi,mx with
    | hi,none=>lT tmps lo 0 fun l=>lT tmps hi n fun h=>(0≤l∧l≤h∧h≤b0)∧k (.slice (some ⟨id,eX row l.toNat,some (b0 - l.toNat)⟩) (h.toNat - l.toNat) aK) none
    | some h0,some m=>lT tmps lo 0 fun l=>bT tmps h0 fun hv=>bT tmps m fun mv=>match hv,mv with
     | .int _ h,.int _ m=>(0≤l∧l≤h∧h≤m∧m≤b0)∧k (.slice (some ⟨id,eX row l.toNat,none⟩) (h.toNat - l.toNat) (m.toNat - l.toNat)) none
     | _,_=>False
    | none,some _=>False
   | false=>False
  | .array n e,.pointer (some ⟨id,row,none⟩)=>cJ tt e fun te=>gG H id fun b=>match Nat.beq b.ae te.size with
   | true=>match mx with
    | none=>lT tmps lo 0 fun l=>lT tmps hi n fun h=>(0≤l∧l≤h∧h≤n∧row+n≤b.n∧b.n7=true)∧k (.slice (some ⟨id,eX row l.toNat,none⟩) (h.toNat - l.toNat) (n - l.toNat)) none
    | some _=>False
   | false=>False
  | .slice e,.slice none 0 0=>cJ tt e fun _=>match hi,mx with
   | hi,none=>lT tmps lo 0 fun l=>lT tmps hi 0 fun h=>(0≤l∧l≤h∧h≤0)∧k (.slice none 0 0) none
   | some h0,some m=>lT tmps lo 0 fun l=>bT tmps h0 fun hv=>bT tmps m fun mv=>match hv,mv with
    | .int _ h,.int _ m=>(0≤l∧l≤h∧h≤m∧m≤0)∧k (.slice none 0 0) none
    | _,_=>False
   | none,some _=>False
  | _,_=>False
def OO (tmps:List Value) (tt:TT) (t:TypeId) (x:Operand) (k:QK):Prop :=
 bT tmps x fun xv=>cJ tt t fun ti=>match ti.kind,xv with
  | .slice _,.slice none 0 0=>k (.int .i64 0) none
  | _,_=>False
def Lj (tt:TT) (tmps:List Value) (t u:TypeId) (x y:Operand) (aE:Nat) (k:QK):Prop :=
 bT tmps x fun xv=>bT tmps y fun yv=>cJ tt t fun ti=>match ti.kind with
  | .slice e=>cJ tt e fun te=>cJ tt u fun tu=>match tu.kind,mF te.zero,xv,yv with
   | .int _,true,.slice none 0 0,.int .i64 n=>(0 < n∧n*te.bytes≤140737488355328)∧k (.slice (some ⟨aE,0,none⟩) n.toNat aK) (some (.flat true n.toNat te.size fun _=>te.zero))
   | _,_,_,_=>False
  | _=>False
abbrev FT:=List Value→aw→(Value→aw→Prop)→Prop
structure Env where
 tt:TT
 eqs:List TypeId
 Φ:yT
 Ψ:FuncId→Option FT:=fun _=>none
 base:Nat:=0
 ig:Bool:=false
 ys:List (Nat × FT):=[]
 rd:Bool:=false
 nu:Nu:=fun _=>none
 It:FuncId→Option (Nat→FT→Nu→FT):=fun _=>none
def lC (E:Env) (op:Op) (tmps:List Value) (H:aw) (aE:Nat) (k:QK):Prop :=
 match op with
 | .move x | .assign x=>Cj tmps x k
 | .pick c a b=>N9 tmps c a b k
 | .alloc t=>Ny E.tt t aE k
 | .box t x=>OL E.tt tmps t x aE k
 | .build t ps=>NB E.tt tmps t ps.toList k
 | .load t a=>GX E.tt tmps H t a k
 | .buildSlice t n ps=>Kd E.tt tmps t n ps.toList aE k
 | .makeSlice t x y=>Ky E.tt tmps t x y aE k
 | .slice t x lo hi mx=>Gw E.tt tmps H t x lo hi mx k
 | .fieldAddr t x f=>Kx E.tt tmps t x f k
 | .field t x f=>Nz E.tt tmps t x f k
 | .indexAddr t x i=>Er E.tt tmps H t x i k
 | .index t x i=>NA E.tt tmps t x i k
 | .extract x i=>Fk tmps x i k
 | .makeFunc fn a b=>Li tmps fn a.toList b.toList k
 | .unOp op _ x=>Px tmps op x k
 | .binOp op t x y _=>CL E.tt E.eqs tmps op t x y k
 | .convert s d x=>Mc E.tt tmps H s d x aE k
 | .call c=>match c.callee with
  | .value f=>bT tmps f fun fv=>match fv with
   | .func (.func g) a b=>qi tmps c.args.toList fun vs=>qN a.toList vs fun l=>qN l b.toList fun args=>GY E.Φ g args H aE k
   | _=>False
  | .builtin .len=>match c.args.toList,c.argTypes.toList with
   | [x],[t]=>Hr tmps E.tt t x k
   | _,_=>False
  | .builtin .max=>match c.args.toList with
   | [x,y]=>OM tmps x y k
   | _=>False
  | .builtin .cap=>match c.args.toList,c.argTypes.toList with
   | [x],[t]=>OO tmps E.tt t x k
   | _,_=>False
  | .builtin .append=>match c.args.toList,c.argTypes.toList with
   | [x,y],[t,u]=>Lj E.tt tmps t u x y aE k
   | _,_=>False
  | .builtin .min=>match c.args.toList with
   | [x,y]=>ON tmps x y k
   | _=>False
  | _=>False
 | _=>False
def eO (P:Program) (op:Op) (tmps:List Value) (H:aw) (aE:Nat) (k:QK):Prop :=
 ∃ v nb,k v nb∧∀ (o:Oper) (ν:Nu) (a:Act) (w:World) (r:Option Nat) (n:Nat),o.op=op→(∀ x∈op.operands,fc ν tmps a x)→bU ν H w→ν aE=none →
  ∀ next Q,(∀ v' w' ai,ng ν ai aE w w' v v' nb→next (a.put o.dst v') w')→o.wpIn (WF r) n P a w next Q
def qB (P:Program) (bh:Nu) (op:Op) (tmps:List Value) (v:Value):Prop :=
 (∀ c,op≠.defer c)∧∀ (o:Oper) (ν:Nu) (a:Act) (w:World),bh.le ν→o.op=op→(∀ x∈op.operands,fc ν tmps a x)→∃ v',aq ν v v'∧(execOp a.eval o).run P w=.ok (.value v') w
theorem jM {P:Program} {r:Option Nat} {n:Nat} {o:Oper} {a:Act} {w w':World} {v':Value} (hd:∀ c,o.op≠.defer c)
  (h:(execOp a.eval o).run P w=.ok (.value v') w') (next:Act→World→Prop) (Q:Exit→Act→World→Prop) (hn:next (a.put o.dst v') w') :
  o.wpIn (WF r) n P a w next Q:=by
 refine ⟨fun _ _=>trivial,?_⟩
 rw [Oper.semAt_eq _ _ _ hd,h];exact hn
def nZ (P:Program) (bh:Nu) (G:aw) (op:Op) (tmps:List Value) (v:Value):Prop :=
 (∀ c,op≠.defer c)∧∀ (o:Oper) (ν:Nu) (a:Act) (w:World),bh.le ν→o.op=op→(∀ x∈op.operands,fc ν tmps a x)→bU ν G w→∃ v',aq ν v v'∧(execOp a.eval o).run P w=.ok (.value v') w
def sK (P:Program) (op:Op) (tmps:List Value) (H:aw) (k:QK):Prop:=∃ v,k v none∧∀ bh,nZ P bh H op tmps v
theorem sK.value {P:Program} {op:Op} {tmps:List Value} {H:aw} {k:QK} (hd:∀ c,op≠.defer c) {v:Value} (hk:k v none)
  (h:∀ (o:Oper) (ν:Nu) (a:Act) (w:World),o.op=op→(∀ x∈op.operands,fc ν tmps a x)→bU ν H w→∃ v',aq ν v v'∧(execOp a.eval o).run P w=.ok (.value v') w):sK P op tmps H k :=
 ⟨v,hk,fun _=>⟨hd,fun o ν a w _ ho ha hH=>h o ν a w ho ha hH⟩⟩
theorem eO.value {P:Program} {op:Op} {tmps:List Value} {H:aw} {aE:Nat} {k:QK} (hd:∀ c,op≠.defer c) {v:Value} (hk:k v none)
  (h:∀ (o:Oper) (ν:Nu) (a:Act) (w:World),o.op=op→(∀ x∈op.operands,fc ν tmps a x)→bU ν H w→∃ v',aq ν v v'∧(execOp a.eval o).run P w=.ok (.value v') w):eO P op tmps H aE k :=
 ⟨v,none,hk,fun o ν a w r n ho ha hH _ next Q hn=>by
  obtain ⟨v',hv,hr⟩:=h o ν a w ho ha hH;exact jM (by rw [ho]; exact hd) hr next Q (hn _ _ ν ⟨ν.le_refl,fun _ _=>rfl,hv,Below.refl _ _,fun _=>rfl,(fun b hb=>by cases hb)⟩)⟩
theorem sK.ok {P:Program} {op:Op} {tmps:List Value} {H:aw} {aE:Nat} {k:QK} (h:sK P op tmps H k):eO P op tmps H aE k :=
 let ⟨_,hk,hv⟩:=h
 .value (hv fun _=>none).1 hk fun o ν a w ho ha hH=>(hv ν).2 o ν a w ν.le_refl ho ha hH
open Go Go.RowKit
section
variable {P:Program} {tt:TT} {Φ:yT} {w:World} {ν:Nu} {aE:Nat} {k:QK} {tmps:List Value} {H:aw}
theorem YR {x:Operand} (h:Cj tmps x k):eO P (.move x) tmps H aE k:=by
 obtain ⟨v,hk,hv⟩:=cP h;exact .value (by simp) hk fun o ν a w ho ha _=>⟨_,hv ν a (ha x (by simp [Op.operands])),by simp [execOp,ho]⟩
theorem Uv {x:Operand} (h:Cj tmps x k):eO P (.assign x) tmps H aE k:=by
 obtain ⟨v,hk,hv⟩:=cP h;exact .value (by simp) hk fun o ν a w ho ha _=>⟨_,hv ν a (ha x (by simp [Op.operands])),by simp [execOp,ho]⟩
theorem aq.ki {ν:Nu} {b:Bool} {r:Value} (h:aq ν (.bool b) r):r=.bool b:=by cases h; rfl
theorem aq.fK {ν:Nu} {k:IntKind} {x:Int} {r:Value} (h:aq ν (.int k x) r):r=.int k x:=by cases h; rfl
theorem aq.r9 {ν:Nu} {x:ByteArray} {r:Value} (h:aq ν (.string x) r):r=.string x:=by cases h; rfl
theorem aq.oX {ν:Nu} {id row:Nat} {sp:Option Nat} {r:Value} (h:aq ν (.pointer (some ⟨id,row,sp⟩)) r):∃ l,ν id=some l∧r=.pointer (some (l.at row (sp.getD 0))):=by
 cases h with | ptr _ _ _ l h=>exact ⟨l,h,rfl⟩
theorem YT {c x y:Operand} (h:N9 tmps c x y k):eO P (.pick c x y) tmps H aE k:=by
 obtain ⟨cv,h,hc⟩:=cP h
 split at h
 ·rename_i t;obtain ⟨av,h,hx⟩:=cP h;obtain ⟨bv,h,hy⟩:=cP h
  split at h
  ·refine .value (by simp) h fun o ν a w ho ha _=>⟨_,.bool _,?_⟩
   have hc:=(hc ν a (ha c (by simp [Op.operands]))).ki
   have hx:=(hx ν a (ha x (by simp [Op.operands]))).ki
   have hy:=(hy ν a (ha y (by simp [Op.operands]))).ki
   cases t <;> simp [execOp,ho,hc,hx,hy,asBool]
  ·cases t with
   | true =>
    refine .value (by simp) h fun o ν a w ho ha _=>⟨_,hx ν a (ha x (by simp [Op.operands])),?_⟩
    have hc:=(hc ν a (ha c (by simp [Op.operands]))).ki
    simp [execOp,ho,hc,asBool]
   | false =>
    refine .value (by simp) h fun o ν a w ho ha _=>⟨_,hy ν a (ha y (by simp [Op.operands])),?_⟩
    have hc:=(hc ν a (ha c (by simp [Op.operands]))).ki
    simp [execOp,ho,hc,asBool]
 ·exact h.elim
theorem Md {ν:Nu} {aE:Nat} (hn:ν aE=none) {ae:Nat} {cs:List Value} {eF:List Value} (hl:cs.length=ae) (hr:bc ν cs eF)
  (h1:∀ v∈cs,v.oneCell'=true) (w:World) (t:TypeId) :
  bP (ν.add aE ⟨w.heap.size,0,ae,1⟩) ⟨w.heap.size,0,ae,1⟩ (.aL true ae [cs]) { w with heap:=w.heap.push (.cells ⟨eF⟩ t) }:=by
 have dt:({ w with heap:=w.heap.push (.cells ⟨eF⟩ t) }:World).heap[w.heap.size]?=some (.cells ⟨eF⟩ t (0,0)):=by simp
 refine ⟨rfl,fun r jy=>?_,fun r jy j v hv=>?_,fun h=>by simp [ah.jR] at h,fun r jy v hv=>?_,fun _ _=>⟨_,_,dt,?_,?_⟩,(fun r h=>nomatch h),?_⟩
 ·have:r=0:=by simp [ah.n] at jy; exact jy
  subst this; simpa [ah.row,ah.ae] using hl
 ·have:r=0:=by simp [ah.n] at jy; exact jy
  subst this;have hv:cs[j]?=some v:=by simpa [ah.row] using hv
  obtain ⟨v',J,h3⟩:=hr.get hv;refine ⟨v',?_,h3.mono (Nu.kl hn)⟩;simp only [Loc.at,World.cell?,Nat.zero_mul,Nat.zero_add];rw [dt]
  simpa using J
 ·have:r=0:=by simp [ah.n] at jy; exact jy
  subst this; exact h1 v (by simpa [ah.row] using hv)
 ·simp [← hl,hr.1]
 ·simp [ah.n]
 ·simp
theorem mY {ν:Nu} {aE:Nat} (hn:ν aE=none) {b:ah} {w w':World} {l:Loc} {v v':Value} (hb:bP (ν.add aE l) l b w') (hB:Below w.heap.size w w') (hl:w.heap.size≤l.aG)
  (hv:aq (ν.add aE l) v v'):ng ν (ν.add aE l) aE w w' v v' (some b) :=
 ⟨Nu.kl hn,fun id bn=>Nu.iQ bn,hv,hB,(fun h=>by cases h),(fun b' bF=>by cases bF; exact ⟨l,Nu.add_same,hb,hl⟩)⟩
theorem yc (w:World) (o:Obj):Below w.heap.size w { w with heap:=w.heap.push o }:=(Below.refl _ w).alloc (Nat.le_refl _) o
theorem AM:∀ {z l l':List Value},m9 z l=some l'→l=z++l'∧∀ v∈z,cG v=true
 | [],l,l',h=>by simp [m9] at h; exact ⟨by simp [h],fun v hv=>by cases hv⟩
 | .int q n::z,[],l',h=>by simp [m9] at h
 | .int q n::z,x::l,l',h=>by
  cases x <;> simp only [m9] at h <;> try (cases h)
  split at h
  ·rename_i hd;simp only [Bool.and_eq_true,decide_eq_true_eq] at hd;obtain ⟨rfl,rfl⟩:=hd;obtain ⟨h1,J⟩:=AM h;exact ⟨by rw [h1]; rfl,fun v hv=>(List.mem_cons.1 hv).elim (fun e=>by rw [e]; rfl) (fun e=>J v e)⟩
  ·cases h
 | .bool b::z,[],l',h=>by simp [m9] at h
 | .bool b::z,x::l,l',h=>by
  cases x <;> simp only [m9] at h <;> try (cases h)
  split at h
  ·rename_i hd;have hd:=eq_of_beq hd;subst hd;obtain ⟨h1,J⟩:=AM h;exact ⟨by rw [h1]; rfl,fun v hv=>(List.mem_cons.1 hv).elim (fun e=>by rw [e]; rfl) (fun e=>J v e)⟩
  ·cases h
 | .string s::z,[],l',h=>by simp [m9] at h
 | .string s::z,x::l,l',h=>by
  cases x <;> simp only [m9] at h <;> try (cases h)
  split at h
  ·rename_i s' _ hd;simp only [Bool.and_eq_true] at hd;have e1:=Nat.eq_of_beq_eq_true hd.1;have e2:=Nat.eq_of_beq_eq_true hd.2;have e:s=s':=by
    apply ByteArray.ext;apply Array.ext
    ·show s.size=s'.size; omega
    ·intro i h1 J;have:i < s.size:=h1;omega
   subst e;obtain ⟨h1,J⟩:=AM h;exact ⟨by rw [h1]; rfl,fun v hv=>(List.mem_cons.1 hv).elim (fun e=>by rw [e]; rfl) (fun e=>J v e)⟩
  ·cases h
theorem Kz {z:List Value}:∀ {n:Nat} {l:List Value},yU z n l=true→l.length=n*z.length∧(∀ r,r < n→∀ (j:Nat) v,z[j]?=some v→l[r*z.length+j]?=some v)∧(0 < n→∀ v∈z,cG v=true)
 | 0,[],_=>⟨by simp,fun r hr=>absurd hr (by omega),fun h=>absurd h (by omega)⟩
 | 0,_::_,h=>by simp [yU] at h
 | n+1,l,h=>by
  simp only [yU] at h
  split at h
  ·rename_i l' he;obtain ⟨h1,J⟩:=AM he;obtain ⟨h3,h4,_⟩:=Kz h;refine ⟨by rw [h1,List.length_append,h3,Nat.add_mul]; omega,fun r hr j v hv=>?_,fun _=>J⟩
   have hj:j < z.length:=(List.getElem?_eq_some_iff.1 hv).1;rw [h1];cases r with
   | zero=>rw [Nat.zero_mul,Nat.zero_add,List.getElem?_append_left hj]; exact hv
   | succ r =>
    rw [List.getElem?_append_right (by rw [Nat.add_mul]; omega),show (r+1)*z.length+j - z.length=r*z.length+j by rw [Nat.add_mul]; omega]
    exact h4 r (by omega) j v hv
  ·cases h
theorem V1 (hT:∀ t ti,tt t=some ti→ay P t ti) {t:TypeId} (h:Ny tt t aE k):eO P (.alloc t) tmps H aE k:=by
 obtain ⟨ti,ht,h⟩:=cN h;have ba:=hT _ _ ht;obtain ⟨i,hi,_,_,z,hz,im⟩:=ba.info;have iI:k (.pointer (some ⟨aE,0,none⟩)) (some (.aL true ti.size [ti.zero]))→eO P (.alloc t) tmps H aE k:=fun h=>by
  refine ⟨_,_,h,fun o ν a w r n ho ha hH hn next Q hN=>jM (w':={ w with heap:=w.heap.push (.cells ⟨ti.zero⟩ t) }) (v':=.pointer (some ⟨w.heap.size,0,none⟩)) (by simp [ho]) ?_ next Q (hN _ _ (ν.add aE ⟨w.heap.size,0,ti.size,1⟩) (mY hn (Md hn ba.len (ba.self ν) ba.one w t) (yc _ _) (Nat.le_refl _) ?_))⟩
  ·simp [execOp,ho,Instr.alloc,vR hi hz,newVar,newRow,im]
  ·have:=aq.ptr (ν:=ν.add aE ⟨w.heap.size,0,ti.size,1⟩) aE 0 none _ Nu.add_same
   simpa [Loc.at] using this
 split at h
 ·rename_i n e hk;obtain ⟨te,he,h⟩:=cN h;have CN:=hT _ _ he
  split at h
  ·rename_i pF;rw [Bool.and_eq_true] at pF;obtain ⟨z1,z2,z3⟩:=Kz pF.2;refine ⟨_,_,h,fun o ν a w r nn ho ha hH hn next Q hN=>jM (w':={ w with heap:=w.heap.push (.cells ⟨ti.zero⟩ t) }) (v':=.pointer (some ⟨w.heap.size,0,none⟩)) (by simp [ho]) ?_ next Q (hN _ _ (ν.add aE ⟨w.heap.size,0,te.size,n⟩) (mY hn ?_ (yc _ _) (Nat.le_refl _) ?_))⟩
   ·simp [execOp,ho,Instr.alloc,vR hi hz,newVar,newRow,im]
   ·have dt:({ w with heap:=w.heap.push (.cells ⟨ti.zero⟩ t) }:World).heap[w.heap.size]?=some (.cells ⟨ti.zero⟩ t (0,0)):=by show (w.heap.push _)[w.heap.size]?=_; simp
    refine ⟨rfl,fun r hr=>CN.len,fun r hr j v hv=>⟨v,?_,aq.kR (z3 (by have:r < n:=hr; omega) v (List.mem_of_getElem? hv))⟩,fun _ r hr v hv=>z3 (by have:r < n:=hr; omega) v hv,fun r hr v hv=>CN.one v hv,fun _ _=>⟨_,_,dt,?_,Nat.le_refl _⟩,(fun r h=>nomatch h),?_⟩
    ·have hr:r < n:=hr;have hv:te.zero[j]?=some v:=hv;have J:=z2 r hr j v hv;simp only [Loc.at,World.cell?,Nat.zero_add];rw [dt];simp only [Option.isSome_none,Bool.false_eq_true,if_false];rw [← CN.len]
     simpa using J
    ·simp [z1,CN.len]
    ·show w.heap.size < (w.heap.push _).size
     simp
   ·have:=aq.ptr (ν:=ν.add aE ⟨w.heap.size,0,te.size,n⟩) aE 0 none _ Nu.add_same
    simpa [Loc.at] using this
  ·exact iI h
 ·exact iI h
theorem aa6 (hT:∀ t ti,tt t=some ti→ay P t ti) {t:TypeId} {x:Operand} (h:OL tt tmps t x aE k):eO P (.box t x) tmps H aE k:=by
 obtain ⟨ti,ht,h⟩:=cN h;obtain ⟨v,h,hv⟩:=cP h;have h:=AK h;have ba:=hT _ _ ht
 split at h
 ·rename_i he;obtain ⟨h1,J⟩:=xZ he;refine ⟨_,_,h,fun o ν a w r n ho ha hH hn next Q hN=>?_⟩
  have hc:=(hv ν a (ha x (by simp [Op.operands]))).cells
  refine jM (w':={ w with heap:=w.heap.push (.cells (a.eval x).cells t) }) (v':=.pointer (some ⟨w.heap.size,0,none⟩)) (by simp [ho]) ?_ next Q (hN _ _ (ν.add aE ⟨w.heap.size,0,ti.size,1⟩) (mY hn (Md hn h1 hc J w t) (yc _ _) (Nat.le_refl _) ?_))
  ·simp [execOp,ho,Instr.box,newVar,newRow]
  ·have:=aq.ptr (ν:=ν.add aE ⟨w.heap.size,0,ti.size,1⟩) aE 0 none _ Nu.add_same
   simpa [Loc.at] using this
 ·exact h.elim
theorem Lk {ag:Bool} {cs:List Value} {k:Value→Prop} (h:CK ag cs k):k (valOf ag cs):=by
 unfold CK at h
 split at h
 ·exact h
 ·exact vS h
 ·exact h
theorem EK {ν:Nu} {ag:Bool} {cs eF:List Value} (h:bc ν cs eF):aq ν (valOf ag cs) (if ag then .agg ⟨eF⟩ else eF.getD 0 undef):=by
 cases ag with
 | true=>exact .agg _ _ h.1 h.2
 | false =>
  cases cs with
  | nil=>rw [h.iP]; exact .undef ν
  | cons v l=>obtain ⟨y,ys,rfl,h1,_⟩:=h.jl; exact h1
theorem KA {l:Loc} {b:ah} (hb:bP ν l b w) {row off sz:Nat} {vs:List Value} (hr:row < b.n) (hl:vs.length=sz) (hv:∀ j v,vs[j]?=some v→(b.row row)[off+j]?=some v) :
  ∃ fO,bc ν vs fO∧fO.length=sz∧∀ j v,fO[j]?=some v→w.cell? ((l.at row off).add j)=some v:=by
 have key:∀ (vs:List Value) (off:Nat),(∀ j v,vs[j]?=some v→(b.row row)[off+j]?=some v)→∃ fO,bc ν vs fO∧∀ j v,fO[j]?=some v→w.cell? ((l.at row off).add j)=some v:=by
  intro vs
  induction vs with
  | nil=>exact fun _ _=>⟨[],.nil ν,fun j v hj=>by simp at hj⟩
  | cons v vs ih =>
   intro off hv;obtain ⟨v',h1,J⟩:=hb.cell row hr off v (by have:=hv 0 v rfl; simpa using this)
   obtain ⟨fO,h3,h4⟩:=ih (off+1) (fun j u hu=>by have:=hv (j+1) u (by simpa using hu); rwa [show off+(j+1)=off+1+j by omega] at this)
   refine ⟨v'::fO,.cons J h3,fun j u hu=>?_⟩
   cases j with
   | zero=>rw [Loc.jS]; simp at hu; subst hu; simpa using h1
   | succ j=>have:=h4 j u (by simpa using hu); rw [Loc.jS] at this ⊢; rwa [show off+(j+1)=off+1+j by omega]
 obtain ⟨fO,h1,J⟩:=key vs off hv;exact ⟨fO,h1,by rw [← h1.1,hl],J⟩
theorem MU (hT:∀ t ti,tt t=some ti→ay P t ti) {t:TypeId} {x:Operand} (h:GX tt tmps H t x k):sK P (.load t x) tmps H k:=by
 obtain ⟨av,h,hv⟩:=cP h
 split at h
 ·rename_i id row sp;obtain ⟨ti,ht,h⟩:=cN h;obtain ⟨b,hb,h⟩:=gB h;obtain ⟨hr,h⟩:=Lh h;have h:=Mb h;obtain ⟨vs,h,hl,fp⟩:=x8 h;have h:=Lk h;refine .value (by simp) h fun o ν a w ho ha hH=>?_
  obtain ⟨l,pG,hB⟩:=hH.aG id b hb;obtain ⟨l',ja,he⟩:=(hv ν a (ha x (by simp [Op.operands]))).oX
  rw [pG] at ja; cases ja;obtain ⟨fO,h1,J,h3⟩:=KA hB hr hl fp;exact ⟨_,EK h1,by simp [execOp,ho,Instr.loadAt,he,Instr.sureAddr,JR (hT _ _ ht) J h3]⟩
 ·exact h.elim
theorem YU (hT:∀ t ti,tt t=some ti→ay P t ti) {t:TypeId} {x:Operand} (h:GX tt tmps H t x k):eO P (.load t x) tmps H aE k:=(MU hT h).ok
theorem Rs (hT:∀ t ti,tt t=some ti→ay P t ti) {t:TypeId} {x:Operand} {f:Nat} (h:Kx tt tmps t x f k):eO P (.fieldAddr t x f) tmps H aE k:=by
 obtain ⟨av,h,hv⟩:=cP h
 split at h
 ·rename_i id row sp;obtain ⟨ti,ht,h⟩:=cN h
  split at h
  ·rename_i fs hk;obtain ⟨x',qY,h⟩:=AL h;have h:=Mb h;obtain ⟨d,hu,hd⟩:=(hT _ _ ht).under;rw [hk] at hd;obtain ⟨fields,rfl,aU,hf⟩:=hd;have ak:f < fields.size:=by rw [aU]; exact (List.getElem?_eq_some_iff.1 qY).1
   have j7:fields[f]?=some fields[f]:=Array.getElem?_eq_getElem ak;obtain ⟨h1,J,⟨i,h3,h4⟩,_⟩:=hf f _ _ j7 qY;refine .value (by simp) h fun o ν a w ho ha hH=>?_
   obtain ⟨l,hl,he⟩:=(hv ν a (ha x (by simp [Op.operands]))).oX
   refine ⟨.pointer (some (l.at row (sp.getD 0+x'.1))),.ptr _ _ (some _) _ hl,?_⟩;have aH:¬ (i.size=0):=by omega
   simp [execOp,ho,Instr.fieldAt,dx hu,j7,he,Instr.sureAddr,fieldPlace,gq h3,aH,h1,Loc.jS]
  ·exact h.elim
 ·exact h.elim
theorem Fm {P:Program} {f:Field} {x:Nat × Nat × Bool} (hf:yw P f x) {cs vs:List Value} (hl:vs.length=x.2.1) (hv:∀ j v,vs[j]?=some v→cs[x.1+j]?=some v) (w:World) :
  (part f.type ⟨cs⟩ f.offset).run P w=.ok (if x.2.2 then .agg ⟨vs⟩ else vs.getD 0 undef) w:=by
 obtain ⟨h1,J,⟨i,h3,h4⟩,d,h5,h6⟩:=hf;unfold part;simp only [Sem.run_bind,Lg h5,Result.andThen_ok,Sem.run_ite,h6]
 split
 ·simp only [Sem.run_bind,gq h3,Result.andThen_ok,h1,h4,← hl,Sem.run_pure]
  congr 2
  apply Array.ext';simp only [Array.toList_extract];apply List.ext_getElem?;intro j;by_cases hj:j < vs.length
  ·have:=hv j vs[j] (List.getElem?_eq_getElem hj);simp [List.extract,List.getElem?_take,List.getElem?_drop,hj,this]
  ·rw [List.getElem?_eq_none (by omega:vs.length≤j)]
   simp [List.extract,List.getElem?_take,hj]
 ·cases vs with
  | nil=>simp at hl; omega
  | cons v l =>
   have:=hv 0 v rfl;simp only [Nat.add_zero] at this;simp [h1,this]
theorem V2 (hT:∀ t ti,tt t=some ti→ay P t ti) {t:TypeId} {x:Operand} {f:Nat} (h:Nz tt tmps t x f k):eO P (.field t x f) tmps H aE k:=by
 obtain ⟨av,h,hv⟩:=cP h
 split at h
 ·rename_i cs;obtain ⟨ti,ht,h⟩:=cN h
  split at h
  ·rename_i fs hk;obtain ⟨x',qY,h⟩:=AL h;obtain ⟨vs,h,hl,fp⟩:=x8 h;have h:=Lk h;obtain ⟨d,hu,hd⟩:=(hT _ _ ht).under;rw [hk] at hd;obtain ⟨fields,rfl,aU,hf⟩:=hd;have ak:f < fields.size:=by rw [aU]; exact (List.getElem?_eq_some_iff.1 qY).1
   have j7:fields[f]?=some fields[f]:=Array.getElem?_eq_getElem ak;have ba:=hf f _ _ j7 qY;refine .value (by simp) h fun o ν a w ho ha hH=>?_
   obtain ⟨ys,he,hy⟩:=aq.ug (xs:=cs.toList) (hv ν a (ha x (by simp [Op.operands])))
   -- the same stretch of the real cells
   have acM:∃ fO,bc ν vs fO∧fO.length=x'.2.1∧∀ j v,fO[j]?=some v→ys[x'.1+j]?=some v:=by
    refine ⟨(ys.drop x'.1).take vs.length,⟨?_,fun j a b ha hb=>?_⟩,?_,fun j v hj=>?_⟩
    ·rw [List.length_take,List.length_drop];have:∀ m,m < vs.length→x'.1+m < cs.toList.length:=fun m hm=>(List.getElem?_eq_some_iff.1 (fp m _ (List.getElem?_eq_getElem hm))).1
     have h0:=hy.1;by_cases zG:vs.length=0
     ·omega
     ·have:=this (vs.length - 1) (by omega); omega
    ·rw [List.getElem?_take,List.getElem?_drop] at hb
     split at hb
     ·exact hy.2 _ a b (fp j a ha) hb
     ·cases hb
    ·rw [List.length_take,List.length_drop,hl];have:∀ m,m < vs.length→x'.1+m < cs.toList.length:=fun m hm=>(List.getElem?_eq_some_iff.1 (fp m _ (List.getElem?_eq_getElem hm))).1
     have h0:=hy.1;have hp:=ba.2.1;have:=this (vs.length - 1) (by omega); omega
    ·rw [List.getElem?_take,List.getElem?_drop] at hj
     split at hj
     ·exact hj
     ·cases hj
   obtain ⟨fO,h1,J,h3⟩:=acM;exact ⟨_,EK h1,by simp [execOp,ho,Instr.field,dx hu,j7,he,asAgg,Fm ba J h3]⟩
  ·exact h.elim
 ·exact h.elim
theorem Tn {x:Operand} {ix:Nat} (h:Fk tmps x ix k):eO P (.extract x ix) tmps H aE k:=by
 obtain ⟨v,h,hv⟩:=cP h
 split at h
 ·rename_i vs;obtain ⟨u,h1,J⟩:=oP h;refine .value (by simp) J fun o ν a w ho ha hH=>?_
  obtain ⟨ys,he,hy⟩:=aq.nT (xs:=vs.toList) (hv ν a (ha x (by simp [Op.operands])))
  obtain ⟨u',h3,h4⟩:=hy.get h1;exact ⟨_,h4,by simp [execOp,ho,he,Instr.extract,h3]⟩
 ·exact h.elim
theorem RU {fn:Fn} {f c:Array Operand} (h:Li tmps fn f.toList c.toList k):eO P (.makeFunc fn f c) tmps H aE k:=by
 obtain ⟨vs,h,h1⟩:=AY h;obtain ⟨us,h,J⟩:=AY h;refine .value (by simp) h fun o ν a w ho ha hH=>?_
 have h1:=h1 ν a (fun x hx=>ha x (by simp [Op.operands]; exact .inl (by simpa using hx)))
 have J:=J ν a (fun x hx=>ha x (by simp [Op.operands]; exact .inr (by simpa using hx)))
 refine ⟨.func fn ⟨f.toList.map a.eval⟩ ⟨c.toList.map a.eval⟩,.func fn _ _ _ _ h1.1 h1.2 J.1 J.2,?_⟩;simp only [execOp,ho,Instr.makeFunc];have e1:f.map a.eval=⟨f.toList.map a.eval⟩:=by apply Array.ext'; simp
 have e2:c.map a.eval=⟨c.toList.map a.eval⟩:=by apply Array.ext'; simp
 rw [e1,e2]; rfl
theorem acN {op:UnOp} {t:TypeId} {x:Operand} (h:Px tmps op x k):eO P (.unOp op t x) tmps H aE k:=by
 obtain ⟨v,h,hv⟩:=cP h
 split at h
 ·refine .value (by simp) h fun o ν a w ho ha hH=>⟨_,.int _ _,?_⟩
  have hv:=(hv ν a (ha x (by simp [Op.operands]))).fK
  simp [execOp,ho,hv,Op.unary,Op.intArith]
 ·refine .value (by simp) h fun o ν a w ho ha hH=>⟨_,.bool _,?_⟩
  have hv:=(hv ν a (ha x (by simp [Op.operands]))).ki
  simp [execOp,ho,hv,Op.unary]
 ·rename_i q m
  split at h
  ·rename_i u hu;have h:=vS h
   split at h
   ·rename_i hs;refine .value (by simp) h fun o ν a w ho ha hH=>⟨_,aq.kR hs,?_⟩
    have hv:=(hv ν a (ha x (by simp [Op.operands]))).fK
    simp [execOp,ho,hv,Op.unary,hu]
   ·exact h.elim
  ·exact h.elim
 ·exact h.elim
end
open Go Go.RowKit
section
variable {P:Program} {tt:TT} {w:World} {ν:Nu} {aE:Nat} {k:QK} {tmps:List Value} {H:aw}
theorem aq.tO {ν:Nu} {id row m c:Nat} {x:Value} (h:aq ν (.slice (some ⟨id,row,none⟩) m c) x) :
  (∃ l c',ν id=some l∧(c'=c∨c=aK)∧m≤c'∧row+c'≤l.cap∧x=.slice (some (l.at row 0)) m c')∨(m=0∧(0=c∨c=aK)∧∃ b,x=.slice (some b) 0 0):=by
 cases h with
 | slice _ _ _ _ c' l h hc hn hr=>exact .inl ⟨l,c',h,hc,hn,hr,rfl⟩
 | void _ _ _ b hc=>exact .inr ⟨rfl,hc,b,rfl⟩
theorem aq.NC {ν:Nu} {id row b0 m c:Nat} {x:Value} (h:aq ν (.slice (some ⟨id,row,some b0⟩) m c) x) :
  (∃ l c',ν id=some l∧b0≤c'∧m≤c'∧row+c'≤l.cap∧x=.slice (some (l.at row 0)) m c')∨(m=0∧b0=0∧∃ b,x=.slice (some b) 0 0):=by
 cases h with
 | l9 _ _ _ _ c' l h hm hn hr=>exact .inl ⟨l,c',h,hm,hn,hr,rfl⟩
 | lf _ _ a=>exact .inr ⟨rfl,rfl,a,rfl⟩
theorem aq.V3 {ν:Nu} {id row b0 m c:Nat} {x:Value} (h:aq ν (.slice (some ⟨id,row,some b0⟩) m c) x) :
  (∃ l c',ν id=some l∧b0≤c'∧m≤c'∧row+c'≤l.cap∧c=aK∧x=.slice (some (l.at row 0)) m c')∨(m=0∧b0=0∧c=aK∧∃ b,x=.slice (some b) 0 0):=by
 cases h with
 | l9 _ _ _ _ c' l h hm hn hr=>exact .inl ⟨l,c',h,hm,hn,hr,rfl,rfl⟩
 | lf _ _ a=>exact .inr ⟨rfl,rfl,rfl,a,rfl⟩
theorem aq.BW {ν:Nu} {id row m c:Nat} {sp:Option Nat} {x:Value} (h:aq ν (.slice (some ⟨id,row,sp⟩) m c) x) :
  (∃ l c',ν id=some l∧m≤c'∧row+c'≤l.cap∧x=.slice (some (l.at row 0)) m c')∨(m=0∧∃ b,x=.slice (some b) 0 0):=by
 cases h with
 | slice _ _ _ _ c' l h hc hn hr=>exact .inl ⟨l,c',h,hn,hr,rfl⟩
 | void _ _ _ b hc=>exact .inr ⟨rfl,b,rfl⟩
 | l9 _ _ _ _ c' l h hm hn hr=>exact .inl ⟨l,c',h,hn,hr,rfl⟩
 | lf _ _ a=>exact .inr ⟨rfl,a,rfl⟩
theorem aq.p7 {ν:Nu} {x:Value} (h:aq ν (.slice none 0 0) x):x=.slice none 0 0:=by cases h; rfl
theorem mu {x:Option Operand} {d:Int} {k:Int→Prop} (h:lT tmps x d k):∃ n,k n∧∀ (ν:Nu) (a:Act),(∀ y∈x.toArray,fc ν tmps a y)→(x=none∧n=d)∨∃ q,x.map a.eval=some (.int q n):=by
 cases x with
 | none=>exact ⟨d,h,fun ν a _=>.inl ⟨rfl,rfl⟩⟩
 | some x =>
  obtain ⟨v,h,hv⟩:=cP h
  split at h
  ·rename_i q n;exact ⟨n,h,fun ν a ha=>.inr ⟨q,by simp [(hv ν a (ha x (by simp))).fK]⟩⟩
  ·exact h.elim
theorem we {q:IntKind} {n:Int} {y:Nat} {code:BoundsCode} (h0:0≤n) (h1:n≤y) (w:World):(Instr.sliceBound (.int q n) y code).run P w=.ok n.toNat w:=by
 simp [Instr.sliceBound,asIntOf,h0,h1]
theorem oO {len cap:Nat} {lo hi mx:Option Value} {l h m:Int} (hl:(lo=none∧l=0)∨∃ q,lo=some (.int q l)) (hh:(hi=none∧h=(len:Int))∨∃ q,hi=some (.int q h))
  (hm:(mx=none∧m=(cap:Int))∨((∃ q,mx=some (.int q m))∧∃ v,hi=some v)) (b0:0≤l) (b1:l≤h) (b2:h≤m) (b3:m≤cap) (gW:Bool) (w:World) :
  (Instr.sliceBounds gW len cap lo hi mx).run P w=.ok (l.toNat,h.toNat,m.toNat) w:=by
 unfold Instr.sliceBounds;rcases hm with ⟨rfl,rfl⟩ | ⟨⟨q,rfl⟩,v,rfl⟩
 ·rcases hh with ⟨rfl,rfl⟩ | ⟨q,rfl⟩
  ·rcases hl with ⟨rfl,rfl⟩ | ⟨q,rfl⟩
   ·simp
   ·simp [we (P:=P) (q:=q) (n:=l) (y:=len) b0 (by omega)]
  ·have e:=we (P:=P) (q:=q) (n:=h) (y:=cap) (code:=if gW then .sliceAcap else .sliceAlen) (by omega) (by omega) w
   rcases hl with ⟨rfl,rfl⟩ | ⟨q',rfl⟩
   ·simp [e]
   ·simp [e,we (P:=P) (q:=q') (n:=l) (y:=h.toNat) b0 (by omega)]
 ·rcases hh with ⟨h',_⟩ | ⟨q',h'⟩
  ·cases h'
  ·cases h';have e0:=we (P:=P) (q:=q) (n:=m) (y:=cap) (code:=if gW then .slice3Acap else .slice3Alen) (by omega) (by omega) w
   have e:=we (P:=P) (q:=q') (n:=h) (y:=m.toNat) (code:=.slice3B) (by omega) (by omega) w
   rcases hl with ⟨rfl,rfl⟩ | ⟨q',rfl⟩
   ·simp [e0,e]
   ·simp [e0,e,we (P:=P) (q:=q') (n:=l) (y:=h.toNat) b0 (by omega)]
theorem JS (hT:∀ t ti,tt t=some ti→ay P t ti) {t:TypeId} {x:Operand} {lo hi mx:Option Operand} (h:Gw tt tmps H t x lo hi mx k):∃ v,k v none∧∀ (bh:Nu) (w0:World),bU bh H w0→qB P bh (.slice t x lo hi mx) tmps v:=by
 obtain ⟨xv,J,hx⟩:=cP h;clear h;obtain ⟨ti,ht,h⟩:=cN J;clear J;obtain ⟨d,hu,hd⟩:=(hT _ _ ht).under;have mem:∀ (o:Option Operand) y,(o=lo∨o=hi∨o=mx)→y∈o.toArray→y∈(Op.slice t x lo hi mx).operands:=by
  intro o y ho hy;simp only [Op.operands,Array.mem_append];rcases ho with rfl | rfl | rfl
  ·exact .inl (.inl (.inr hy))
  ·exact .inl (.inr hy)
  ·exact .inr hy
 have uS:x∈(Op.slice t x lo hi mx).operands:=by simp [Op.operands]
 split at h
 ·rename_i s hk;rw [hk] at hd;have hd:d=.string:=hd;subst hd
  split at h
  ·obtain ⟨l,h,hl⟩:=mu h;obtain ⟨hh,h,jz⟩:=mu h;obtain ⟨⟨b0,b1,b2⟩,h⟩:=h;refine ⟨_,h,fun bh w0 hH=>⟨by simp,fun o ν a w hle ho ha=>⟨_,.str _,?_⟩⟩⟩
   have hx:=(hx ν a (ha x uS)).r9;have e1:=hl ν a (fun y hy=>ha y (mem _ y (.inl rfl) hy))
   have e2:=jz ν a (fun y hy=>ha y (mem _ y (.inr (.inl rfl)) hy))
   have:=oO (P:=P) (len:=s.size) (cap:=s.size) (lo:=lo.map a.eval) (hi:=hi.map a.eval) (mx:=none) (l:=l) (h:=hh) (m:=s.size) (e1.imp (fun ⟨p,q⟩=>⟨by rw [p]; rfl,q⟩) (fun x=>x)) (e2.imp (fun ⟨p,q⟩=>⟨by rw [p]; rfl,q⟩) (fun x=>x)) (.inl ⟨rfl,rfl⟩) b0 b1 b2 (Int.le_refl _) false w
   simp [execOp,ho,Instr.sliceAt,dx hu,Instr.slice,hx,this]
  ·exact h.elim
 ·rename_i e id row n c hk;rw [hk] at hd;have hd:d=.slice e:=hd;subst hd;obtain ⟨te,he,J⟩:=cN h;clear h;obtain ⟨b,hb,h⟩:=gB J;clear J;obtain ⟨ei,fu,jb,_⟩:=(hT _ _ he).info
  split at h
  ·rename_i hq;have hq:b.ae=te.size:=Nat.eq_of_beq_eq_true hq
   -- what both forms come to
   have fin:∀ (o:Oper) (ν:Nu) (a:Act) (w:World) (l hh m:Int) (c1:Nat),o.op=.slice t x lo hi mx→(∀ x'∈(Op.slice t x lo hi mx).operands,fc ν tmps a x')→∀ (bh:Nu) (w0:World),bU bh H w0→bh.le ν →
     (∀ (lv hv:Nat) (c':Nat),n≤c'→(c'=c∨c=aK)→∃ mm:Int,(Instr.sliceBounds true n c' (lo.map a.eval) (hi.map a.eval) (mx.map a.eval)).run P w=.ok (l.toNat,hh.toNat,mm.toNat) w∧hh.toNat≤mm.toNat∧mm.toNat≤c'∧(mm.toNat - l.toNat=c1∨c1=aK)) →
     0≤l→l≤hh→hh≤n →
     ∃ v',aq ν (.slice (some ⟨id,eX row l.toNat,none⟩) (hh.toNat - l.toNat) c1) v'∧(execOp a.eval o).run P w=.ok (.value v') w:=by
    intro o ν a w l hh m c1 ho ha bh w0 hH hle Py b0 b1 b2;obtain ⟨l0,eG,hB⟩:=hH.aG id b hb;have eG:=hle _ _ eG;rcases (hx ν a (ha x uS)).tO with ⟨lc,c',dD,hc,hn,hr,cj⟩ | ⟨hn,hc,bb,cj⟩
    ·rw [eG] at dD; cases dD;obtain ⟨mm,bB,m1,m2,m3⟩:=Py 0 0 c' hn hc;by_cases hz:mm.toNat=l.toNat
     ·have e0:hh.toNat - l.toNat=0:=by omega
      refine ⟨.slice (some (l0.at row 0)) 0 0,?_,?_⟩
      ·rw [e0]; exact .void _ _ _ _ (m3.imp (fun h=>by omega) (fun h=>h))
      ·simp [execOp,ho,Instr.sliceAt,dx hu,Instr.slice,cj,bB,gq fu,hz,e0]
     ·refine ⟨.slice (some (l0.at (row+l.toNat) 0)) (hh.toNat - l.toNat) (mm.toNat - l.toNat),?_,?_⟩
      ·rw [ax]; exact .slice _ _ _ _ _ l0 eG m3 (by omega) (by omega)
      ·have lg:(l0.at row 0).add (l.toNat*ei.size)=l0.at (row+l.toNat) 0:=by
        rw [Loc.jS];unfold Loc.at
        congr 1
        rw [jb,← hq,← hB.ae,Nat.add_mul]; omega
       simp [execOp,ho,Instr.sliceAt,dx hu,Instr.slice,cj,bB,gq fu,hz,lg]
    ·obtain ⟨mm,bB,m1,m2,m3⟩:=Py 0 0 0 (by omega) (hc.imp (fun h=>h) (fun h=>h))
     have e0:hh.toNat - l.toNat=0:=by omega
     have e1:mm.toNat - l.toNat=0:=by omega
     have e2:l.toNat=0:=by omega
     have e3:mm.toNat=0:=by omega
     have e4:hh.toNat=0:=by omega
     refine ⟨.slice (some bb) 0 0,?_,?_⟩
     ·rw [e0]; exact .void _ _ _ _ (m3.imp (fun h=>by omega) (fun h=>h))
     ·rw [e2,e3,e4] at bB;subst hn;simp [execOp,ho,Instr.sliceAt,dx hu,Instr.slice,cj,bB,gq fu]
   split at h
   ·obtain ⟨l,h,hl⟩:=mu h;obtain ⟨hh,h,jz⟩:=mu h;obtain ⟨⟨b0,b1,b2⟩,h⟩:=h;refine ⟨_,h,fun bh w0 hH=>⟨by simp,fun o ν a w hle ho ha=>fin o ν a w l hh 0 _ ho ha bh w0 hH hle (fun _ _ c' hn hc=>⟨c',?_,by omega,by omega,?_⟩) b0 b1 b2⟩⟩
    ·have e1:=hl ν a (fun y hy=>ha y (mem _ y (.inl rfl) hy))
     have e2:=jz ν a (fun y hy=>ha y (mem _ y (.inr (.inl rfl)) hy))
     exact oO (P:=P) (e1.imp (fun ⟨p,q⟩=>⟨by rw [p]; rfl,q⟩) (fun x=>x)) (e2.imp (fun ⟨p,q⟩=>⟨by rw [p]; rfl,q⟩) (fun x=>x)) (.inl ⟨rfl,rfl⟩) b0 b1 (by omega) (Int.le_refl _) true w
    ·unfold ui;by_cases fG:c=aK
     ·right; simp [fG]
     ·left
      have:c'=c:=hc.resolve_right fG;simp [fG,this]
   ·rename_i h0 m0;obtain ⟨l,J,hl⟩:=mu h;clear h;obtain ⟨hv,h,jz⟩:=cP J;clear J;obtain ⟨mv,J,hm⟩:=cP h;clear h;have h:=J;clear J
    split at h
    ·rename_i q1 hh q2 m;obtain ⟨⟨b0,b1,b2,b3⟩,h⟩:=h;refine ⟨_,h,fun bh w0 hH=>⟨by simp,fun o ν a w hle ho ha=>fin o ν a w l hh m _ ho ha bh w0 hH hle (fun _ _ c' hn hc=>⟨m,?_,by omega,by omega,.inl rfl⟩) b0 b1 (by omega)⟩⟩
     have e1:=hl ν a (fun y hy=>ha y (mem _ y (.inl rfl) hy))
     have e2:=(jz ν a (ha h0 (mem _ h0 (.inr (.inl rfl)) (by simp)))).fK
     have e3:=(hm ν a (ha m0 (mem _ m0 (.inr (.inr rfl)) (by simp)))).fK
     exact oO (P:=P) (e1.imp (fun ⟨p,q⟩=>⟨by rw [p]; rfl,q⟩) (fun x=>x)) (.inr ⟨q1,by simp [e2]⟩)
      (.inr ⟨⟨q2,by simp [e3]⟩,_,rfl⟩) b0 b1 (by omega) (by omega) true w
    ·exact h.elim
   ·exact h.elim
  ·exact h.elim
 ·rename_i e id row b0 n c hk;rw [hk] at hd;have hd:d=.slice e:=hd;subst hd;obtain ⟨te,he,J⟩:=cN h;clear h;obtain ⟨b,hb,h⟩:=gB J;clear J;obtain ⟨ei,fu,jb,_⟩:=(hT _ _ he).info
  split at h
  ·rename_i hq;have hq:b.ae=te.size:=Nat.eq_of_beq_eq_true hq
   split at h
   ·obtain ⟨l,h,hl⟩:=mu h;obtain ⟨hh,h,jz⟩:=mu h;obtain ⟨⟨k0,k1,k2⟩,h⟩:=h;refine ⟨_,h,fun bh w0 hH=>⟨by simp,fun o ν a w hle ho ha=>?_⟩⟩
    obtain ⟨l0,eG,hB⟩:=hH.aG id b hb;have eG:=hle _ _ eG;have e1:=hl ν a (fun y hy=>ha y (mem _ y (.inl rfl) hy))
    have e2:=jz ν a (fun y hy=>ha y (mem _ y (.inr (.inl rfl)) hy))
    rcases (hx ν a (ha x uS)).NC with ⟨lc,c',dD,pH,hn,hr,cj⟩ | ⟨hn,jc,bb,cj⟩
    ·rw [eG] at dD; cases dD;have bB:=oO (P:=P) (len:=n) (cap:=c') (lo:=lo.map a.eval) (hi:=hi.map a.eval) (mx:=none) (l:=l) (h:=hh) (m:=c') (e1.imp (fun ⟨p,q⟩=>⟨by rw [p]; rfl,q⟩) (fun x=>x)) (e2.imp (fun ⟨p,q⟩=>⟨by rw [p]; rfl,q⟩) (fun x=>x)) (.inl ⟨rfl,rfl⟩) k0 k1 (by omega) (Int.le_refl _) true w
     rw [Int.toNat_natCast] at bB;by_cases hz:c'=l.toNat
     ·have e0:hh.toNat - l.toNat=0:=by omega
      have e3:b0 - l.toNat=0:=by omega
      refine ⟨.slice (some (l0.at row 0)) 0 0,?_,?_⟩
      ·rw [e0,e3]; exact .lf _ _ _
      ·simp [execOp,ho,Instr.sliceAt,dx hu,Instr.slice,cj,bB,gq fu,hz.symm,← hz]
       first | done | omega
     ·refine ⟨.slice (some (l0.at (row+l.toNat) 0)) (hh.toNat - l.toNat) (c' - l.toNat),?_,?_⟩
      ·rw [ax]; exact .l9 _ _ _ _ _ l0 eG (by omega) (by omega) (by omega)
      ·have lg:(l0.at row 0).add (l.toNat*ei.size)=l0.at (row+l.toNat) 0:=by
        rw [Loc.jS];unfold Loc.at
        congr 1
        rw [jb,← hq,← hB.ae,Nat.add_mul]; omega
       simp [execOp,ho,Instr.sliceAt,dx hu,Instr.slice,cj,bB,gq fu,hz,lg]
    ·have bB:=oO (P:=P) (len:=n) (cap:=0) (lo:=lo.map a.eval) (hi:=hi.map a.eval) (mx:=none) (l:=l) (h:=hh) (m:=(0:Nat)) (e1.imp (fun ⟨p,q⟩=>⟨by rw [p]; rfl,q⟩) (fun x=>x)) (e2.imp (fun ⟨p,q⟩=>⟨by rw [p]; rfl,q⟩) (fun x=>x)) (.inl ⟨rfl,rfl⟩) k0 k1 (by omega) (Int.le_refl _) true w
     have e2:l.toNat=0:=by omega
     have e4:hh.toNat=0:=by omega
     refine ⟨.slice (some bb) 0 0,?_,?_⟩
     ·rw [e4,e2,jc]; exact .lf _ _ _
     ·rw [e2,e4] at bB;subst hn;simp [execOp,ho,Instr.sliceAt,dx hu,Instr.slice,cj,bB,gq fu]
   ·rename_i h0 m0;obtain ⟨l,J,hl⟩:=mu h;clear h;obtain ⟨hv,h,jz⟩:=cP J;clear J;obtain ⟨mv,J,hm⟩:=cP h;clear h;have h:=J;clear J
    split at h
    ·rename_i q1 hh q2 m;obtain ⟨⟨k0,k1,k2,k3⟩,h⟩:=h;refine ⟨_,h,fun bh w0 hH=>⟨by simp,fun o ν a w hle ho ha=>?_⟩⟩
     obtain ⟨l0,eG,hB⟩:=hH.aG id b hb;have eG:=hle _ _ eG;have e1:=hl ν a (fun y hy=>ha y (mem _ y (.inl rfl) hy))
     have e2:=(jz ν a (ha h0 (mem _ h0 (.inr (.inl rfl)) (by simp)))).fK
     have e3:=(hm ν a (ha m0 (mem _ m0 (.inr (.inr rfl)) (by simp)))).fK
     rcases (hx ν a (ha x uS)).NC with ⟨lc,c',dD,pH,hn,hr,cj⟩ | ⟨hn,jc,bb,cj⟩
     ·rw [eG] at dD; cases dD;have bB:=oO (P:=P) (len:=n) (cap:=c') (lo:=lo.map a.eval) (hi:=some (a.eval h0)) (mx:=some (a.eval m0)) (l:=l) (h:=hh) (m:=m) (e1.imp (fun ⟨p,q⟩=>⟨by rw [p]; rfl,q⟩) (fun x=>x)) (.inr ⟨q1,by rw [e2]⟩) (.inr ⟨⟨q2,by rw [e3]⟩,_,rfl⟩) k0 k1 (by omega) (by omega) true w
      by_cases hz:m.toNat=l.toNat
      ·have e0:hh.toNat - l.toNat=0:=by omega
       have e4:m.toNat - l.toNat=0:=by omega
       refine ⟨.slice (some (l0.at row 0)) 0 0,?_,?_⟩
       ·rw [e0,e4]; exact .void _ _ _ _ (.inl rfl)
       ·simp [execOp,ho,Instr.sliceAt,dx hu,Instr.slice,cj,bB,gq fu,hz,e0]
      ·refine ⟨.slice (some (l0.at (row+l.toNat) 0)) (hh.toNat - l.toNat) (m.toNat - l.toNat),?_,?_⟩
       ·rw [ax]; exact .slice _ _ _ _ _ l0 eG (.inl rfl) (by omega) (by omega)
       ·have lg:(l0.at row 0).add (l.toNat*ei.size)=l0.at (row+l.toNat) 0:=by
         rw [Loc.jS];unfold Loc.at
         congr 1
         rw [jb,← hq,← hB.ae,Nat.add_mul]; omega
        simp [execOp,ho,Instr.sliceAt,dx hu,Instr.slice,cj,bB,gq fu,hz,lg]
     ·have bB:=oO (P:=P) (len:=n) (cap:=0) (lo:=lo.map a.eval) (hi:=some (a.eval h0)) (mx:=some (a.eval m0)) (l:=l) (h:=hh) (m:=m) (e1.imp (fun ⟨p,q⟩=>⟨by rw [p]; rfl,q⟩) (fun x=>x)) (.inr ⟨q1,by rw [e2]⟩) (.inr ⟨⟨q2,by rw [e3]⟩,_,rfl⟩) k0 k1 (by omega) (by omega) true w
      have e5:l.toNat=0:=by omega
      have e6:hh.toNat=0:=by omega
      have e7:m.toNat=0:=by omega
      refine ⟨.slice (some bb) 0 0,?_,?_⟩
      ·rw [e5,e6,e7]; exact .void _ _ _ _ (.inl rfl)
      ·rw [e5,e6,e7] at bB;subst hn;simp [execOp,ho,Instr.sliceAt,dx hu,Instr.slice,cj,bB,gq fu]
    ·exact h.elim
   ·exact h.elim
  ·exact h.elim
 ·rename_i n e id row hk;rw [hk] at hd;have hd:d=.array n e:=hd;subst hd;obtain ⟨te,he,J⟩:=cN h;clear h;obtain ⟨b,hb,h⟩:=gB J;clear J;obtain ⟨ei,fu,jb,_⟩:=(hT _ _ he).info
  split at h
  ·rename_i hq;have hq:b.ae=te.size:=Nat.eq_of_beq_eq_true hq
   split at h
   ·obtain ⟨l,h,hl⟩:=mu h;obtain ⟨hh,h,jz⟩:=mu h;obtain ⟨⟨b0,b1,b2,b3,b4⟩,h⟩:=h;refine ⟨_,h,fun bh w0 hH=>⟨by simp,fun o ν a w hle ho ha=>?_⟩⟩
    obtain ⟨l0,eG,hB⟩:=hH.aG id b hb;have eG:=hle _ _ eG;obtain ⟨lp,Pz,cj⟩:=(hx ν a (ha x uS)).oX;rw [eG] at Pz; cases Pz;have cj:a.eval x=.pointer (some (l0.at row 0)):=cj;obtain ⟨_,_,_,_,fM⟩:=hB.own (ah.cU b4).1 (ah.cU b4).2;have e1:=hl ν a (fun y hy=>ha y (mem _ y (.inl rfl) hy))
    have e2:=jz ν a (fun y hy=>ha y (mem _ y (.inr (.inl rfl)) hy))
    have bB:=oO (P:=P) (len:=n) (cap:=n) (lo:=lo.map a.eval) (hi:=hi.map a.eval) (mx:=none) (l:=l) (h:=hh) (m:=n) (e1.imp (fun ⟨p,q⟩=>⟨by rw [p]; rfl,q⟩) (fun x=>x)) (e2.imp (fun ⟨p,q⟩=>⟨by rw [p]; rfl,q⟩) (fun x=>x)) (.inl ⟨rfl,rfl⟩) b0 b1 b2 (Int.le_refl _) false w
    rw [Int.toNat_natCast] at bB;by_cases hz:n=l.toNat
    ·have e0:hh.toNat - l.toNat=0:=by omega
     have e3:n - l.toNat=0:=by omega
     refine ⟨.slice (some (l0.at row 0)) 0 0,?_,?_⟩
     ·rw [e0,e3]; exact .void _ _ _ _ (.inl rfl)
     ·simp [execOp,ho,Instr.sliceAt,dx hu,Instr.sureAddr,cj,bB,gq fu,hz.symm,← hz,e0]
      first | done | omega
    ·refine ⟨.slice (some (l0.at (row+l.toNat) 0)) (hh.toNat - l.toNat) (n - l.toNat),?_,?_⟩
     ·rw [ax]; exact .slice _ _ _ _ _ l0 eG (.inl rfl) (by omega) (by omega)
     ·have lg:(l0.at row 0).add (l.toNat*ei.size)=l0.at (row+l.toNat) 0:=by
       rw [Loc.jS];unfold Loc.at
       congr 1
       rw [jb,← hq,← hB.ae,Nat.add_mul]; omega
      simp [execOp,ho,Instr.sliceAt,dx hu,Instr.sureAddr,cj,bB,gq fu,hz,lg]
   ·exact h.elim
  ·exact h.elim
 ·rename_i e hk;rw [hk] at hd;have hd:d=.slice e:=hd;subst hd;obtain ⟨te,he,J⟩:=cN h;clear h;obtain ⟨ei,fu,jb,_⟩:=(hT _ _ he).info
  split at J
  ·obtain ⟨l,h,hl⟩:=mu J;obtain ⟨hh,h,jz⟩:=mu h;obtain ⟨⟨b0,b1,b2⟩,h⟩:=h;refine ⟨_,h,fun bh w0 hH=>⟨by simp,fun o ν a w hle ho ha=>⟨_,.ju,?_⟩⟩⟩
   have hx:=(hx ν a (ha x uS)).p7;have e1:=hl ν a (fun y hy=>ha y (mem _ y (.inl rfl) hy))
   have e2:=jz ν a (fun y hy=>ha y (mem _ y (.inr (.inl rfl)) hy))
   have:=oO (P:=P) (len:=0) (cap:=0) (lo:=lo.map a.eval) (hi:=hi.map a.eval) (mx:=none) (l:=l) (h:=hh) (m:=0) (e1.imp (fun ⟨p,q⟩=>⟨by rw [p]; rfl,q⟩) (fun x=>x)) (e2.imp (fun ⟨p,q⟩=>⟨by rw [p]; rfl,q⟩) (fun x=>x)) (.inl ⟨rfl,rfl⟩) b0 b1 b2 (by omega) true w
   rw [show l.toNat=0 by omega,show hh.toNat=0 by omega] at this
   simp [execOp,ho,Instr.sliceAt,dx hu,Instr.slice,hx,this,gq fu]
  ·rename_i h0 m0;obtain ⟨l,h,hl⟩:=mu J;clear J;obtain ⟨hv,J,jz⟩:=cP h;clear h;obtain ⟨mv,h,hm⟩:=cP J;clear J
   split at h
   ·rename_i q1 hh q2 m;obtain ⟨⟨b0,b1,b2,b3⟩,h⟩:=h;refine ⟨_,h,fun bh w0 hH=>⟨by simp,fun o ν a w hle ho ha=>⟨_,.ju,?_⟩⟩⟩
    have hx:=(hx ν a (ha x uS)).p7;have e1:=hl ν a (fun y hy=>ha y (mem _ y (.inl rfl) hy))
    have e2:=(jz ν a (ha h0 (mem _ h0 (.inr (.inl rfl)) (by simp)))).fK
    have e3:=(hm ν a (ha m0 (mem _ m0 (.inr (.inr rfl)) (by simp)))).fK
    have:=oO (P:=P) (len:=0) (cap:=0) (lo:=lo.map a.eval) (hi:=some (a.eval h0)) (mx:=some (a.eval m0)) (l:=l) (h:=hh) (m:=m) (e1.imp (fun ⟨p,q⟩=>⟨by rw [p]; rfl,q⟩) (fun x=>x)) (.inr ⟨q1,by rw [e2]⟩)
     (.inr ⟨⟨q2,by rw [e3]⟩,_,rfl⟩) b0 b1 b2 (by omega) true w
    rw [show l.toNat=0 by omega,show hh.toNat=0 by omega,show m.toNat=0 by omega] at this
    simp [execOp,ho,Instr.sliceAt,dx hu,Instr.slice,hx,this,gq fu]
   ·exact h.elim
  ·exact J.elim
 ·exact h.elim
theorem V4 (hT:∀ t ti,tt t=some ti→ay P t ti) {t:TypeId} {x:Operand} {lo hi mx:Option Operand} (h:Gw tt tmps H t x lo hi mx k):eO P (.slice t x lo hi mx) tmps H aE k:=by
 obtain ⟨v,hk,hp⟩:=JS hT h;exact .value (by simp) hk fun o ν a w ho ha hH=>(hp ν w hH).2 o ν a w ν.le_refl ho ha
end
open Go Go.RowKit
section
variable {P:Program} {tt:TT} {Φ:yT} {o:Oper} {a:Act} {w:World} {ν:Nu} {aE:Nat} {k:QK} {tmps:List Value} {H:aw}
theorem aq.aa7 {ν:Nu} {b:Option Addr} {m c:Nat} {z:Value} (h:aq ν (.slice b m c) z):∃ b' c',z=.slice b' m c':=by cases h <;> exact ⟨_,_,rfl⟩
theorem aq.rW {ν:Nu} {fn:Fn} {x y:Array Value} {z:Value} (h:aq ν (.func fn x y) z):∃ ys c7,z=.func fn ⟨ys⟩ ⟨c7⟩∧bc ν x.toList ys∧bc ν y.toList c7:=by
 cases h with | func _ xs ys nD c7 h1 J h3 h4=>exact ⟨ys,c7,rfl,⟨h1,J⟩,⟨h3,h4⟩⟩
theorem JT (hT:∀ t ti,tt t=some ti→ay P t ti) {t:TypeId} {x ix:Operand} (h:Er tt tmps H t x ix k):sK P (.indexAddr t x ix) tmps H k:=by
 obtain ⟨xv,J,hx⟩:=cP h;clear h;obtain ⟨iv,h,hi⟩:=cP J;clear J
 split at h
 ·rename_i q i;obtain ⟨ti,ht,J⟩:=cN h;clear h;have h:=J;clear J;obtain ⟨d,hu,hd⟩:=(hT _ _ ht).under
  split at h
  ·rename_i e hk;rw [hk] at hd;have hd:d=.slice e:=hd;subst hd
   split at h
   ·rename_i id row m c;obtain ⟨te,he,h⟩:=cN h;obtain ⟨b,hb,h⟩:=gB h;obtain ⟨⟨h0,h1⟩,h⟩:=h
    split at h
    ·rename_i hq;have hq:b.ae=te.size:=Nat.eq_of_beq_eq_true hq;obtain ⟨ei,fu,jb,_⟩:=(hT _ _ he).info;rw [ax] at h;refine .value (by simp) h fun o ν a w ho ha hH=>?_
     have hi:=(hi ν a (ha ix (by simp [Op.operands]))).fK
     obtain ⟨l0,eG,hB⟩:=hH.aG id b hb;rcases (hx ν a (ha x (by simp [Op.operands]))).tO with ⟨l,c',hl,hc,hm,hr,cj⟩ | ⟨hm,_⟩
     ·rw [eG] at hl; cases hl;refine ⟨.pointer (some (l0.at (row+i.toNat) 0)),.ptr _ _ none _ eG,?_⟩;have ak:i < (m:Int):=h1;have lg:(l0.at row 0).add (i.toNat*ei.size)=l0.at (row+i.toNat) 0:=by
       rw [Loc.jS];unfold Loc.at
       congr 1
       rw [jb,← hq,← hB.ae,Nat.add_mul]; omega
      simp [execOp,ho,Instr.indexAt,hi,asIntOf,dx hu,cj,h0,ak,gq fu,lg]
     ·omega
    ·exact h.elim
   ·exact h.elim
  ·rename_i m e hk;rw [hk] at hd;have hd:d=.array m e:=hd;subst hd
   split at h
   ·rename_i id row;obtain ⟨te,he,h⟩:=cN h;obtain ⟨b,hb,h⟩:=gB h;obtain ⟨⟨h0,h1⟩,h⟩:=h;obtain ⟨ei,fu,jb,_⟩:=(hT _ _ he).info
    split at h
    ·rename_i hq;have hq:b.ae=te.size:=Nat.eq_of_beq_eq_true hq;rw [ax] at h;refine .value (by simp) h fun o ν a w ho ha hH=>?_
     have hi:=(hi ν a (ha ix (by simp [Op.operands]))).fK
     obtain ⟨l0,eG,hB⟩:=hH.aG id b hb;obtain ⟨l,hl,cj⟩:=(hx ν a (ha x (by simp [Op.operands]))).oX
     rw [eG] at hl; cases hl;refine ⟨.pointer (some (l0.at (row+i.toNat) 0)),.ptr _ _ none _ eG,?_⟩;have lg:(l0.at row 0).add (i.toNat*ei.size)=l0.at (row+i.toNat) 0:=by
      rw [Loc.jS];unfold Loc.at
      congr 1
      rw [jb,← hq,← hB.ae,Nat.add_mul]; omega
     have cj:a.eval x=.pointer (some (l0.at row 0)):=cj;simp [execOp,ho,Instr.indexAt,hi,asIntOf,dx hu,cj,Instr.sureAddr,h0,h1,gq fu,lg]
    ·refine .value (by simp) h fun o ν a w ho ha hH=>?_
     have hi:=(hi ν a (ha ix (by simp [Op.operands]))).fK
     obtain ⟨l,hl,cj⟩:=(hx ν a (ha x (by simp [Op.operands]))).oX
     have cj:a.eval x=.pointer (some (l.at row 0)):=cj;refine ⟨.pointer (some (l.at row (0+i.toNat*te.size))),.ptr _ _ (some _) _ hl,?_⟩;simp [execOp,ho,Instr.indexAt,hi,asIntOf,dx hu,cj,Instr.sureAddr,h0,h1,gq fu,Loc.jS,jb]
   ·rename_i id row c;obtain ⟨te,he,h⟩:=cN h;obtain ⟨⟨h0,h1⟩,h⟩:=h;obtain ⟨ei,fu,jb,_⟩:=(hT _ _ he).info;refine .value (by simp) h fun o ν a w ho ha hH=>?_
    have hi:=(hi ν a (ha ix (by simp [Op.operands]))).fK
    obtain ⟨l,hl,cj⟩:=(hx ν a (ha x (by simp [Op.operands]))).oX
    have cj:a.eval x=.pointer (some (l.at row c)):=cj;refine ⟨.pointer (some (l.at row (c+i.toNat*te.size))),.ptr _ _ (some _) _ hl,?_⟩;simp [execOp,ho,Instr.indexAt,hi,asIntOf,dx hu,cj,Instr.sureAddr,h0,h1,gq fu,Loc.jS,jb]
   ·exact h.elim
  ·exact h.elim
 ·exact h.elim
theorem Rt (hT:∀ t ti,tt t=some ti→ay P t ti) {t:TypeId} {x ix:Operand} (h:Er tt tmps H t x ix k):eO P (.indexAddr t x ix) tmps H aE k:=(JT hT h).ok
theorem RW (s:ByteArray) (i:Nat) (h:i < s.size):s[i]?=some (s[i]'h)∧((s[i]'h).toNat=bX s i):=by
 refine ⟨by simp [h],?_⟩
 unfold bX;rw [List.getD_eq_getElem?_getD,Array.getElem?_toList];have:s.data[i]?=some (s[i]'h):=by rw [Array.getElem?_eq_getElem (by simpa using h)]; rfl
 rw [this]; rfl
theorem V5 (hT:∀ t ti,tt t=some ti→ay P t ti) {t:TypeId} {x ix:Operand} (h:NA tt tmps t x ix k):eO P (.index t x ix) tmps H aE k:=by
 obtain ⟨xv,J,hx⟩:=cP h;clear h;obtain ⟨iv,h,hi⟩:=cP J;clear J
 split at h
 ·rename_i q i;obtain ⟨ti,ht,J⟩:=cN h;clear h;have h:=J;clear J;obtain ⟨d,hu,hd⟩:=(hT _ _ ht).under
  split at h
  ·rename_i hk;rw [hk] at hd;have hd:d=.string:=hd;subst hd
   split at h
   ·rename_i s;obtain ⟨⟨h0,h1⟩,h⟩:=h;have ak:i.toNat < s.size:=by omega
    obtain ⟨J,h3⟩:=RW s i.toNat ak;refine .value (by simp) h fun o ν a w ho ha hH=>⟨_,.int _ _,?_⟩
    have hi:=(hi ν a (ha ix (by simp [Op.operands]))).fK
    have hx:=(hx ν a (ha x (by simp [Op.operands]))).r9
    simp [execOp,ho,Instr.index,hi,asIntOf,dx hu,hx,h0,J,h3]
   ·exact h.elim
  ·exact h.elim
 ·exact h.elim
def BX (op:BinOp) (q:IntKind) (a b:Int):Sem Value :=
 match op with
 | .add | .sub | .mul=>Op.intArith op q a b
 | .quo | .rem=>Op.intDiv op q a b
 | .and | .or | .xor | .andNot=>Op.intBits op q a b
 | _=>Op.intCmp op a b
theorem To (op:BinOp) (t:TypeId) (q:IntKind) (a b:Int) (h1:op≠.shl) (J:op≠.shr):binOp op t (.int q a) (.int q b)=BX op q a b:=by
 cases op <;> first | exact absurd rfl h1 | exact absurd rfl J | (cases q <;> rfl)
theorem binOp_shl (t:TypeId) (q q':IntKind) (a b:Int):binOp .shl t (.int q a) (.int q' b)=Op.shift .shl q a q' b:=rfl
theorem binOp_shr (t:TypeId) (q q':IntKind) (a b:Int):binOp .shr t (.int q a) (.int q' b)=Op.shift .shr q a q' b:=rfl
theorem Tp (op:BinOp) (t:TypeId) (x y:Operand) (q q':IntKind) (a b:Int) (w:World):(eqGuard op t x y (.int q a) (.int q' b)).run P w=.ok () w:=by cases op <;> rfl
theorem Tq (op:BinOp) (t:TypeId) (x y:Operand) (a b:ByteArray) (w:World):(eqGuard op t x y (.string a) (.string b)).run P w=.ok () w:=by cases op <;> rfl
theorem RX (op:BinOp) (t:TypeId) (x y:Operand) (a b:Bool) (w:World):(eqGuard op t x y (.bool a) (.bool b)).run P w=.ok () w:=by cases op <;> rfl
theorem yx {op:BinOp} {t ty:TypeId} {x y:Operand} (ho:o.op=.binOp op t x y ty) {u v z:Value} (hx:a.eval x=u) (hy:a.eval y=v) (hg:(eqGuard op t x y u v).run P w=.ok () w)
  (hb:(binOp op t u v).run P w=.ok z w):(execOp a.eval o).run P w=.ok (.value z) w:=by
 simp only [execOp,ho,hx,hy,Sem.run_bind,hg,hb,Result.andThen_ok,Sem.run_pure]
theorem BY {op:BinOp} {t:TypeId} {q:IntKind} {x y:Int} (h:Oa op q x y k):∃ z,k z none∧cG z=true∧∀ w,(BX op q x y).run P w=.ok z w:=by
 cases op <;> first | exact h.elim | skip
 case and=>exact ⟨.int q (q.wrap (BitVec.ofInt q.bits x &&& BitVec.ofInt q.bits y).toNat),h,rfl,fun w=>rfl⟩
 case or=>exact ⟨.int q (q.wrap (BitVec.ofInt q.bits x ||| BitVec.ofInt q.bits y).toNat),h,rfl,fun w=>rfl⟩
 case xor=>exact ⟨.int q (q.wrap (BitVec.ofInt q.bits x ^^^ BitVec.ofInt q.bits y).toNat),h,rfl,fun w=>rfl⟩
 case andNot=>exact ⟨.int q (q.wrap (BitVec.ofInt q.bits x &&& ~~~(BitVec.ofInt q.bits y)).toNat),h,rfl,fun w=>rfl⟩
theorem Uw {op:BinOp} {t:TypeId} {q q':IntKind} {x y:Int} (h:BE op q q' x y k):∃ z,k z none∧cG z=true∧∀ w,(binOp op t (.int q x) (.int q' y)).run P w=.ok z w:=by
 by_cases qZ:op=.shl
 ·subst qZ;obtain ⟨h0,h⟩:=A4 h;exact ⟨_,h,rfl,fun w=>by rw [binOp_shl]; simp [Op.shift,show ¬ y < 0 by omega]⟩
 by_cases Da:op=.shr
 ·subst Da;obtain ⟨h0,h⟩:=A4 h;exact ⟨_,h,rfl,fun w=>by rw [binOp_shr]; simp [Op.shift,show ¬ y < 0 by omega]⟩
 by_cases hq:q=q'
 ·subst hq;have e:=To op t q x y qZ Da;rw [e];have hd:decide (q=q)=true:=by simp
  cases op <;> first | exact absurd rfl qZ | exact absurd rfl Da | skip
  all_goals (unfold BE at h; rw [hd] at h; dsimp only at h)
  case quo=>obtain ⟨h0,h⟩:=A4 h; exact ⟨_,h,rfl,fun w=>by simp [BX,Op.intDiv,h0]⟩
  case rem=>obtain ⟨h0,h⟩:=A4 h; exact ⟨_,h,rfl,fun w=>by simp [BX,Op.intDiv,h0]⟩
  case and=>exact BY (t:=t) h
  case or=>exact BY (t:=t) h
  case xor=>exact BY (t:=t) h
  case andNot=>exact BY (t:=t) h
  all_goals exact ⟨_,h,rfl,fun w=>rfl⟩
 ·have hd:decide (q=q')=false:=by simp [hq]
  cases op <;> first | exact absurd rfl qZ | exact absurd rfl Da | (unfold BE at h; rw [hd] at h; exact h.elim)
theorem Ux {op:BinOp} {t:TypeId} {x y:ByteArray} (h:MT op x y k):∃ z,k z none∧cG z=true∧∀ w,(binOp op t (.string x) (.string y)).run P w=.ok z w:=by
 cases op <;> first | exact h.elim | exact ⟨_,h,rfl,fun w=>rfl⟩ | skip
 obtain ⟨h0,h⟩:=h;refine ⟨_,h,rfl,fun w=>?_⟩
 have:¬ (((x.size+y.size:Nat):Int) > IntKind.i64.max):=by
  have:IntKind.i64.max=9223372036854775807:=by decide
  rw [this]; omega
 show (Op.stringOp .add x y).run P w=_
 unfold Op.stringOp
 dsimp only
 rw [if_neg this]
 rfl
theorem rX {t:TypeId} {x y:Value} {b:Bool} (hs:∀ q a,x≠.int q a) (ao:∀ s,x≠.string s) (hf:∀ q a,x≠.float q a) (hc:∀ q a b,x≠.complex q a b) (hp:∀ a,x≠.pointer a)
  (h:(Op.equal t x y).run P w=.ok b w):(binOp .eql t x y).run P w=.ok (.bool b) w∧(binOp .neq t x y).run P w=.ok (.bool !b) w:=by
 have e1:binOp .eql t x y=(do pure (.bool (← Op.equal t x y)):Sem Value):=by
  cases x <;> first | exact absurd rfl (hs _ _) | exact absurd rfl (ao _) | exact absurd rfl (hf _ _) | exact absurd rfl (hc _ _ _) | exact absurd rfl (hp _) | rfl
 have e2:binOp .neq t x y=(do pure (.bool (!(← Op.equal t x y))):Sem Value):=by
  cases x <;> first | exact absurd rfl (hs _ _) | exact absurd rfl (ao _) | exact absurd rfl (hf _ _) | exact absurd rfl (hc _ _ _) | exact absurd rfl (hp _) | rfl
 rw [e1,e2];simp only [Sem.run_bind,h,Result.andThen_ok];exact ⟨rfl,rfl⟩
theorem run_equal_bool {t:TypeId} (hu:P.underlying t=some .bool) (b b':Bool) (w:World):(Op.equal t (.bool b) (.bool b')).run P w=.ok (b == b') w:=by
 show (Op.equalIn (9999+1) t (.bool b) (.bool b')).run P w=_
 rw [Op.equalIn];simp only [Sem.run_bind,dx hu,Result.andThen_ok]
 rfl
theorem Tr {ti:TI} {op:BinOp} {t:TypeId} {x y:Bool} (hu:ti.kind=.bool→P.underlying t=some .bool) (h:Fl ti.kind op x y k):∃ z,k z none∧cG z=true∧∀ w,(binOp op t (.bool x) (.bool y)).run P w=.ok z w:=by
 unfold Fl at h
 split at h
 ·rename_i hk;exact ⟨_,h,rfl,fun w=>(rX (by simp) (by simp) (by simp) (by simp) (by simp) (run_equal_bool (hu hk) x y w)).1⟩
 ·rename_i hk;exact ⟨_,h,rfl,fun w=>(rX (by simp) (by simp) (by simp) (by simp) (by simp) (run_equal_bool (hu hk) x y w)).2⟩
 ·exact h.elim
theorem tB:∀ {l m:List Value},eW l m=true→∀ v∈l,cG v=true
 | [],[],_=>fun v hv=>by simp at hv
 | .bool _::l,.bool _::m,h=>fun v hv=>by
  rcases List.mem_cons.1 hv with e | e
  ·rw [e]; rfl
  ·exact tB (l:=l) (m:=m) h v e
 | .int q _::l,.int q' _::m,h=>fun v hv=>by
  rcases List.mem_cons.1 hv with e | e
  ·rw [e]; rfl
  ·exact tB (l:=l) (m:=m) (by simp only [eW,Bool.and_eq_true] at h; exact h.2) v e
 | .string _::l,.string _::m,h=>fun v hv=>by
  rcases List.mem_cons.1 hv with e | e
  ·rw [e]; rfl
  ·exact tB (l:=l) (m:=m) h v e
theorem bc.kU {ν:Nu}:∀ {l m:List Value},(∀ v∈l,cG v=true)→bc ν l m→m=l
 | [],m,_,h=>h.iP
 | v::l,m,hs,h=>by
  obtain ⟨y,ys,rfl,h1,J⟩:=h.jl;rw [h1.kU (hs v (by simp)),bc.kU (fun u hu=>hs u (by simp [hu])) J]
theorem Uy {eqs:List TypeId} {zero:List Value} {op:BinOp} {t:TypeId} {xs ys:List Value} (hE:∀ t∈eqs,∀ ti,tt t=some ti→xD P t ti.zero) {ti:TI} (ht:tt t=some ti) (h:FU eqs t ti.zero op xs ys k) :
  ∃ z,k z none∧cG z=true∧(∀ v∈xs,cG v=true)∧(∀ v∈ys,cG v=true)∧∀ w,(binOp op t (.agg ⟨xs⟩) (.agg ⟨ys⟩)).run P w=.ok z w∧∀ x y,(eqGuard op t x y (.agg ⟨xs⟩) (.agg ⟨ys⟩)).run P w=.ok () w:=by
 unfold FU at h
 split at h
 ·rename_i hb;simp only [Bool.and_eq_true] at hb;obtain ⟨⟨h1,J⟩,h3⟩:=hb;have hq:=hE t (by simpa using h1) ti ht
  exact ⟨_,h,rfl,tB J,tB h3,fun w=>⟨(rX (by simp) (by simp) (by simp) (by simp) (by simp) (hq xs ys w J h3).1).1,fun x y=>(hq xs ys w J h3).2 x y _⟩⟩
 ·rename_i hb;simp only [Bool.and_eq_true] at hb;obtain ⟨⟨h1,J⟩,h3⟩:=hb;have hq:=hE t (by simpa using h1) ti ht
  exact ⟨_,h,rfl,tB J,tB h3,fun w=>⟨(rX (by simp) (by simp) (by simp) (by simp) (by simp) (hq xs ys w J h3).1).2,fun x y=>(hq xs ys w J h3).2 x y _⟩⟩
 ·exact h.elim
theorem Ru (op:BinOp) (t:TypeId) (x y:Operand) (a b:Option Addr) (n c n' c':Nat) (w:World):(eqGuard op t x y (.slice a n c) (.slice b n' c')).run P w=.ok () w:=by cases op <;> rfl
theorem aq.Ts {ν:Nu} {a:Option Addr} {n c:Nat} {z:Value} (h:aq ν (.slice a n c) z):∃ a' n' c',z=.slice a' n' c'∧a'.isNone=a.isNone:=by
 cases h with
 | ju=>exact ⟨none,0,0,rfl,rfl⟩
 | slice id row n c c' l h hc hn hr=>exact ⟨_,_,_,rfl,rfl⟩
 | void id row c a hc=>exact ⟨_,_,_,rfl,rfl⟩
 | l9 id row m n c' l h hm hn hr=>exact ⟨_,_,_,rfl,rfl⟩
 | lf id row a=>exact ⟨_,_,_,rfl,rfl⟩
theorem AA {t e:TypeId} (hu:P.underlying t=some (.slice e)) (a:Option Addr) (n c:Nat) (w:World):(Op.equal t (.slice a n c) (.slice none 0 0)).run P w=.ok a.isNone w:=by
 show (Op.equalIn (9999+1) t (.slice a n c) (.slice none 0 0)).run P w=_
 rw [Op.equalIn];simp only [Sem.run_bind,dx hu,Result.andThen_ok];cases a <;> rfl
theorem Uz {ti:TI} {op:BinOp} {t:TypeId} {a:Option Addr} (hu:∀ e,ti.kind=.slice e→P.underlying t=some (.slice e)) (h:FW ti.kind op a k) :
  ∃ z,k z none∧cG z=true∧∀ (a':Option Addr) (n c:Nat) w,a'.isNone=a.isNone→(binOp op t (.slice a' n c) (.slice none 0 0)).run P w=.ok z w:=by
 unfold FW at h
 split at h
 ·rename_i e hk;refine ⟨_,h,rfl,fun a' n c w ha=>?_⟩
  rw [(rX (by simp) (by simp) (by simp) (by simp) (by simp) (AA (hu _ hk) a' n c w)).1,ha]; rfl
 ·rename_i e b hk;refine ⟨_,h,rfl,fun a' n c w ha=>?_⟩
  rw [(rX (by simp) (by simp) (by simp) (by simp) (by simp) (AA (hu _ hk) a' n c w)).1,ha]; rfl
 ·rename_i e hk;refine ⟨_,h,rfl,fun a' n c w ha=>?_⟩
  rw [(rX (by simp) (by simp) (by simp) (by simp) (by simp) (AA (hu _ hk) a' n c w)).2,ha]; rfl
 ·rename_i e b hk;refine ⟨_,h,rfl,fun a' n c w ha=>?_⟩
  rw [(rX (by simp) (by simp) (by simp) (by simp) (by simp) (AA (hu _ hk) a' n c w)).2,ha]; rfl
 ·exact h.elim
theorem KB (hT:∀ t ti,tt t=some ti→ay P t ti) {eqs:List TypeId} (hE:∀ t∈eqs,∀ ti,tt t=some ti→xD P t ti.zero) {op:BinOp} {t ty:TypeId} {x y:Operand} (h:CL tt eqs tmps op t x y k):∃ v,k v none∧∀ bh,qB P bh (.binOp op t x y ty) tmps v:=by
 obtain ⟨xv,J,hx⟩:=cP h;clear h;obtain ⟨yv,h,hy⟩:=cP J;clear J
 split at h
 ·obtain ⟨z,hk,hs,hr⟩:=Uw (P:=P) (t:=t) h;refine ⟨_,hk,fun bh=>⟨by simp,fun o ν a w hle ho ha=>⟨_,aq.kR hs,?_⟩⟩⟩
  exact yx ho (hx ν a (ha x (by simp [Op.operands]))).fK (hy ν a (ha y (by simp [Op.operands]))).fK (Tp ..) (hr w)
 ·obtain ⟨z,hk,hs,hr⟩:=Ux (P:=P) (t:=t) h;refine ⟨_,hk,fun bh=>⟨by simp,fun o ν a w hle ho ha=>⟨_,aq.kR hs,?_⟩⟩⟩
  exact yx ho (hx ν a (ha x (by simp [Op.operands]))).r9 (hy ν a (ha y (by simp [Op.operands]))).r9 (Tq ..) (hr w)
 ·obtain ⟨ti,ht,h⟩:=cN h;obtain ⟨d,hu,hd⟩:=(hT _ _ ht).under;obtain ⟨z,hk,hs,hr⟩:=Tr (P:=P) (t:=t) (fun hk=>by rw [hk] at hd; have hd:d=.bool:=hd; rw [hu,hd]) h
  refine ⟨_,hk,fun bh=>⟨by simp,fun o ν a w hle ho ha=>⟨_,aq.kR hs,?_⟩⟩⟩
  exact yx ho (hx ν a (ha x (by simp [Op.operands]))).ki (hy ν a (ha y (by simp [Op.operands]))).ki (RX ..) (hr w)
 ·rename_i xs ys;obtain ⟨ti,ht,h⟩:=cN h;obtain ⟨z,hk,hs,h1,J,hr⟩:=Uy (xs:=xs.toList) (ys:=ys.toList) (zero:=[]) hE ht h;refine ⟨_,hk,fun bh=>⟨by simp,fun o ν a w hle ho ha=>⟨_,aq.kR hs,?_⟩⟩⟩
  obtain ⟨nD,xJ,q7⟩:=aq.ug (xs:=xs.toList) (hx ν a (ha x (by simp [Op.operands])))
  obtain ⟨c7,pI,q8⟩:=aq.ug (xs:=ys.toList) (hy ν a (ha y (by simp [Op.operands])))
  rw [bc.kU h1 q7] at xJ;rw [bc.kU J q8] at pI;exact yx ho xJ pI ((hr w).2 x y) (hr w).1
 ·rename_i b n c;obtain ⟨ti,ht,h⟩:=cN h;obtain ⟨d,hu,hd⟩:=(hT _ _ ht).under;obtain ⟨z,hk,hs,hr⟩:=Uz (P:=P) (t:=t) (fun e hk=>by rw [hk] at hd; have hd:d=.slice e:=hd; rw [hu,hd]) h
  refine ⟨_,hk,fun bh=>⟨by simp,fun o ν a w hle ho ha=>⟨_,aq.kR hs,?_⟩⟩⟩
  obtain ⟨a1,n1,c1,e1,h1⟩:=(hx ν a (ha x (by simp [Op.operands]))).Ts
  have e2:a.eval y=.slice none 0 0:=by
   have J:=hy ν a (ha y (by simp [Op.operands]))
   generalize a.eval y=z at J;cases J
   rfl
  exact yx ho e1 e2 (Ru ..) (hr a1 n1 c1 w h1)
 ·exact h.elim
theorem aa8 (hT:∀ t ti,tt t=some ti→ay P t ti) {eqs:List TypeId} (hE:∀ t∈eqs,∀ ti,tt t=some ti→xD P t ti.zero) {op:BinOp} {t ty:TypeId} {x y:Operand} (h:CL tt eqs tmps op t x y k):eO P (.binOp op t x y ty) tmps H aE k:=by
 obtain ⟨v,hk,hp⟩:=KB hT hE (ty:=ty) h;exact .value (by simp) hk fun o ν a w ho ha hH=>(hp ν).2 o ν a w ν.le_refl ho ha
theorem MV {P:Program} {t:TypeId} {ty:TypeId} {d:TypeDesc} (hu:P.underlying t=some d) {x:Value} {m:Int} (w:World)
  (h:(∃ s,d=.string∧x=.string s∧m=s.size)∨(∃ e b n c,d=.slice e∧x=.slice b n c∧m=(n:Int))) :
  (Builtin.len_ #[t] ty #[x]).run P w=.ok (.int .i64 m) w:=by
 rcases h with ⟨s,rfl,rfl,rfl⟩ | ⟨e,b,n,c,rfl,rfl,rfl⟩ <;> simp [Builtin.len_,dx hu,goInt]
theorem ND (hT:∀ t ti,tt t=some ti→ay P t ti) {c:Call} (hc:c.callee=.builtin .len) {t:TypeId} {x:Operand} (hx:c.args=#[x]) (ht:c.argTypes=#[t]) (h:Hr tmps tt t x k):sK P (.call c) tmps H k:=by
 obtain ⟨xv,J,hv⟩:=cP h;clear h;obtain ⟨ti,Ie,h⟩:=cN J;clear J;obtain ⟨d,hu,hd⟩:=(hT _ _ Ie).under
 split at h
 ·rename_i s hk;rw [hk] at hd;refine .value (by simp) h fun o ν a w ho ha hH=>⟨_,.int _ _,?_⟩
  have hv:=hv ν a (ha x (by simp [Op.operands,Call.operands,hc,hx]))
  have hr:=MV (P:=P) (ty:=o.type) hu w (.inl ⟨_,hd,hv.r9,rfl⟩);simp [execOp,ho,resolve,hc,hx,ht,invoke,builtin,hr]
 ·rename_i e b m c hk;rw [hk] at hd;refine .value (by simp) h fun o ν a w ho ha hH=>⟨_,.int _ _,?_⟩
  obtain ⟨b',c',he⟩:=(hv ν a (ha x (by simp [Op.operands,Call.operands,hc,hx]))).aa7
  have hr:=MV (P:=P) (ty:=o.type) hu w (.inr ⟨_,_,_,_,hd,he,rfl⟩);simp [execOp,ho,resolve,hc,hx,ht,invoke,builtin,hr]
 ·exact h.elim
theorem aa9 (hT:∀ t ti,tt t=some ti→ay P t ti) {c:Call} (hc:c.callee=.builtin .len) {t:TypeId} {x:Operand} (hx:c.args=#[x]) (ht:c.argTypes=#[t]) (h:Hr tmps tt t x k):eO P (.call c) tmps H aE k:=(ND hT hc hx ht h).ok
theorem aba {c:Call} (hc:c.callee=.builtin .max) {x y:Operand} (hx:c.args=#[x,y]) (h:OM tmps x y k):eO P (.call c) tmps H aE k:=by
 obtain ⟨xv,J,h1⟩:=cP h;clear h;obtain ⟨yv,h,J⟩:=cP J
 split at h
 ·refine .value (by simp) h fun o ν a w ho ha hH=>⟨_,.int _ _,?_⟩
  have h1:=(h1 ν a (ha x (by simp [Op.operands,Call.operands,hc,hx]))).fK
  have J:=(J ν a (ha y (by simp [Op.operands,Call.operands,hc,hx]))).fK
  simp [execOp,ho,resolve,hc,hx,invoke,builtin,Builtin.max_,h1,J,Builtin.max2]
 ·exact h.elim
theorem abb {c:Call} (hc:c.callee=.builtin .min) {x y:Operand} (hx:c.args=#[x,y]) (h:ON tmps x y k):eO P (.call c) tmps H aE k:=by
 obtain ⟨xv,J,h1⟩:=cP h;clear h;obtain ⟨yv,h,J⟩:=cP J
 split at h
 ·refine .value (by simp) h fun o ν a w ho ha hH=>⟨_,.int _ _,?_⟩
  have h1:=(h1 ν a (ha x (by simp [Op.operands,Call.operands,hc,hx]))).fK
  have J:=(J ν a (ha y (by simp [Op.operands,Call.operands,hc,hx]))).fK
  simp [execOp,ho,resolve,hc,hx,invoke,builtin,Builtin.min_,h1,J,Builtin.min2]
 ·exact h.elim
theorem EL {fs:List (Nat × Nat × Bool)}
  {BZ:Nat→Option (Nat × Nat)} (hp:∀ (i:Nat) x,fs[i]?=some x→BZ i=some (x.1,x.2.1)) :
  ∀ {ps:List (Nat × Operand)} {cs:List Value} {k:List Value→Prop},Ck tmps fs ps cs k →
  ∃ ds,k ds∧∀ (ν:Nu) (a:Act),(∀ p∈ps,fc ν tmps a p.2)→∀ (eF:List Value),bc ν cs eF→∃ sX,bc ν ds sX∧Instr.fill BZ ⟨eF⟩ (ps.map fun p=>(p.1,a.eval p.2))=some ⟨sX⟩
 | [],cs,k,h=>⟨cs,h,fun ν a _ eF hc=>⟨eF,hc,rfl⟩⟩
 | p::ps,cs,k,h=>by
  obtain ⟨v,J,hv⟩:=cP h;clear h;have h:=AK J;clear J;obtain ⟨x,hx,J⟩:=AL h;clear h
  split at J
  ·rename_i ba;obtain ⟨hl,h1⟩:=xZ ba;obtain ⟨cs2,h3,ja,hle,mc,dv⟩:=yh J;obtain ⟨ds,k1,k0⟩:=EL hp h3;refine ⟨ds,k1,fun ν a ha eF hc=>?_⟩
   have vi:=(hv ν a (ha p (by simp))).cells
   -- the same cells written over in the real struct
   have GZ:∀ (us:List Value) (o:Nat) (acc:List Value) (m:Nat),((us.zipIdx m).foldl (fun cs (c,j)=>cs.setIfInBounds (o+j) c) (⟨acc⟩:Array Value)).size=acc.length ∧
     ∀ j,((us.zipIdx m).foldl (fun cs (c,j)=>cs.setIfInBounds (o+j) c) (⟨acc⟩:Array Value))[j]?=if j < acc.length∧o+m≤j∧j < o+m+us.length then us[j - (o+m)]? else acc[j]?:=by
    intro us
    induction us with
    | nil =>
     intro o acc m;refine ⟨by simp,fun j=>?_⟩
     simp
     intros
     omega
    | cons u us ih =>
     intro o acc m;simp only [List.zipIdx_cons,List.foldl_cons];have e:(⟨acc⟩:Array Value).setIfInBounds (o+m) u=⟨acc.set (o+m) u⟩:=by apply Array.ext'; simp
     rw [e];obtain ⟨i1,i2⟩:=ih o (acc.set (o+m) u) (m+1);refine ⟨by rw [i1]; simp,fun j=>?_⟩
     rw [i2 j];simp only [List.length_set,List.length_cons];by_cases hj:j < acc.length
     ·by_cases h1:o+(m+1)≤j∧j < o+(m+1)+us.length
      ·rw [if_pos ⟨hj,h1⟩,if_pos ⟨hj,by omega,by omega⟩]
       rw [show j - (o+m)=(j - (o+(m+1)))+1 by omega]; simp
      ·rw [if_neg (by omega)]
       by_cases J:j=o+m
       ·subst J;rw [if_pos ⟨hj,by omega,by omega⟩]
        simp [List.getElem?_set,hj]
       ·rw [if_neg (by omega),List.getElem?_set_ne (by omega)]
     ·rw [if_neg (by omega),if_neg (by omega)]
      rw [List.getElem?_eq_none (by simp; omega),List.getElem?_eq_none (by omega)]
   obtain ⟨f1,f2⟩:=GZ (a.eval p.2).cells.toList x.1 eF 0;generalize Ht:(((a.eval p.2).cells.toList.zipIdx 0).foldl (fun cs (c,j)=>cs.setIfInBounds (x.1+j) c) (⟨eF⟩:Array Value))=G at f1 f2
   have Hu:bc ν cs2 G.toList:=by
    refine ⟨by rw [ja,hc.1]; simpa using f1.symm,fun j y z hy hz=>?_⟩
    rw [Array.getElem?_toList,f2 j] at hz
    split at hz
    ·rename_i hj;have ak:j - (x.1+0) < v.cells.toList.length:=by rw [vi.1]; omega
     have:=mc (j - (x.1+0)) _ (List.getElem?_eq_getElem ak);rw [show x.1+(j - (x.1+0))=j by omega] at this
     rw [this] at hy; cases hy;exact vi.2 _ _ _ (List.getElem?_eq_getElem ak) hz
    ·rename_i hj;have abc:=dv j (by
      have Ig:j < eF.length:=(List.getElem?_eq_some_iff.1 hz).1;have:=vi.1;omega)
     rw [abc] at hy;exact hc.2 _ _ _ hy hz
   obtain ⟨sX,k2,k3⟩:=k0 ν a (fun q hq=>ha q (by simp [hq])) _ Hu
   refine ⟨sX,k2,?_⟩;have uz:(a.eval p.2).cells.size=x.2.1:=by rw [← Array.length_toList,← vi.1,hl]
   simp only [List.map_cons,Instr.fill,hp p.1 x hx];rw [if_neg]
   ·have:(((a.eval p.2).cells.zipIdx).foldl (fun cs (c,j)=>cs.setIfInBounds (x.1+j) c) (⟨eF⟩:Array Value))=⟨G.toList⟩:=by
     rw [← Ht,← Array.foldl_toList];simp
    rw [this];exact k3
   ·have:((⟨eF⟩:Array Value).size)=cs.length:=by simp [hc.1]
    simp only [uz,this];simp;omega
  ·exact J.elim
theorem Ll {sz:Nat}:∀ {n off i:Nat} {x:Nat × Nat × Bool},(xk sz off n)[i]?=some x→x.1=off+i*sz∧x.2.1=sz
 | 0,off,i,x,h=>by simp [xk] at h
 | n+1,off,0,x,h=>by simp [xk] at h; subst h; simp
 | n+1,off,i+1,x,h=>by
  obtain ⟨h1,J⟩:=Ll (n:=n) (off:=off+sz) (i:=i) (by simpa [xk] using h)
  exact ⟨by rw [h1,Nat.succ_mul]; omega,J⟩
theorem V6 (hT:∀ t ti,tt t=some ti→ay P t ti) {t:TypeId} {ps:Array (Nat × Operand)} (h:NB tt tmps t ps.toList k):eO P (.build t ps) tmps H aE k:=by
 obtain ⟨ti,ht,J⟩:=cN h;clear h;have ba:=hT _ _ ht;obtain ⟨d,hu,hd⟩:=ba.under;obtain ⟨i,hi,_,_,z,hz,im⟩:=ba.info
 split at J
 ·rename_i fs hk;rw [hk] at hd;obtain ⟨fields,rfl,aU,hf⟩:=hd
  -- the places that the model reckons
  have acO:∀ (w:World) (l:List Field) (m:List (Nat × Nat × Bool)),l.length=m.length→(∀ (i:Nat) f x,l[i]?=some f→m[i]?=some x→yw P f x) →
    (l.mapM (m:=Sem) fun f=>do pure (f.offset,← sizeOf f.type)).run P w=.ok (m.map fun x=>(x.1,x.2.1)) w:=by
   intro w l
   induction l with
   | nil=>intro m hl _; cases m with
    | nil=>rfl
    | cons=>simp at hl
   | cons f l ih =>
    intro m hl hf;cases m with
    | nil=>simp at hl
    | cons x m =>
     obtain ⟨h1,J,⟨i,h3,h4⟩,_⟩:=hf 0 f x rfl rfl;have ih:=ih m (by simpa using hl) (fun i f' x' h h'=>hf (i+1) f' x' (by simpa using h) (by simpa using h'))
     simp only [List.mapM_cons,Sem.run_bind,gq h3,Result.andThen_ok,Sem.run_pure,ih,List.map_cons,h1,h4]
  obtain ⟨ds,k1,k0⟩:=EL (BZ:=((fs.map fun x=>(x.1,x.2.1)).toArray[·]?)) (fun i x hx=>by simp [hx]) J
  refine .value (by simp) k1 fun o ν a w ho ha hH=>?_
  have hm:=acO w fields.toList fs (by simpa using aU) (fun i f x h h'=>hf i f x (by simpa using h) h')
  obtain ⟨sX,k2,k3⟩:=k0 ν a (fun p hp=>ha p.2 (by simp [Op.operands]; exact ⟨p.1,by simpa using hp⟩)) _ (ba.self ν)
  refine ⟨.agg ⟨sX⟩,.agg _ _ k2.1 k2.2,?_⟩;simp only [execOp,ho,Instr.build,Sem.run_bind,vR hi hz,Result.andThen_ok,dx hu,im];have Ih:(fields.mapM (m:=Sem) fun f=>do pure (f.offset,← sizeOf f.type)).run P w=.ok (fs.map fun x=>(x.1,x.2.1)).toArray w:=by
   rw [Array.mapM_eq_mapM_toList];simp only [Sem.run_map,hm,Result.andThen_ok]
  simp only [Ih,Sem.run_bind,Result.andThen_ok];have e:(ps.map fun x=>(x.1,a.eval x.2)).toList=ps.toList.map fun p=>(p.1,a.eval p.2):=by simp
  have e2:(ps.map fun (x:Nat × Operand)=>match x with | (i,x)=>(i,a.eval x))=(ps.map fun x=>(x.1,a.eval x.2)):=rfl
  rw [e2,e,k3]
  rfl
 ·rename_i n e hk;rw [hk] at hd;have hd:d=.array n e:=hd;subst hd;obtain ⟨te,he,h⟩:=cN J;obtain ⟨ei,fu,jb,_⟩:=(hT _ _ he).info;obtain ⟨ds,k1,k0⟩:=EL (BZ:=fun i=>some (i*ei.size,ei.size)) (fun i x hx=>by
   obtain ⟨h1,J⟩:=Ll hx;rw [h1,J,jb,Nat.zero_add]) h
  refine .value (by simp) k1 fun o ν a w ho ha hH=>?_
  obtain ⟨sX,k2,k3⟩:=k0 ν a (fun p hp=>ha p.2 (by simp [Op.operands]; exact ⟨p.1,by simpa using hp⟩)) _ (ba.self ν)
  refine ⟨.agg ⟨sX⟩,.agg _ _ k2.1 k2.2,?_⟩;simp only [execOp,ho,Instr.build,Sem.run_bind,vR hi hz,Result.andThen_ok,dx hu,im,gq fu];have e:(ps.map fun x=>(x.1,a.eval x.2)).toList=ps.toList.map fun p=>(p.1,a.eval p.2):=by simp
  have e2:(ps.map fun (x:Nat × Operand)=>match x with | (i,x)=>(i,a.eval x))=(ps.map fun x=>(x.1,a.eval x.2)):=rfl
  rw [e2,e,k3]
  rfl
 ·exact J.elim
end
open Go Go.RowKit
section
variable {P:Program} {tt:TT} {w:World} {ν:Nu} {aE:Nat} {k:QK} {tmps:List Value} {H:aw}
theorem JM (z:Array Value) (n j:Nat) (h:j < n) (hz:0 < z.size):(madeCells z n)[j]?=z[j % z.size]?:=by
 unfold madeCells;rw [Array.getElem?_map,Array.getElem?_range,if_pos h];simp only [Option.map_some];have:j % z.size < z.size:=Nat.mod_lt _ hz;rw [Array.getElem?_eq_getElem this];simp [this]
theorem FX (r e j:Nat) (h:j < e):(r*e+j) % e=j:=by
 rw [Nat.add_comm,Nat.add_mul_mod_self_right,Nat.mod_eq_of_lt h]
theorem Rv (hT:∀ t ti,tt t=some ti→ay P t ti) {t:TypeId} {x y:Operand} (h:Ky tt tmps t x y aE k):eO P (.makeSlice t x y) tmps H aE k:=by
 obtain ⟨xv,J,hx⟩:=cP h;clear h;obtain ⟨yv,h,hy⟩:=cP J;clear J;obtain ⟨ti,ht,J⟩:=cN h;clear h;obtain ⟨d,hu,hd⟩:=(hT _ _ ht).under
 split at J
 ·rename_i e hk;rw [hk] at hd;have hd:d=.slice e:=hd;subst hd;obtain ⟨te,he,h⟩:=cN J;clear J;have ba:=hT _ _ he;obtain ⟨i,hi,gy,nE,z,hz,im⟩:=ba.info
  split at h
  ·rename_i q n q' m cW;obtain ⟨⟨b0,b1,b2⟩,h⟩:=h;refine ⟨_,_,h,fun o ν a w r nn ho ha hH hn next Q hN=>?_⟩
   have hx:=(hx ν a (ha x (by simp [Op.operands]))).fK
   have hy:=(hy ν a (ha y (by simp [Op.operands]))).fK
   have lU:=ba.bit;have hm1:m≤m*te.bytes:=by
    have:m*1≤m*(te.bytes:Int):=Int.mul_le_mul_of_nonneg_left (by omega) (by omega)
    omega
   have bB:=run_make (P:=P) w t e i z hu hi hz q q' n m b0 b1 (by rw [nE,Int.mul_comm]; omega) (by omega)
   refine jM (w':=w.alloc (.cells (madeCells z.cells (m.toNat*i.size)) e)) (v':=.slice (some ⟨w.heap.size,0,none⟩) n.toNat m.toNat) (by simp [ho]) (by simp [execOp,ho,hx,hy,bB]) next Q
    (hN _ _ (ν.add aE ⟨w.heap.size,0,te.size,m.toNat⟩) (mY hn ?_ (yc _ _) (Nat.le_refl _) ?_))
   ·have dt:(w.alloc (.cells (madeCells z.cells (m.toNat*i.size)) e)).heap[w.heap.size]?=some (.cells (madeCells z.cells (m.toNat*i.size)) e (0,0)):=by show (w.heap.push _)[w.heap.size]?=_; simp
    have jA:z.cells.size=te.size:=by rw [im]; simpa using ba.len
    refine ⟨rfl,fun r hr=>ba.len,fun r hr j v hv=>⟨v,?_,aq.kR (dz cW v (List.mem_of_getElem? hv))⟩,fun _ r hr v hv=>dz cW v hv,fun r hr v hv=>ba.one v hv,fun _ _=>⟨_,_,dt,?_,?_⟩,(fun r h=>nomatch h),?_⟩
    ·have hr:r < n.toNat:=hr;have hv:te.zero[j]?=some v:=hv;have hj:j < te.size:=by rw [← ba.len]; exact (List.getElem?_eq_some_iff.1 hv).1
     simp only [Loc.at,World.cell?,Nat.zero_add];rw [dt];have ak:r*te.size+j < m.toNat*i.size:=by
      rw [gy];have:(r+1)*te.size≤m.toNat*te.size:=Nat.mul_le_mul_right _ (by omega)
      rw [Nat.add_mul] at this; omega
     simp only [Option.isSome_none,Bool.false_eq_true,if_false];rw [JM _ _ _ ak (by omega),jA,FX _ _ _ hj,im]
     simpa using hv
    ·simp [size_madeCells,gy]
    ·simp only [ah.n]; omega
    ·show w.heap.size < (w.alloc _).heap.size
     simp
   ·have:=aq.slice (ν:=ν.add aE ⟨w.heap.size,0,te.size,m.toNat⟩) aE 0 n.toNat m.toNat m.toNat _ Nu.add_same (.inl rfl) (by omega) (by simp)
    simpa [Loc.at] using this
  ·exact h.elim
 ·exact J.elim
theorem Lm:∀ {n:Nat} {r:List Value} {k:List (List Value)→Prop},Hs n r k→k (List.replicate n r)
 | 0,_,_,h=>h
 | n+1,r,k,h=>by have:=Lm (n:=n) h; simpa [List.replicate_succ] using this
theorem Ke:∀ {rs:List (List Value)} {n:Nat} {r:List Value} {k:List (List Value)→Prop},setRow rs n r k→n < rs.length∧k (rs.set n r)
 | [],_,_,_,h=>h.elim
 | _::rs,0,_,_,h=>⟨by simp,h⟩
 | q::rs,n+1,r,k,h=>by obtain ⟨h1,J⟩:=Ke (rs:=rs) h; exact ⟨by simpa using h1,by simpa using J⟩
def BF (ν:Nu) (sz:Nat) (rows:List (List Value)) (C:Array Value):Prop :=
 C.size=rows.length*sz∧(∀ row∈rows,row.length=sz)∧∀ r j row v,rows[r]?=some row→row[j]?=some v→∃ v',C[r*sz+j]?=some v'∧aq ν v v'
theorem Kf {sz n:Nat}:∀ {ps:List (Nat × Operand)} {rows:List (List Value)} {k:List (List Value)→Prop},rowsOf tmps sz ps rows k→rows.length=n →
  ∃ iS,k iS∧iS.length=n∧((∀ row∈rows,∀ v∈row,v.oneCell'=true)→∀ row∈iS,∀ v∈row,v.oneCell'=true) ∧
   ∀ (ν:Nu) (a:Act),(∀ p∈ps,fc ν tmps a p.2)→∀ C,BF ν sz rows C→∃ C',BF ν sz iS C'∧Instr.fill (fun i=>some (i*sz,sz)) C (ps.map fun p=>(p.1,a.eval p.2))=some C'
 | [],rows,k,h,hl=>⟨rows,h,hl,fun h=>h,fun ν a _ C hC=>⟨C,hC,rfl⟩⟩
 | p::ps,rows,k,h,hl=>by
  obtain ⟨v,J,hv⟩:=cP h;clear h;have h:=AK J;clear J
  split at h
  ·rename_i ba;obtain ⟨hlen,qO⟩:=xZ ba;obtain ⟨ak,J⟩:=Ke h;obtain ⟨iS,k1,k2,k3,k4⟩:=Kf (n:=n) (ps:=ps) J (by rw [List.length_set]; exact hl)
   refine ⟨iS,k1,k2,fun h0=>k3 (fun row aX u hu=>?_),fun ν a ha C hC=>?_⟩
   ·rcases List.mem_or_eq_of_mem_set aX with h | h
    ·exact h0 row h u hu
    ·rw [h] at hu; exact qO u hu
   ·obtain ⟨c1,c2,c3⟩:=hC;have vi:=(hv ν a (ha p (by simp))).cells
    have uz:(a.eval p.2).cells.size=sz:=by rw [← Array.length_toList,← vi.1,hlen]
    have GZ:∀ (us:List Value) (o:Nat) (acc:Array Value) (m:Nat),((us.zipIdx m).foldl (fun cs (c,j)=>cs.setIfInBounds (o+j) c) acc).size=acc.size ∧
      ∀ j,((us.zipIdx m).foldl (fun cs (c,j)=>cs.setIfInBounds (o+j) c) acc)[j]?=if j < acc.size∧o+m≤j∧j < o+m+us.length then us[j - (o+m)]? else acc[j]?:=by
     intro us
     induction us with
     | nil =>
      intro o acc m;refine ⟨by simp,fun j=>?_⟩
      simp
      intros
      omega
     | cons u us ih =>
      intro o acc m;simp only [List.zipIdx_cons,List.foldl_cons];obtain ⟨i1,i2⟩:=ih o (acc.setIfInBounds (o+m) u) (m+1);refine ⟨by rw [i1]; simp,fun j=>?_⟩
      rw [i2 j];simp only [Array.size_setIfInBounds,List.length_cons];by_cases hj:j < acc.size
      ·by_cases h1:o+(m+1)≤j∧j < o+(m+1)+us.length
       ·rw [if_pos ⟨hj,h1⟩,if_pos ⟨hj,by omega,by omega⟩]
        rw [show j - (o+m)=(j - (o+(m+1)))+1 by omega]; simp
       ·rw [if_neg (by omega)]
        by_cases J:j=o+m
        ·subst J;rw [if_pos ⟨hj,by omega,by omega⟩]
         simp [hj]
        ·rw [if_neg (by omega),Array.getElem?_setIfInBounds_ne (by omega)]
      ·rw [if_neg (by omega),if_neg (by omega)]
       rw [Array.getElem?_eq_none (by simp; omega),Array.getElem?_eq_none (by omega)]
    obtain ⟨f1,f2⟩:=GZ (a.eval p.2).cells.toList (p.1*sz) C 0;have eP:(a.eval p.2).cells.toList.length=sz:=by simpa using uz
    have hbound:(p.1+1)*sz≤rows.length*sz:=Nat.mul_le_mul_right _ ak;rw [Nat.add_mul] at hbound;have Ht:(((a.eval p.2).cells.toList.zipIdx 0).foldl (fun cs (c,j)=>cs.setIfInBounds (p.1*sz+j) c) C)=((a.eval p.2).cells.zipIdx.foldl (fun cs (c,j)=>cs.setIfInBounds (p.1*sz+j) c) C):=by
     rw [← Array.foldl_toList]; simp
    have Hu:BF ν sz (rows.set p.1 v.cells.toList) ((a.eval p.2).cells.zipIdx.foldl (fun cs (c,j)=>cs.setIfInBounds (p.1*sz+j) c) C):=by
     rw [← Ht];refine ⟨by rw [f1,c1,List.length_set],fun row aX=>?_,fun r j row u hr hj=>?_⟩
     ·rcases List.mem_or_eq_of_mem_set aX with h | h
      ·exact c2 row h
      ·rw [h]; exact hlen
     ·rw [f2];have adQ:j < sz:=by
       have gH:=List.mem_of_getElem? hr;have:row.length=sz:=by
        rcases List.mem_or_eq_of_mem_set gH with h | h
        ·exact c2 row h
        ·rw [h]; exact hlen
       rw [← this]; exact (List.getElem?_eq_some_iff.1 hj).1
      by_cases e:r=p.1
      ·subst e;rw [List.getElem?_set_self ak] at hr;cases hr;rw [if_pos ⟨by omega,by omega,by omega⟩]
       rw [show p.1*sz+j - (p.1*sz+0)=j by omega]
       exact vi.get hj
      ·rw [List.getElem?_set_ne (Ne.symm e)] at hr;have aH:¬ (p.1*sz+0≤r*sz+j∧r*sz+j < p.1*sz+0+(a.eval p.2).cells.toList.length):=by
        rw [eP];rcases Nat.lt_or_ge r p.1 with h | h
        ·have:(r+1)*sz≤p.1*sz:=Nat.mul_le_mul_right _ h;rw [Nat.add_mul] at this; omega
        ·have:(p.1+1)*sz≤r*sz:=Nat.mul_le_mul_right _ (by omega)
         rw [Nat.add_mul] at this; omega
       rw [if_neg (fun h=>aH h.2)]
       exact c3 r j row u hr hj
    obtain ⟨C',q1,q2⟩:=k4 ν a (fun q hq=>ha q (by simp [hq])) _ Hu
    refine ⟨C',q1,?_⟩;simp only [List.map_cons,Instr.fill];rw [if_neg]
    ·exact q2
    ·simp only [uz];simp;omega
  ·exact h.elim
theorem Rw {ae:Nat} {rows:List (List Value)} {k:ah→Prop} (h:Gv ae rows k):∃ b,k b∧∀ (ν:Nu) (l:Loc) (w:World),bP ν l (.aL true ae rows) w→bP ν l b w:=by
 unfold Gv at h
 split at h
 ·refine ⟨_,h,fun ν l w hB=>⟨hB.ae,fun r hr=>absurd hr (Nat.not_lt_zero r),fun r hr=>absurd hr (Nat.not_lt_zero r),fun _ r hr=>absurd hr (Nat.not_lt_zero r),fun r hr=>absurd hr (Nat.not_lt_zero r),fun _ _=>?_,(fun r h=>nomatch h),hB.live⟩⟩
  obtain ⟨cur,t,h1,J,_⟩:=hB.own rfl rfl;exact ⟨cur,t,h1,J,Nat.zero_le _⟩
 ·exact ⟨_,h,fun ν l w hB=>hB⟩
theorem Q7 (hT:∀ t ti,tt t=some ti→ay P t ti) {t:TypeId} {n:Nat} {ps:Array (Nat × Operand)} (h:Kd tt tmps t n ps.toList aE k):eO P (.buildSlice t n ps) tmps H aE k:=by
 obtain ⟨ti,ht,J⟩:=cN h;clear h;obtain ⟨d,hu,hd⟩:=(hT _ _ ht).under
 split at J
 ·rename_i e hk;rw [hk] at hd;have hd:d=.slice e:=hd;subst hd;obtain ⟨te,he,h⟩:=cN J;clear J;have ba:=hT _ _ he;obtain ⟨i,hi,gy,nE,z,hz,im⟩:=ba.info
  split at h
  ·rename_i sL;have sL:=Nat.le_of_ble_eq_true sL;have h:=Lm h;obtain ⟨rows,k1,k2,k3,k4⟩:=Kf (n:=n) h (by simp)
   obtain ⟨b,k1,kb⟩:=Rw k1;refine ⟨_,_,k1,fun o ν a w r nn ho ha hH hn next Q hN=>?_⟩
   have jA:z.cells.size=te.size:=by rw [im]; simpa using ba.len
   -- the zero rows
   have zH:BF ν te.size (List.replicate n te.zero) (madeCells z.cells (n*te.size)):=by
    refine ⟨by simp [size_madeCells],fun row aX=>by rw [(List.mem_replicate.1 aX).2]; exact ba.len,fun r j row v hr hj=>?_⟩
    have aX:=(List.mem_replicate.1 (List.mem_of_getElem? hr)).2;subst aX;have acP:r < n:=by have:=(List.getElem?_eq_some_iff.1 hr).1; simpa using this
    have gk:j < te.size:=by rw [← ba.len]; exact (List.getElem?_eq_some_iff.1 hj).1
    have ak:r*te.size+j < n*te.size:=by
     have:(r+1)*te.size≤n*te.size:=Nat.mul_le_mul_right _ acP;rw [Nat.add_mul] at this; omega
    obtain ⟨v',h1,J⟩:=(ba.self ν).get hj;rw [hj] at h1; cases h1;exact ⟨v,by rw [JM _ _ _ ak (by have:=ba.bit.1; omega),jA,FX _ _ _ gk,im]; simpa using hj,J⟩
   obtain ⟨C',q1,q2⟩:=k4 ν a (fun p hp=>ha p.2 (by simp [Op.operands]; exact ⟨p.1,by simpa using hp⟩)) _ zH
   have bB:(execOp a.eval o).run P w=.ok (.value (.slice (some ⟨w.heap.size,0,none⟩) n n)) { w with heap:=w.heap.push (.cells C' e) }:=by
    have e1:(ps.map fun (x:Nat × Operand)=>match x with | (i,x)=>(i,a.eval x))=(ps.map fun x=>(x.1,a.eval x.2)):=rfl
    have e2:(ps.map fun x=>(x.1,a.eval x.2)).toList=ps.toList.map fun p=>(p.1,a.eval p.2):=by simp
    have PA:¬ (n*te.size > 2 ^ 24):=by omega
    have Db:Instr.fill (fun i=>some (i*te.size,te.size)) ((Array.range (n*te.size)).map (z.cells[· % z.cells.size]!)) (ps.map fun x=>(x.1,a.eval x.2)).toList=some C':=by rw [e2]; exact q2
    simp only [execOp,ho,Instr.buildSlice,Sem.run_bind,dx hu,Result.andThen_ok,gq hi,gy,e1];rw [if_neg PA];by_cases h0:n*te.size=0
    ·have e0:(Array.range (n*te.size)).map (z.cells[· % z.cells.size]!)=(Array.range (n*te.size)).map ((#[]:Array Value)[· % (#[]:Array Value).size]!):=by rw [h0]; simp
     rw [e0] at Db;simp only [Sem.run_bind,Sem.run_ite,h0,if_true,Sem.run_pure,Result.andThen_ok,newRow,run_newObj];rw [h0] at Db;simp only [Db,Sem.run_bind,Sem.run_pure,Result.andThen_ok,newRow,run_newObj]
    ·simp only [Sem.run_bind,Sem.run_ite,h0,if_false,Sem.run_pure,vR hi hz,Result.andThen_ok];simp only [Db,Sem.run_bind,Sem.run_pure,Result.andThen_ok,newRow,run_newObj]
   have dt:({ w with heap:=w.heap.push (.cells C' e) }:World).heap[w.heap.size]?=some (.cells C' e (0,0)):=by simp
   obtain ⟨c1,c2,c3⟩:=q1;refine jM (by simp [ho]) bB next Q (hN _ _ (ν.add aE ⟨w.heap.size,0,te.size,n⟩) (mY hn ?_ (yc _ _) (Nat.le_refl _) ?_))
   ·refine kb _ _ _ ⟨rfl,fun r hr=>?_,fun r hr j v hv=>?_,fun h=>by simp [ah.jR] at h,fun r hr v hv=>?_,fun _ _=>⟨_,_,dt,?_,?_⟩,(fun r h=>nomatch h),by simp⟩
    ·have hr:r < rows.length:=hr;simp only [ah.row,List.getD,List.getElem?_eq_getElem hr,Option.getD_some];exact c2 _ (List.getElem_mem _)
    ·have hr:r < rows.length:=hr;simp only [ah.row,List.getD,List.getElem?_eq_getElem hr,Option.getD_some] at hv;obtain ⟨v',h1,J⟩:=c3 r j _ v (List.getElem?_eq_getElem hr) hv;refine ⟨v',?_,J.mono (Nu.kl hn)⟩;simp only [Loc.at,World.cell?,Nat.zero_add];rw [dt]
     simpa using h1
    ·have hr:r < rows.length:=hr;simp only [ah.row,List.getD,List.getElem?_eq_getElem hr,Option.getD_some] at hv;exact k3 (fun row aX u hu=>by rw [(List.mem_replicate.1 aX).2] at hu; exact ba.one u hu) _ (List.getElem_mem _) v hv
    ·simp [c1,k2]
    ·simp [ah.n,k2]
   ·have:=aq.slice (ν:=ν.add aE ⟨w.heap.size,0,te.size,n⟩) aE 0 n n n _ Nu.add_same (.inl rfl) (Nat.le_refl _) (by simp)
    simpa [Loc.at] using this
  ·exact h.elim
 ·exact J.elim
end
open Go Go.RowKit
section
variable {P:Program} {tt:TT} {w:World} {ν:Nu} {aE:Nat} {k:QK} {tmps:List Value} {H:aw}
theorem foldl_push (ns:List Int):∀ r:ByteArray,ns.foldl (fun r n=>r.push (UInt8.ofNat n.toNat)) r=⟨r.data++(ns.map fun n=>UInt8.ofNat n.toNat).toArray⟩:=by
 induction ns with
 | nil=>intro r; simp
 | cons n ns ih=>intro r; rw [List.foldl_cons,ih]; simp [ByteArray.push]
theorem RY {a:Addr} {c:Nat} (w:World):(Conv.bytesToString (.slice (some a) 0 c)).run P w=.ok (.string ⟨#[]⟩) w:=by
 rw [run_bytesToString w a 0 c [] (by simpa using run_loadCells_list (P:=P) w a [] (fun j v h=>by simp at h))]
 rfl
theorem Tt (hT:∀ t ti,tt t=some ti→ay P t ti) {s d:TypeId} {x:Operand} (h:Mc tt tmps H s d x aE k):eO P (.convert s d x) tmps H aE k:=by
 obtain ⟨xv,J,hx⟩:=cP h;clear h;obtain ⟨ts,hs,h⟩:=cN J;clear J;obtain ⟨td,hd,J⟩:=cN h;clear h;have h:=J;clear J;obtain ⟨ds,sY,eH⟩:=(hT _ _ hs).under;obtain ⟨dd,xK,c6⟩:=(hT _ _ hd).under
 split at h
 ·rename_i q q' m hk;rw [hk] at c6;have c6:dd=.int q:=c6;subst c6
  split at h
  ·rename_i qs jB;rw [jB] at eH;have eH:ds=.int qs:=eH;subst eH;refine .value (by simp) h fun o ν a w ho ha hH=>⟨_,.int _ _,?_⟩
   have hx:=(hx ν a (ha x (by simp [Op.operands]))).fK
   simp [execOp,ho,hx,convert,dx sY,dx xK,Conv.intToInt]
  ·exact h.elim
 ·rename_i s hk;rw [hk] at c6;have c6:dd=.string:=c6;subst c6
  split at h
  ·rename_i jB;rw [jB] at eH;have eH:ds=.string:=eH;subst eH;refine .value (by simp) h fun o ν a w ho ha hH=>⟨_,.str _,?_⟩
   have hx:=(hx ν a (ha x (by simp [Op.operands]))).r9
   simp [execOp,ho,hx,convert,dx sY,dx xK]
  ·exact h.elim
 ·rename_i id row n c hk;rw [hk] at c6;have c6:dd=.string:=c6;subst c6
  split at h
  ·rename_i e jB;rw [jB] at eH;have eH:ds=.slice e:=eH;subst eH;obtain ⟨te,he,J⟩:=cN h;clear h;obtain ⟨de,xL,kI⟩:=(hT _ _ he).under
   split at J
   ·rename_i zI;rw [zI] at kI;have kI:de=.int .u8:=kI;subst kI;have Ob:∀ (o:Oper) (ν:Nu) (a:Act) (w:World),o.op=.convert s d x→(∀ x'∈(Op.convert s d x).operands,fc ν tmps a x')→∃ ad c',a.eval x=.slice (some ad) n c'∧(0 < n→∃ l,ν id=some l∧ad=l.at row 0):=by
     intro o ν a w ho ha;rcases (hx ν a (ha x (by simp [Op.operands]))).tO with ⟨l,c',hl,hc,hn,hr,cj⟩ | ⟨hn,hc,bb,cj⟩
     ·exact ⟨_,_,cj,fun _=>⟨l,hl,rfl⟩⟩
     ·subst hn;exact ⟨_,_,cj,fun h=>absurd h (by omega)⟩
    split at J
    ·refine .value (by simp) J fun o ν a w ho ha hH=>⟨_,.str _,?_⟩
     obtain ⟨ad,c',cj,_⟩:=Ob o ν a w ho ha;have:=run_convert_bytes_string (P:=P) w s d e (some ad) 0 c' sY xL xK;simp [execOp,ho,cj,this,RY]
    ·rename_i m;obtain ⟨b,hb,h⟩:=gB J;clear J
     split at h
     ·rename_i Hv;obtain ⟨⟨hle,Od⟩,h⟩:=h;refine .value (by simp) h fun o ν a w ho ha hH=>⟨_,.str _,?_⟩
      obtain ⟨ad,c',cj,hl⟩:=Ob o ν a w ho ha;obtain ⟨l,eG,rfl⟩:=hl (by omega)
      clear hl;obtain ⟨l',cB,hB⟩:=hH.aG id b hb;rw [eG] at cB; cases cB;have hc:=run_convert_bytes_string (P:=P) w s d e (some (l.at row 0)) (m+1) c' sY xL xK
      let ns:List Int:=(List.range (m+1)).map fun r=>match b.row (row+r) with | .int _ x::_=>x | _=>0
      have YV:(loadCells (l.at row 0) (m+1)).run P w=.ok (ns.map (Value.int .u8)).toArray w:=by
       have:=run_loadCells_list (P:=P) w (l.at row 0) (ns.map (Value.int .u8)) (fun j v hj=>by
        have gk:j < m+1:=by
         have:=(List.getElem?_eq_some_iff.1 hj).1
         simpa [ns] using this
        obtain ⟨y,hy⟩:=Od j gk;obtain ⟨v',h1,J⟩:=hB.cell (row+j) (by omega) 0 (.int .u8 y) (by rw [hy]; rfl)
        have J:=J.fK;subst J;have hv:v=.int .u8 y:=by
         simp only [ns,List.map_map,List.getElem?_map,List.getElem?_range gk,Option.map_some,Function.comp,hy] at hj;exact (Option.some.inj hj).symm
        rw [Loc.jS,hv,← h1];simp only [Loc.at,hB.ae,Hv]
        congr 2
        omega)
       simpa [ns] using this
      have bB:=run_bytesToString (P:=P) w (l.at row 0) (m+1) c' ns YV;rw [foldl_push] at bB;have e:(⟨ByteArray.empty.data++(ns.map fun n=>UInt8.ofNat n.toNat).toArray⟩:ByteArray)=⟨⟨bytesOf b.row row (m+1)⟩⟩:=by
       have e0:ByteArray.empty.data=#[]:=rfl;rw [e0]
       congr 1
       simp only [Array.empty_append,bytesOf,ns,List.map_map]
       congr 1
       apply List.map_congr_left;intro r hr;obtain ⟨y,hy⟩:=Od r (List.mem_range.1 hr);simp [hy]
      rw [e] at bB;simp [execOp,ho,cj,hc,bB]
     ·exact h.elim
   ·exact J.elim
  ·exact h.elim
 ·rename_i hk;rw [hk] at c6;have c6:dd=.string:=c6;subst c6
  split at h
  ·rename_i e jB;rw [jB] at eH;have eH:ds=.slice e:=eH;subst eH;obtain ⟨te,he,J⟩:=cN h;clear h;obtain ⟨de,xL,kI⟩:=(hT _ _ he).under
   split at J
   ·rename_i zI;rw [zI] at kI;have kI:de=.int .u8:=kI;subst kI;refine .value (by simp) J fun o ν a w ho ha hH=>⟨_,.str _,?_⟩
    have hx:=(hx ν a (ha x (by simp [Op.operands]))).p7
    have:=run_convert_bytes_string (P:=P) w s d e none 0 0 sY xL xK;simp [execOp,ho,hx,this,Conv.bytesToString]
    rfl
   ·exact J.elim
  ·exact h.elim
 ·rename_i e str hk;rw [hk] at c6;have c6:dd=.slice e:=c6;subst c6
  split at h
  ·rename_i jB;rw [jB] at eH;have eH:ds=.string:=eH;subst eH;obtain ⟨te,he,J⟩:=cN h;clear h;obtain ⟨de,xL,kI⟩:=(hT _ _ he).under
   split at J
   ·rename_i zI;rw [zI] at kI;have kI:de=.int .u8:=kI;subst kI;refine ⟨_,_,J,fun o ν a w r nn ho ha hH hn next Q hN=>?_⟩
    have hx:=(hx ν a (ha x (by simp [Op.operands]))).r9
    have bB:=run_bytes_of_string (P:=P) w s d e str sY xK xL;have dZ:=grownCap_ge w str.size 0 e;have hb:Below w.heap.size w (w.drew.alloc (.cells (bytesRow str (grownCap w str.size 0 e)) e ((bytesRow str (grownCap w str.size 0 e)).size,(bytesRow str (grownCap w str.size 0 e)).size+1))):=((Below.refl _ w).drew).alloc (Nat.le_refl _) _;have abd:(execOp a.eval o).run P w=.ok (.value (.slice (some ⟨w.heap.size,0,none⟩) str.size (grownCap w str.size 0 e))) (w.drew.alloc (.cells (bytesRow str (grownCap w str.size 0 e)) e ((bytesRow str (grownCap w str.size 0 e)).size,(bytesRow str (grownCap w str.size 0 e)).size+1))):=by
     simp [execOp,ho,hx,bB]
    refine jM (by simp [ho]) abd next Q
     (hN _ _ (ν.add aE ⟨w.heap.size,0,1,grownCap w str.size 0 e⟩) (mY hn ?_ hb (Nat.le_refl _) ?_))
    ·have dt:(w.drew.alloc (.cells (bytesRow str (grownCap w str.size 0 e)) e ((bytesRow str (grownCap w str.size 0 e)).size,(bytesRow str (grownCap w str.size 0 e)).size+1))).heap[w.heap.size]?=some (.cells (bytesRow str (grownCap w str.size 0 e)) e ((bytesRow str (grownCap w str.size 0 e)).size,(bytesRow str (grownCap w str.size 0 e)).size+1)):=by
      show (w.heap.push _)[w.heap.size]?=_; simp
     refine ⟨rfl,fun r hr=>rfl,fun r hr j v hv=>⟨v,?_,aq.kR ?_⟩,fun _ r hr v hv=>?_,fun r hr v hv=>?_,fun h _=>by simp [ah.own] at h,(fun r h=>nomatch h),?_⟩
     ·have hr:r < str.size:=hr;have hv:[Value.int .u8 (bX str r)][j]?=some v:=hv;have hj:j=0:=by
       have:=(List.getElem?_eq_some_iff.1 hv).1
       simpa using this
      subst hj;simp only [Loc.at,World.cell?,Nat.zero_add];rw [dt];simp only [Option.isSome_none,Bool.false_eq_true,if_false];have ak:r < str.data.size:=hr;simp [bytesRow,bX] at hv ⊢;rw [Array.getElem?_append_left (by simpa using ak)]
      have hg:str.data[r]?=some (str.data[r]'ak):=Array.getElem?_eq_getElem ak;rw [hg] at hv;rw [Array.getElem?_map,hg,← hv]
      rfl
     ·have hv:[Value.int .u8 (bX str r)][j]?=some v:=hv;have:=List.mem_of_getElem? hv;simp at this;rw [this]; rfl
     ·have hv:v∈[Value.int .u8 (bX str r)]:=hv;simp at hv; rw [hv]; rfl
     ·have hv:v∈[Value.int .u8 (bX str r)]:=hv;simp at hv; rw [hv]; rfl
     ·show w.heap.size < (w.drew.alloc _).heap.size
      simp
    ·have:=aq.slice (ν:=ν.add aE ⟨w.heap.size,0,1,grownCap w str.size 0 e⟩) aE 0 str.size aK (grownCap w str.size 0 e) _ Nu.add_same (.inr rfl) dZ (by simp)
     simpa [Loc.at] using this
   ·exact J.elim
  ·exact h.elim
 ·exact h.elim
theorem abe (hT:∀ t ti,tt t=some ti→ay P t ti) {c:Call} (hc:c.callee=.builtin .cap) {t:TypeId} {x:Operand} (hx:c.args=#[x]) (ht:c.argTypes=#[t]) (h:OO tmps tt t x k):eO P (.call c) tmps H aE k:=by
 obtain ⟨xv,J,hv⟩:=cP h;clear h;obtain ⟨ti,Ie,h⟩:=cN J;clear J;obtain ⟨d,hu,hd⟩:=(hT _ _ Ie).under
 split at h
 ·rename_i e hk;rw [hk] at hd;have hd:d=.slice e:=hd;subst hd;refine .value (by simp) h fun o ν a w ho ha hH=>⟨_,.int _ _,?_⟩
  have he:=(hv ν a (ha x (by simp [Op.operands,Call.operands,hc,hx]))).p7
  simp [execOp,ho,resolve,hc,hx,ht,invoke,builtin,Builtin.cap_,run_underlying hu,he,goInt]
 ·exact h.elim
theorem wrap_small {m:Nat} (h:m≤140737488355328):IntKind.i64.wrap (m:Int)=(m:Int):=by
 have e:IntKind.i64.wrap (m:Int)=if (true && decide ((m:Int) % (2 ^ 64:Int) ≥ (2 ^ 63:Int)))=true then (m:Int) % (2 ^ 64:Int) - (2 ^ 64:Int) else (m:Int) % (2 ^ 64:Int):=rfl
 rw [e];simp only [Bool.true_and,decide_eq_true_eq]
 split <;> omega
theorem QP {t u ty e:TypeId} {q:IntKind} {i:TypeInfo} {z:Value} (ht:P.underlying t=some (.slice e)) (hu:P.underlying u=some (.int q)) (hi:P.info? e=some i) (hz:i.zero=some z)
  {n:Int} (h0:0 < n) (PB:n*i.bytes≤140737488355328) (h63:n≤140737488355328) :
  (Builtin.append_ #[t,u] ty #[.slice none 0 0,.int .i64 n]).run P w =
   .ok (.slice (some ⟨w.heap.size,0,none⟩) n.toNat (grownCap w n.toNat 0 e))
    (w.drew.alloc (.cells ((if n.toNat*i.size=0 then #[] else Builtin.zeroCells z.cells n.toNat)++Builtin.zeroCells z.cells (grownCap w n.toNat 0 e - n.toNat)) e)):=by
 obtain ⟨m,rfl⟩:∃ m:Nat,n=m:=⟨n.toNat,by omega⟩
 have hw:IntKind.i64.wrap (m:Int)=(m:Int):=wrap_small (by omega)
 have hn:m≠0:=by omega
 have h1:¬ ((m:Int) < 0):=by omega
 have J:¬ (281474976710656 < (m:Int)*(i.bytes:Int)):=by omega
 have OP:¬ (9223372036854775807 < (m:Int)):=by omega
 have OQ:¬ (281474976710656 < Builtin.nextslicecap m 0*i.bytes):=by
  rw [nextslicecap_zero (by omega)]
  have PB:((m*i.bytes:Nat):Int)≤140737488355328:=by rw [Int.natCast_mul]; exact PB
  omega
 by_cases hs:m*i.size=0
 ·simp [Builtin.append_,run_underlying ht,run_underlying hu,sizeOf,typeInfo,zeroValue,hi,hz,asInt,asIntOf,hw,h1,J,hn,OP,OQ,Question.forced,newRow,grownCap,Builtin.firstCells,hs]
 ·simp [Builtin.append_,run_underlying ht,run_underlying hu,sizeOf,typeInfo,zeroValue,hi,hz,asInt,asIntOf,hw,h1,J,hn,OP,OQ,Question.forced,newRow,grownCap,Builtin.firstCells,hs]
theorem JN (z:Array Value) (n j:Nat) (h:j < n*z.size) (hz:0 < z.size):(Builtin.zeroCells z n)[j]?=z[j % z.size]?:=by
 unfold Builtin.zeroCells;rw [Array.getElem?_map,Array.getElem?_range,if_pos h];simp only [Option.map_some];have:j % z.size < z.size:=Nat.mod_lt _ hz;rw [Array.getElem?_eq_getElem this];simp [this]
theorem RZ (hT:∀ t ti,tt t=some ti→ay P t ti) {c:Call} (hc:c.callee=.builtin .append) {t u:TypeId} {x y:Operand} (hx:c.args=#[x,y]) (zJ:c.argTypes=#[t,u]) (h:Lj tt tmps t u x y aE k):eO P (.call c) tmps H aE k:=by
 obtain ⟨xv,J,vj⟩:=cP h;clear h;obtain ⟨yv,h,vk⟩:=cP J;clear J;obtain ⟨ti,ht,J⟩:=cN h;clear h;obtain ⟨d,hu,hd⟩:=(hT _ _ ht).under
 split at J
 ·rename_i e hk;rw [hk] at hd;have hd:d=.slice e:=hd;subst hd;obtain ⟨te,he,h⟩:=cN J;clear J;obtain ⟨tu,htu,J⟩:=cN h;clear h;obtain ⟨du,huu,Dc⟩:=(hT _ _ htu).under;have ba:=hT _ _ he;obtain ⟨i,hi,gy,nE,z,hz,im⟩:=ba.info
  split at J
  ·rename_i q n hku cW;rw [hku] at Dc;have Dc:du=.int q:=Dc;subst Dc;obtain ⟨⟨b0,b1⟩,h⟩:=J;refine ⟨_,_,h,fun o ν a w r nn ho ha hH hn next Q hN=>?_⟩
   have qY:=(vj ν a (ha x (by simp [Op.operands,Call.operands,hc,hx]))).p7
   have zK:=(vk ν a (ha y (by simp [Op.operands,Call.operands,hc,hx]))).fK
   have lU:=ba.bit.2;have zL:n≤n*te.bytes:=by
    have:n*1≤n*(te.bytes:Int):=Int.mul_le_mul_of_nonneg_left (by omega) (by omega)
    omega
   have bB:=QP (P:=P) (w:=w) (ty:=o.type) hu huu hi hz b0 (by rw [nE]; exact b1) (by omega)
   have dZ:=grownCap_ge w n.toNat 0 e;have oh:∀ C:Array Value,Below w.heap.size w (w.drew.alloc (.cells C e)):=fun C=>((Below.refl _ w).drew).alloc (Nat.le_refl _) _
   have hpz:0 < te.size:=ba.bit.1;have jA:z.cells.size=te.size:=by rw [im]; simpa using ba.len
   have hm:¬ (n.toNat*i.size=0):=by
    rw [gy];intro h0;rcases Nat.mul_eq_zero.1 h0 with h | h <;> omega
   rw [if_neg hm] at bB;generalize hC:Builtin.zeroCells z.cells n.toNat++Builtin.zeroCells z.cells (grownCap w n.toNat 0 e - n.toNat)=C at bB;refine jM (w':=w.drew.alloc (.cells C e)) (v':=.slice (some ⟨w.heap.size,0,none⟩) n.toNat (grownCap w n.toNat 0 e)) (by simp [ho]) (by simp [execOp,ho,resolve,hc,hx,zJ,invoke,builtin,qY,zK,bB]) next Q
    (hN _ _ (ν.add aE ⟨w.heap.size,0,te.size,grownCap w n.toNat 0 e⟩) (mY hn ?_ (oh _) (Nat.le_refl _) ?_))
   ·have Dd:C.size=grownCap w n.toNat 0 e*te.size:=by
     rw [← hC,Array.size_append];simp only [Builtin.zeroCells,Array.size_map,Array.size_range,jA];rw [← Nat.add_mul]
     congr 1
     omega
    have dt:(w.drew.alloc (.cells C e)).heap[w.heap.size]?=some (.cells C e (0,0)):=by show (w.heap.push _)[w.heap.size]?=_; simp
    refine ⟨rfl,fun r hr=>ba.len,fun r hr j v hv=>⟨v,?_,aq.kR (dz cW v (List.mem_of_getElem? hv))⟩,fun _ r hr v hv=>dz cW v hv,fun r hr v hv=>ba.one v hv,fun _ _=>⟨_,_,dt,?_,?_⟩,(fun r h=>nomatch h),?_⟩
    ·have hr:r < n.toNat:=hr;have hv:te.zero[j]?=some v:=hv;have hj:j < te.size:=by rw [← ba.len]; exact (List.getElem?_eq_some_iff.1 hv).1
     simp only [Loc.at,World.cell?,Nat.zero_add];rw [dt];have ak:r*te.size+j < n.toNat*te.size:=by
      have:(r+1)*te.size≤n.toNat*te.size:=Nat.mul_le_mul_right _ (by omega)
      rw [Nat.add_mul] at this; omega
     simp only [Option.isSome_none,Bool.false_eq_true,if_false];rw [← hC,Array.getElem?_append_left (by simp only [Builtin.zeroCells,Array.size_map,Array.size_range,jA]; exact ak),JN _ _ _ (by rw [jA]; exact ak) (by omega),jA,FX _ _ _ hj,im]
     simpa using hv
    ·rw [Dd]; simp
    ·simp only [ah.n]; omega
    ·show w.heap.size < (w.drew.alloc _).heap.size
     simp
   ·have:=aq.slice (ν:=ν.add aE ⟨w.heap.size,0,te.size,grownCap w n.toNat 0 e⟩) aE 0 n.toNat aK (grownCap w n.toNat 0 e) _ Nu.add_same (.inr rfl) dZ (by simp)
    simpa [Loc.at] using this
  ·exact J.elim
 ·exact J.elim
end
open Go Go.RowKit
section
variable {P:Program} {tt:TT} {Φ:yT} {w:World} {ν:Nu} {aE:Nat} {k:QK} {tmps:List Value} {H:aw}
def Nu.comp (ν:Nu) (τ:List Nat):Nu:=fun j=>(τ[j]?).bind ν
theorem EM {τ:List Nat} {m:Nat} {x:Value} {xs l:List Value} (h:mE τ m (x::xs)=some l):∃ y ys,l=y::ys∧cQ τ m x=some y∧mE τ m xs=some ys:=by
 unfold mE at h;rw [List.foldr_cons] at h
 split at h
 ·rename_i y ys h1 J;exact ⟨y,ys,(Option.some.inj h).symm,h1,J⟩
 ·cases h
theorem Fo {τ:List Nat} {m:Nat} {l:List Value} (h:mE τ m []=some l):l=[]:=by
 simp [mE] at h; exact h
theorem tP {τ:List Nat} {m:Nat} (h:∀ v v2 r,cQ τ m v=some v2→aq ν v2 r→aq (ν.comp τ) v r):∀ {xs l rs:List Value},mE τ m xs=some l→bc ν l rs→bc (ν.comp τ) xs rs
 | [],l,rs,h1,J=>by rw [Fo h1] at J; rw [J.iP]; exact .nil _
 | x::xs,l,rs,h1,J=>by
  obtain ⟨y,ys,rfl,e1,e2⟩:=EM h1;obtain ⟨r,b6,rfl,k1,k2⟩:=J.jl;exact .cons (h _ _ _ e1 k1) (tP h e2 k2)
theorem yk {τ:List Nat} {m:Nat} (h:∀ v v2 r,cQ τ m v=some v2→aq (ν.comp τ) v r→aq ν v2 r):∀ {xs l rs:List Value},mE τ m xs=some l→bc (ν.comp τ) xs rs→bc ν l rs
 | [],l,rs,h1,J=>by rw [Fo h1]; rw [J.iP]; exact .nil _
 | x::xs,l,rs,h1,J=>by
  obtain ⟨y,ys,rfl,e1,e2⟩:=EM h1;obtain ⟨r,b6,rfl,k1,k2⟩:=J.jl;exact .cons (h _ _ _ e1 k1) (yk h e2 k2)
theorem wu {τ:List Nat}:∀ (m:Nat) (v v2 r:Value),cQ τ m v=some v2→aq ν v2 r→aq (ν.comp τ) v r:=by
 intro m
 induction m with
 | zero=>intro v v2 r h; simp [cQ] at h
 | succ m ih =>
  intro v v2 r h hr;unfold cQ at h
  split at h
  ·cases h; rw [hr.kU rfl]; exact .bool _
  ·cases h; rw [hr.kU rfl]; exact .int _ _
  ·cases h; rw [hr.kU rfl]; exact .str _
  ·cases h; cases hr; exact .mC
  ·split at h
   ·rename_i vh e;cases h;obtain ⟨l,h1,rfl⟩:=hr.oX;exact .ptr _ _ _ l (by simp [Nu.comp,e,h1])
   ·cases h
  ·cases h; cases hr; exact .ju
  ·split at h
   ·rename_i vh e;cases h;rcases hr.tO with ⟨l,c',h1,J,h3,h4,rfl⟩ | ⟨rfl,J,b,rfl⟩
    ·exact .slice _ _ _ _ _ l (by simp [Nu.comp,e,h1]) J h3 h4
    ·exact .void _ _ _ _ J
   ·cases h
  ·cases h; cases hr; exact .mD
  ·split at h
   ·rename_i l l' e;cases h;obtain ⟨ys,rfl,hy⟩:=hr.ug;have:=tP ih e hy;exact .agg _ _ this.1 this.2
   ·cases h
  ·split at h
   ·rename_i l l' e;cases h;obtain ⟨ys,rfl,hy⟩:=hr.nT;have:=tP ih e hy;exact .tuple _ _ this.1 this.2
   ·cases h
  ·split at h
   ·rename_i l1 l2 l1' l2' e1 e2;cases h;obtain ⟨ys,c7,rfl,hy,zK⟩:=hr.rW;have t1:=tP ih e1 hy;have t2:=tP ih e2 zK;exact .func _ _ _ _ _ t1.1 t1.2 t2.1 t2.2
   ·cases h
  ·cases h
theorem Fp {τ:List Nat}:∀ (m:Nat) (v v2 r:Value),cQ τ m v=some v2→aq (ν.comp τ) v r→aq ν v2 r:=by
 intro m
 induction m with
 | zero=>intro v v2 r h; simp [cQ] at h
 | succ m ih =>
  intro v v2 r h hr;unfold cQ at h
  split at h
  ·cases h; rw [hr.kU rfl]; exact .bool _
  ·cases h; rw [hr.kU rfl]; exact .int _ _
  ·cases h; rw [hr.kU rfl]; exact .str _
  ·cases h; cases hr; exact .mC
  ·split at h
   ·rename_i vh e;cases h;obtain ⟨l,h1,rfl⟩:=hr.oX;simp [Nu.comp,e] at h1;exact .ptr _ _ _ l h1
   ·cases h
  ·cases h; cases hr; exact .ju
  ·split at h
   ·rename_i vh e;cases h;rcases hr.tO with ⟨l,c',h1,J,h3,h4,rfl⟩ | ⟨rfl,J,b,rfl⟩
    ·simp [Nu.comp,e] at h1;exact .slice _ _ _ _ _ l h1 J h3 h4
    ·exact .void _ _ _ _ J
   ·cases h
  ·cases h; cases hr; exact .mD
  ·split at h
   ·rename_i l l' e;cases h;obtain ⟨ys,rfl,hy⟩:=hr.ug;have:=yk ih e hy;exact .agg _ _ this.1 this.2
   ·cases h
  ·split at h
   ·rename_i l l' e;cases h;obtain ⟨ys,rfl,hy⟩:=hr.nT;have:=yk ih e hy;exact .tuple _ _ this.1 this.2
   ·cases h
  ·split at h
   ·rename_i l1 l2 l1' l2' e1 e2;cases h;obtain ⟨ys,c7,rfl,hy,zK⟩:=hr.rW;have t1:=yk ih e1 hy;have t2:=yk ih e2 zK;exact .func _ _ _ _ _ t1.1 t1.2 t2.1 t2.2
   ·cases h
  ·cases h
structure B0 (b c:ah):Prop extends aO b c where
 rc:b.rc=none
theorem Es {k:Prop}:∀ {σ:List Nat} {bs:List ah},yV H σ bs k→σ.length=bs.length∧(∀ (j s:Nat) (b:ah),σ[j]?=some s→bs[j]?=some b→∃ c,H[s]?=some (some c)∧B0 b c)∧k
 | [],[],h=>⟨rfl,fun j s b h=>by simp at h,h⟩
 | s::σ,b::bs,h=>by
  have jc:b.rc=none∧gG H s fun c=>aO b c∧yV H σ bs k:=by
   cases b with
   | aL o e r=>exact ⟨rfl,h⟩
   | flat o n e g=>exact ⟨rfl,h⟩
   | b9 r=>exact h.elim
  obtain ⟨jc,h⟩:=jc;obtain ⟨c,h1,J,h3⟩:=gB h;obtain ⟨e1,e2,e3⟩:=Es h3;refine ⟨by simp [e1],fun j s' b' hs hb=>?_,e3⟩
  cases j with
  | zero=>simp at hs hb; subst hs; subst hb; exact ⟨c,h1,J,jc⟩
  | succ j=>exact e2 j s' b' (by simpa using hs) (by simpa using hb)
 | [],_::_,h=>h.elim
 | _::_,[],h=>h.elim
theorem bP.Fq {ν ai:Nu} {l:Loc} {b:ah} {w:World} (h:bP ν l b w) (hs:∀ r,r < b.n→∀ v∈b.row r,cG v=true):bP ai l b w :=
 ⟨h.ae,h.len,fun r hr j v hv=>by
  obtain ⟨v',h1,J⟩:=h.cell r hr j v hv;have zM:=hs r hr v (List.mem_of_getElem? hv);rw [J.kU zM] at h1;exact ⟨v,h1,aq.kR zM⟩,h.plain,h.one,h.own,h.lr,h.live⟩
theorem bP.le {ν ai:Nu} {l:Loc} {b c:ah} {w:World} (h:bP ν l c w) (hle:B0 b c):bP ai l b w:=by
 refine ⟨h.ae.trans hle.ae,fun r hr=>?_,fun r hr j v hv=>?_,fun _ r hr v hv=>hle.flat r hr v hv,fun r hr v hv=>?_,fun ho _=>?_,(fun r h=>by rw [hle.rc] at h; cases h),h.live⟩
 ·rw [hle.row r hr,h.len r (Nat.lt_of_lt_of_le hr hle.n),hle.ae]
 ·rw [hle.row r hr] at hv;obtain ⟨v',h1,J⟩:=h.cell r (Nat.lt_of_lt_of_le hr hle.n) j v hv;have zM:=hle.flat r hr v (by rw [hle.row r hr]; exact List.mem_of_getElem? hv)
  rw [J.kU zM] at h1;exact ⟨v,h1,aq.kR zM⟩
 ·rw [hle.row r hr] at hv;exact h.one r (Nat.lt_of_lt_of_le hr hle.n) v hv
 ·obtain ⟨h1,J⟩:=hle.own ho;obtain ⟨cur,t,q1,q2,q3⟩:=h.own (ah.cU h1).1 (ah.cU h1).2;exact ⟨cur,t,q1,q2,by omega⟩
theorem MW {σ:List Nat}:(ν.comp σ).le (ν.comp (σ++[aE])):=by
 intro j l h;unfold Nu.comp at h ⊢;cases e:σ[j]? with
 | none=>rw [e] at h; cases h
 | some s =>
  rw [List.getElem?_append_left (List.getElem?_eq_some_iff.1 e).1,e]
  rwa [e] at h
theorem Kg {k:Prop} {τ:List Nat}:∀ {σ:List Nat} {bs:List ah},BV H τ σ bs k→σ.length=bs.length∧(∀ (j s:Nat) (b:ah),σ[j]?=some s→bs[j]?=some b→∃ c,H[s]?=some (some c)∧CM τ b c∧b.rc=none)∧k
 | [],[],h=>⟨rfl,fun j s b h=>by simp at h,h⟩
 | s::σ,b::bs,h=>by
  have jc:b.rc=none∧gG H s fun c=>CM τ b c∧BV H τ σ bs k:=by
   cases b with
   | aL o e r=>exact ⟨rfl,h⟩
   | flat o n e g=>exact ⟨rfl,h⟩
   | b9 r=>exact h.elim
  obtain ⟨jc,h⟩:=jc;obtain ⟨c,h1,J,h3⟩:=gB h;obtain ⟨e1,e2,e3⟩:=Kg h3;refine ⟨by simp [e1],fun j s' b' hs hb=>?_,e3⟩
  cases j with
  | zero=>simp at hs hb; subst hs; subst hb; exact ⟨c,h1,J,jc⟩
  | succ j=>exact e2 j s' b' (by simpa using hs) (by simpa using hb)
 | [],_::_,h=>h.elim
 | _::_,[],h=>h.elim
theorem Me {τ:List Nat} {m:Nat}:∀ {xs l:List Value},mE τ m xs=some l→xs.length=l.length∧∀ (j:Nat) v,xs[j]?=some v→∃ v2,l[j]?=some v2∧cQ τ m v=some v2
 | [],l,h=>by rw [Fo h]; exact ⟨rfl,fun j v h=>by simp at h⟩
 | x::xs,l,h=>by
  obtain ⟨y,ys,rfl,h1,J⟩:=EM h;obtain ⟨h3,h4⟩:=Me J;refine ⟨by simp [h3],fun j v hj=>?_⟩
  cases j with
  | zero=>simp at hj; subst hj; exact ⟨y,rfl,h1⟩
  | succ j=>exact h4 j v (by simpa using hj)
theorem UA {τ:List Nat} {m:Nat} {v v2:Value} (h:cQ τ m v=some v2) (J:v2.oneCell'=true):v.oneCell'=true:=by
 cases m with
 | zero=>simp [cQ] at h
 | succ m =>
  unfold cQ at h
  split at h <;> first | rfl | (cases h; exact J) | (split at h <;> cases h <;> exact J) | (cases h)
theorem bP.ler {ν:Nu} {σ:List Nat} {l:Loc} {b c:ah} {w:World} (h:bP ν l c w) (hle:CM σ b c) (Ii:b.rc=none):bP (ν.comp σ) l b w:=by
 rcases hle with hle | ⟨o,e,r,r',rfl,rfl,hr⟩
 ·exact h.le ⟨hle,Ii⟩
 ·obtain ⟨h1,J⟩:=Me hr;have one:∀ q,q < 1→q=0:=fun q hq=>by omega
  refine ⟨h.ae,fun q hq=>?_,fun q hq j v hv=>?_,(fun h=>nomatch h),fun q hq v hv=>?_,(fun h=>nomatch h),(fun r h=>nomatch h),h.live⟩
  ·obtain rfl:=one q hq;exact h1.trans (h.len 0 hq)
  ·obtain rfl:=one q hq;obtain ⟨v2,h3,h4⟩:=J j v hv;obtain ⟨v',h5,h6⟩:=h.cell 0 hq j v2 h3;exact ⟨v',h5,wu 3 _ _ _ h4 h6⟩
  ·obtain rfl:=one q hq;obtain ⟨j,hj⟩:=List.getElem?_of_mem (show v∈r from hv)
   obtain ⟨v2,h3,h4⟩:=J j v hj;exact UA h4 (h.one 0 hq v2 (List.mem_of_getElem? h3))
theorem YW {c:Call} {f:Operand} (hc:c.callee=.value f) (Ij:∀ g S,Φ g=some S→CJ P g S)
  (h:bT tmps f fun fv=>match fv with
   | .func (.func g) x y=>qi tmps c.args.toList fun vs=>qN x.toList vs fun l=>qN l y.toList fun args=>GY Φ g args H aE k
   | _=>False):eO P (.call c) tmps H aE k:=by
 obtain ⟨fv,J,hf⟩:=cP h;clear h
 split at J
 ·rename_i g x y;obtain ⟨vs,h,fp⟩:=AY J;clear J;have J:=wc (wc h);clear h;have NF:∀ (o:Oper) (ν:Nu) (a:Act),(∀ z∈(Op.call c).operands,fc ν tmps a z)→∃ ys c7,a.eval f=.func (.func g) ⟨ys⟩ ⟨c7⟩∧bc ν (x.toList++vs++y.toList) ((ys++c.args.toList.map a.eval)++c7):=by
   intro o ν a ha;have fp:=fp ν a (fun z hz=>ha z (by simp [Op.operands,Call.operands,hc]; exact .inr (by simpa using hz)))
   obtain ⟨ys,c7,j7,h1,J⟩:=(hf ν a (ha f (by simp [Op.operands,Call.operands,hc]))).rW
   exact ⟨ys,c7,j7,(h1.append fp).append J⟩
  have Oe:∀ (o:Oper) (a:Act) (w:World) (ys c7:List Value),(∀ args w,(callFunc g args).run P w=.ok (.enter g args) w)→o.op=.call c→a.eval f=.func (.func g) ⟨ys⟩ ⟨c7⟩ →
    (execOp a.eval o).run P w=.ok (.enter g ⟨(ys++c.args.toList.map a.eval)++c7⟩) w:=by
   intro o a w ys c7 oi ho j7;simp only [execOp,ho,resolve,hc,j7,Deferred.ofValue,Sem.run_bind,Sem.run_pure,Result.andThen_ok,invoke,oi]
   congr 2
   apply Array.ext';simp
  have core:∀ (S:cI) (i:S.ι) (σ:List Nat) (v:Value),dc P g S→mE σ 3 (S.args i)=some (x.toList++vs++y.toList)→S.pre i→σ.length=(S.aj i).length →
    (∀ (ν:Nu) (w:World),bU ν H w→∀ id b,(S.aj i)[id]?=some b→∃ l,(ν.comp σ) id=some l∧bP (ν.comp σ) l b w)→cQ (σ++[aE]) 3 (S.val i)=some v→k v (S.new i)→eO P (.call c) tmps H aE k:=by
   intro S i σ v hs n8 hp hlen Hw hv h;refine ⟨_,_,h,fun o ν a w r n ho ha hH hn next Q hN=>⟨fun _ _=>trivial,?_⟩⟩
   obtain ⟨ys,c7,j7,n3⟩:=NF o ν a ha;have YX:=tP (wu (ν:=ν) 3) n8 n3;rw [Oper.semAt_eq _ _ _ (by simp [ho]),Oe o a w ys c7 hs.enters ho j7]
   refine ⟨fun h=>by simp [WF,Fence.wide] at h,?_⟩
   have me:bU (ν.comp σ) ((S.aj i).map some) w:=by
    have lh:∀ (id:Nat) (b:ah),((S.aj i).map some)[id]?=some (some b)→(S.aj i)[id]?=some b:=by
     intro id b bn;rw [List.getElem?_map] at bn;cases e:(S.aj i)[id]? with
     | none=>rw [e] at bn; cases bn
     | some b'=>rw [e] at bn; simp at bn; rw [bn]
    refine ⟨fun id b bn=>Hw ν w hH id b (lh id b bn),fun p q bp bq lp lq Ik _ _ ho=>?_⟩
    have:=hs.ro i bp (List.mem_of_getElem? (lh p bp Ik));rw [this] at ho; cases ho
   have gl:∀ id,(S.aj i).length≤id→(ν.comp σ) id=none:=by
    intro id bn;simp [Nu.comp,List.getElem?_eq_none (show σ.length≤id by omega)]
   have yW:=hs.calls i hp (ν.comp σ) _ w (n - 1) YX me gl;have yE:CallsIn (WF r) (n - 1) P g ⟨(ys++c.args.toList.map a.eval)++c7⟩ w fun e w'=>∃ v' ai,e=.returned v'∧ng (ν.comp σ) ai (S.aj i).length w w' (S.val i) v' (S.new i):=yW
   refine yE.mono ?_
   rintro e w' ⟨v',gm,rfl,hq⟩
   cases dt:S.new i with
   | none =>
    have e1:=hq.zF dt;refine hN _ _ ν ⟨ν.le_refl,fun _ _=>rfl,?_,hq.below,fun _=>rfl,(fun b hb=>by rw [dt] at hb; cases hb)⟩
    refine Fp 3 _ _ _ hv (hq.val.mono ?_);rw [e1]; exact MW
   | some b =>
    obtain ⟨l,h1,J,h3⟩:=hq.gW b dt;have hle:gm.le ((ν.add aE l).comp (σ++[aE])):=by
     intro j lj hj;by_cases e:j=(S.aj i).length
     ·subst e;rw [h1] at hj; cases hj;simp [Nu.comp,← hlen,Nu.add_same]
     ·rw [hq.only j e] at hj;have:=MW (aE:=aE) j lj hj;unfold Nu.comp at this ⊢;cases e2:(σ++[aE])[j]? with
      | none=>rw [e2] at this; cases this
      | some s =>
       rw [e2] at this;exact Nu.kl hn s lj this
    have sZ:=hs.fl i b dt;refine hN _ _ (ν.add aE l) ⟨Nu.kl hn,fun id bn=>Nu.iQ bn,Fp 3 _ _ _ hv (hq.val.mono hle),hq.below,(fun h=>by rw [dt] at h; cases h),(fun b' bF=>?_)⟩
    rw [dt] at bF; cases bF;exact ⟨l,Nu.add_same,J.Fq (J.plain sZ),h3⟩
  unfold GY at J
  split at J
  ·rename_i S hS;obtain ⟨i,hi,hp,h⟩:=J;have h:=vS h;have hs:bf P g S:=Ij g _ hS;refine ⟨_,none,h,fun o ν a w r n ho ha hH hn next Q hN=>⟨fun _ _=>trivial,?_⟩⟩
   obtain ⟨ys,c7,j7,n3⟩:=NF o ν a ha;rw [← hi] at n3;rw [Oper.semAt_eq _ _ _ (by simp [ho]),Oe o a w ys c7 hs.enters ho j7]
   refine ⟨fun h=>by simp [WF,Fence.wide] at h,?_⟩
   have yW:=hs.calls i hp ν _ w (n - 1) n3;have yE:CallsIn (WF r) (n - 1) P g ⟨(ys++c.args.toList.map a.eval)++c7⟩ w fun e w'=>∃ v',e=.returned v'∧aq ν (S.val i) v'∧Below w.heap.size w w':=yW
   refine yE.mono ?_
   rintro e w' ⟨v',rfl,hv,hb⟩
   exact hN _ _ ν ⟨ν.le_refl,fun _ _=>rfl,hv,hb,fun _=>rfl,(fun b hb=>by cases hb)⟩
  ·rename_i S hS;obtain ⟨i,σ,n8,hp,h⟩:=J;obtain ⟨hlen,oh,v,hv,h⟩:=Es h;refine core S i σ v (Ij g _ hS) n8 hp hlen (fun ν w hH id b bn=>?_) hv (vS h)
   have ak:id < σ.length:=by rw [hlen]; exact (List.getElem?_eq_some_iff.1 bn).1
   obtain ⟨cb,h1,J⟩:=oh id _ b (List.getElem?_eq_getElem ak) bn;obtain ⟨l,h3,h4⟩:=hH.aG _ _ h1;exact ⟨l,by simp [Nu.comp,List.getElem?_eq_getElem ak,h3],h4.le J⟩
  ·rename_i S hS;obtain ⟨i,σ,n8,hp,h⟩:=J;obtain ⟨hlen,oh,v,hv,h⟩:=Kg h;refine core S i σ v (Ij g _ hS) n8 hp hlen (fun ν w hH id b bn=>?_) hv (vS h)
   have ak:id < σ.length:=by rw [hlen]; exact (List.getElem?_eq_some_iff.1 bn).1
   obtain ⟨cb,h1,J,h5⟩:=oh id _ b (List.getElem?_eq_getElem ak) bn;obtain ⟨l,h3,h4⟩:=hH.aG _ _ h1;exact ⟨l,by simp [Nu.comp,List.getElem?_eq_getElem ak,h3],h4.ler J h5⟩
  ·exact J.elim
 ·exact J.elim
structure Kept (O:Nat→Prop) (w w':World):Prop where
 os:w'.os=w.os
 tape:w'.tape=w.tape
 output:w'.output=w.output
 size:w.heap.size≤w'.heap.size
 aG:∀ b,b < w.heap.size→¬ O b→w'.heap[b]?=w.heap[b]?
theorem Kept.refl {O:Nat→Prop} (w:World):Kept O w w:=⟨rfl,rfl,rfl,Nat.le_refl _,fun _ _ _=>rfl⟩
theorem Kept.below {O:Nat→Prop} {W w w':World} (h:Kept O W w) (hb:Below w.heap.size w w'):Kept O W w' :=
 ⟨hb.os.trans h.os,hb.tape.trans h.tape,hb.output.trans h.output,Nat.le_trans h.size hb.size,fun b h1 J=>(hb.block b (Nat.lt_of_lt_of_le h1 h.size)).trans (h.aG b h1 J)⟩
theorem Kept.then {O O':Nat→Prop} {W w w':World} (h:Kept O W w) (h':Kept O' w w') (hO:∀ b,O' b→O b∨W.heap.size≤b):Kept O W w' :=
 ⟨h'.os.trans h.os,h'.tape.trans h.tape,h'.output.trans h.output,Nat.le_trans h.size h'.size,fun b h1 J =>
  (h'.aG b (Nat.lt_of_lt_of_le h1 h.size) (fun h3=>(hO b h3).elim J (fun h4=>by omega))).trans (h.aG b h1 J)⟩
structure gi (P:Program) (f:FuncId) (F:FT):Prop where
 enters:∀ args w,(callFunc f args).run P w=.ok (.enter f args) w
 calls:∀ (args:List Value) (H:aw) (K:Value→aw→Prop),F args H K→∀ (ν:Nu) (as:List Value) (w:World) (n:Nat) (O:Nat→Prop),bc ν args as→bU ν H w→(∀ id,H.length≤id→ν id=none) →
  (∀ id b l,H[id]?=some (some b)→b.own=true→ν id=some l→O l.aG) →
  CallsIn Fence.wide n P f ⟨as⟩ w fun e w'=>∃ v v' ai H',e=.returned v'∧K v H'∧aq ai v v'∧ν.le ai∧bU ai H' w'∧(∀ id,H'.length≤id→ai id=none)∧Kept O w w' ∧
   ∀ id b l,H'[id]?=some (some b)→b.own=true→ai id=some l→O l.aG∨w.heap.size≤l.aG
structure EnvOk (P:Program) (E:Env):Prop where
 ty:∀ t ti,E.tt t=some ti→ay P t ti
 eq:∀ t∈E.eqs,∀ ti,E.tt t=some ti→xD P t ti.zero
 fn:∀ g S,E.Φ g=some S→CJ P g S
 ft:∀ g F,E.Ψ g=some F→gi P g F:=by intro g F h; cases h
def Gx (K:Value→aw→Prop) (ν:Nu) (O:Nat→Prop) (w:World) (e:Ending) (w':World):Prop :=
 ∃ v v' ai H',e=.returned v'∧K v H'∧aq ai v v'∧ν.le ai∧bU ai H' w'∧(∀ id,H'.length≤id→ai id=none)∧Kept O w w' ∧
   ∀ id b l,H'[id]?=some (some b)→b.own=true→ai id=some l→O l.aG∨w.heap.size≤l.aG
def PC (P:Program) (l:Nat) (G:FT) (bh:Nu):Prop :=
 ∀ (args:List Value) (H:aw) (K:Value→aw→Prop),G args H K→∀ (ν:Nu) (as:List Value) (w:World) (n:Nat) (O:Nat→Prop),bh.le ν→bc ν args as→bU ν H w→(∀ id,H.length≤id→ν id=none) →
  (∀ id b l,H[id]?=some (some b)→b.own=true→ν id=some l→O l.aG)→YieldAt Fence.wide n P l ⟨as⟩ w (Gx K ν O w)
structure zj (P:Program) (f:FuncId) (I:Nat→FT→Nu→FT):Prop where
 enters:∀ args w,(callFunc f args).run P w=.ok (.enter f args) w
 calls:∀ l G bh,PC P l G bh→∀ (args:List Value) (H:aw) (K:Value→aw→Prop),I l G bh args H K→∀ (ν:Nu) (as:List Value) (w:World) (n:Nat) (O:Nat→Prop),bh.le ν→bc ν args as→bU ν H w→(∀ id,H.length≤id→ν id=none) →
  (∀ id b l,H[id]?=some (some b)→b.own=true→ν id=some l→O l.aG)→CallsIn Fence.wide n P f ⟨as⟩ w (Gx K ν O w)
def gL (P:Program) (E:Env):Prop:=∀ f I,E.It f=some I→zj P f I
theorem gL.none {P:Program} {E:Env} (h:E.It=fun _=>none):gL P E:=fun f I hI=>by rw [h] at hI; cases hI
structure j4 (P:Program) (E:Env):Prop extends EnvOk P E where
 Il:gL P E
 ys:∀ l G r,E.ys=(l,G)::r→PC P l G E.nu
theorem EnvOk.x {P:Program} {E:Env} (h:EnvOk P E) (hI:gL P E) (hy:E.ys=[]):j4 P E:=⟨h,hI,fun l G r e=>by rw [hy] at e; cases e⟩
def qC {α:Type _}:List (Nat × α)→Nat→Option α
 | [],_=>none
 | c::l,g=>match Nat.beq c.1 g with
  | true=>some c.2
  | false=>qC l g
def uT {α:Type _} (Q:Nat→α→Prop):List (Nat × α)→Prop
 | []=>True
 | c::l=>Q c.1 c.2∧uT Q l
theorem wx {α:Type _} {Q:Nat→α→Prop}:∀ {l:List (Nat × α)} {g:Nat} {S:α},uT Q l→qC l g=some S→Q g S
 | c::l,g,S,hq,h=>by
  unfold qC at h
  split at h
  ·rename_i e; cases h; rw [← Nat.eq_of_beq_eq_true e]; exact hq.1
  ·exact wx hq.2 h
theorem A5 {E:Env} (hE:EnvOk P E) {op:Op} (h:lC E op tmps H aE k):eO P op tmps H aE k:=by
 cases op
 case move=>exact YR h
 case assign=>exact Uv h
 case pick=>exact YT h
 case alloc=>exact V1 hE.ty h
 case box=>exact aa6 hE.ty h
 case build=>exact V6 hE.ty h
 case load=>exact YU hE.ty h
 case fieldAddr=>exact Rs hE.ty h
 case field=>exact V2 hE.ty h
 case indexAddr=>exact Rt hE.ty h
 case index=>exact V5 hE.ty h
 case extract=>exact Tn h
 case makeFunc=>exact RU h
 case unOp=>exact acN h
 case binOp=>exact aa8 hE.ty hE.eq h
 case convert=>exact Tt hE.ty h
 case buildSlice=>exact Q7 hE.ty h
 case makeSlice=>exact Rv hE.ty h
 case slice=>exact V4 hE.ty h
 case call c =>
  unfold lC at h
  dsimp only at h
  split at h
  ·rename_i f hc;exact YW hc hE.fn h
  ·rename_i hc
   split at h
   ·rename_i x t hx ht;exact aa9 hE.ty hc (Array.ext' hx) (Array.ext' ht) h
   ·exact h.elim
  ·rename_i hc
   split at h
   ·rename_i x y hx;exact aba hc (Array.ext' hx) h
   ·exact h.elim
  ·rename_i hc
   split at h
   ·rename_i x t hx ht;exact abe hE.ty hc (Array.ext' hx) (Array.ext' ht) h
   ·exact h.elim
  ·rename_i hc
   split at h
   ·rename_i x y t u hx ht;exact RZ hE.ty hc (Array.ext' hx) (Array.ext' ht) h
   ·exact h.elim
  ·rename_i hc
   split at h
   ·rename_i x y hx;exact abb hc (Array.ext' hx) h
   ·exact h.elim
  ·exact h.elim
 all_goals exact h.elim
end
open Go Go.RowKit
abbrev SK:=List Value→aw→Prop
def FY:List (List Value)→Nat→Nat→List Value→(List (List Value)→Prop)→Prop
 | [],_,_,_,_=>False
 | r::rs,0,c,vs,k=>uR r c vs fun r'=>k (r'::rs)
 | r::rs,n+1,c,vs,k=>FY rs n c vs fun b6=>k (r::b6)
theorem JU:∀ {rs:List (List Value)} {n c:Nat} {vs:List Value} {k:List (List Value)→Prop},FY rs n c vs k →
  ∃ r r',rs[n]?=some r∧(r'.length=r.length∧c+vs.length≤r.length∧(∀ (j:Nat) v,vs[j]?=some v→r'[c+j]?=some v)∧∀ (j:Nat),(j < c∨c+vs.length≤j)→r'[j]?=r[j]?)∧k (rs.set n r')
 | [],_,_,_,_,h=>h.elim
 | r::rs,0,c,vs,k,h=>by
  obtain ⟨l',h0,h1⟩:=yh h;exact ⟨r,l',rfl,h1,by simpa using h0⟩
 | r::rs,n+1,c,vs,k,h=>by
  obtain ⟨q,q',h1,J,h3⟩:=JU (rs:=rs) h;exact ⟨q,q',by simpa using h1,J,by simpa using h3⟩
def jP:List Value→Bool
 | []=>true
 | v::l=>cG v && jP l
theorem x0:∀ {l:List Value},jP l=true→∀ v∈l,cG v=true
 | [],_,v,hv=>by simp at hv
 | v::l,h,u,hu=>by
  simp only [jP,Bool.and_eq_true] at h;rcases List.mem_cons.1 hu with e | e
  ·rw [e]; exact h.1
  ·exact x0 h.2 u e
def Mf (b:ah) (row bZ:Nat) (cs:List Value) (k:ah→Prop):Prop :=
 match b with
 | .aL true ae rows=>FY rows row bZ cs fun iS=>k (.aL true ae iS)
 | .flat true n ae get=>row < n∧match jP cs with
  | true=>uR (get row) bZ cs fun r'=>k (.flat true n ae fun j=>if j=row then r' else get j)
  | false=>False
 | _=>False
def B5 (E:Env) (tmps:List Value) (H:aw) (t:TypeId) (x y:Operand) (k:SK):Prop :=
 bT tmps x fun av=>match av with
  | .pointer (some ⟨id,row,sp⟩)=>bT tmps y fun v=>wY v fun cs=>cJ E.tt t fun ti=>match p6 cs ti.size with
   | true=>gG H id fun b=>Mf b row (sp.getD 0) cs fun b'=>jv H id (some b') fun H'=>k tmps H'
   | false=>False
  | _=>False
def dg (tmps:List Value) (d:Option Tmp) (v:Value) (k:List Value→Prop):Prop :=
 match d with
 | none=>k tmps
 | some d=>xB tmps d v k
def uU (H:aw) (nb:Option ah) (k:aw→Prop):Prop :=
 match nb with
 | none=>k H
 | some b=>o8 H (some b) k
structure Fr where
 W:World
 O:Nat→Prop
 ν:Nu
 n0:Nat
 fresh:∀ id,n0≤id→ν id=none
structure lE (F:Fr) (E:Env):Prop where
 n0:F.n0≤E.base
 nu:E.nu.le F.ν
def Marks (n:Nat) (ds:List Deferred) (w:World):Prop :=
 ds.Nodup∧∀ d∈ds,∃ D,d={ target:=.collected D,args:=#[] }∧n≤D∧w.heap[D]?=some (.deferred (some []))
theorem Marks.nil (n:Nat) (w:World):Marks n [] w:=⟨.nil,fun d hd=>by cases hd⟩
theorem A6 {n:Nat} {ds:List Deferred} {w w':World} (h:Marks n ds w) (hk:∀ D:Nat,w.heap[D]?=some (Obj.deferred (some []))→w'.heap[D]?=some (Obj.deferred (some []))):Marks n ds w' :=
 ⟨h.1,fun d hd=>let ⟨D,h1,J,h3⟩:=h.2 d hd; ⟨D,h1,J,hk D h3⟩⟩
theorem Marks.below {n:Nat} {ds:List Deferred} {w w':World} (h:Marks n ds w) (hb:Below w.heap.size w w'):Marks n ds w' :=
 A6 h fun D hD=>(hb.block D (Array.getElem?_eq_some_iff.1 hD).1).trans hD
theorem Marks.gx {n:Nat} {ds:List Deferred} {w w':World} (h:Marks n ds w) {b:Nat} {cur:Array Value} {t:TypeId} {z:Nat × Nat} (hb:w.heap[b]?=some (Obj.cells cur t z)) (hk:∀ q:Nat,q≠b→w'.heap[q]?=w.heap[q]?):Marks n ds w' :=
 A6 h fun D hD=>(hk D (fun e=>by rw [e,hb] at hD; cases hD)).trans hD
structure bw (F:Fr) (ν:Nu) (tmps:List Value) (H:aw) (a:Act) (w:World):Prop where
 tm:bc ν tmps a.tmps.toList
 df:Marks F.W.heap.size a.defers w
 hp:bU ν H w
 fr:∀ id,H.length≤id→ν id=none
 kp:Kept F.O F.W w
 own:∀ id b l,H[id]?=some (some b)→b.own=true→ν id=some l→F.O l.aG∨F.W.heap.size≤l.aG
 mono:F.ν.le ν
section
variable {P:Program} {E:Env} {r:Option Nat} {n:Nat} {F:Fr}
theorem bw.mB {ν:Nu} {tmps:List Value} {H:aw} {a:Act} {w:World} (h:bw F ν tmps H a w) (x:Operand):fc ν tmps a x:=by
 intro t ht v hv;obtain ⟨v',h1,J⟩:=h.tm.get hv;exact ⟨v',by simpa using h1,J⟩
theorem rS (a:Act) (d:Tmp) (v:Value):(a.put (some d) v).tmps.toList=a.tmps.toList.set d v:=by simp [Act.put]
theorem bw.dst {ν:Nu} {tmps:List Value} {H:aw} {a:Act} {w:World} (h:bw F ν tmps H a w) {d:Option Tmp} {v v':Value} (hv:aq ν v v') {k:List Value→Prop} (hk:dg tmps d v k) :
  ∃ t',k t'∧bw F ν t' H (a.put d v') w:=by
 cases d with
 | none=>exact ⟨tmps,hk,h⟩
 | some d =>
  obtain ⟨h1,J⟩:=oQ hk;exact ⟨_,J,⟨by rw [rS]; exact h.tm.set hv d,h.df,h.hp,h.fr,h.kp,h.own,h.mono⟩⟩
theorem bw.quiet {ν ai:Nu} {tmps:List Value} {H:aw} {a:Act} {w w':World} (h:bw F ν tmps H a w) {v v':Value} {nb:Option ah} (hq:ng ν ai H.length w w' v v' nb)
  {k:aw→Prop} (hk:uU H nb k):∃ H',k H'∧bw F ai tmps H' a w':=by
 have hb:=hq.below;cases nb with
 | none =>
  have:=hq.zF rfl;subst this;exact ⟨H,hk,⟨h.tm,h.df.below hb,h.hp.below hb,h.fr,h.kp.below hb,h.own,h.mono⟩⟩
 | some b =>
  obtain ⟨l,hl,hB,hle⟩:=hq.gW b rfl;refine ⟨_,x9 hk,⟨h.tm.mono hq.le,h.df.below hb,?_,fun id bn=>?_,h.kp.below hb,fun id c lc hc ho dD=>?_,Nu.le_trans h.mono hq.le⟩⟩
  ·have lg:ai=ν.add H.length l:=by
    funext id
    by_cases e:id=H.length
    ·subst e; rw [hl,Nu.add_same]
    ·rw [hq.only id e,Nu.iQ e]
   subst lg;refine h.hp.push hb (h.fr _ (Nat.le_refl _)) _ (fun j c hj=>?_) hle hB
   rw [List.getElem?_append] at hj
   split at hj
   ·rename_i ak; exact .inr ⟨by omega,hj⟩
   ·rename_i dZ;have:j - H.length=0:=by
     have:=(List.getElem?_eq_some_iff.1 hj).1;simp at this; omega
    rw [this] at hj;simp at hj;exact .inl ⟨by omega,hj.symm⟩
  ·rw [List.length_append,List.length_singleton] at bn;rw [hq.only id (by omega)]
   exact h.fr id (by omega)
  ·rw [List.getElem?_append] at hc
   split at hc
   ·rename_i ak;have aH:id≠H.length:=by omega
    rw [hq.only id aH] at dD;exact h.own id c lc hc ho dD
   ·rename_i dZ;have:id - H.length=0:=by
     have:=(List.getElem?_eq_some_iff.1 hc).1;simp at this; omega
    have:id=H.length:=by omega
    subst this;rw [hl] at dD; cases dD;exact .inr (Nat.le_trans h.kp.size hle)
structure xM (b b':ah) (row bZ:Nat) (cs:List Value):Prop where
 own:b.n7=true
 OR:b'.n7=true
 n:b'.n=b.n
 ae:b'.ae=b.ae
 flat:b'.jR=b.jR
 lt:row < b.n
 len:(b'.row row).length=(b.row row).length
 fit:bZ+cs.length≤(b.row row).length
 De:∀ j v,cs[j]?=some v→(b'.row row)[bZ+j]?=some v
 out:∀ j,(j < bZ∨bZ+cs.length≤j)→(b'.row row)[j]?=(b.row row)[j]?
 Df:∀ q,q≠row→b'.row q=b.row q
 pl:b.jR=true→∀ v∈cs,cG v=true
theorem QW {b:ah} {row bZ:Nat} {cs:List Value} {k:ah→Prop} (h:Mf b row bZ cs k):∃ b',xM b b' row bZ cs∧k b':=by
 cases b with
 | aL o ae rows =>
  cases o with
  | false=>exact h.elim
  | true =>
   obtain ⟨q,l',h1,⟨k1,k2,k3,k4⟩,h3⟩:=JU h;have ak:row < rows.length:=(List.getElem?_eq_some_iff.1 h1).1;have e1:(ah.aL true ae (rows.set row l')).row row=l':=by simp [ah.row,List.getD,ak]
   have e2:(ah.aL true ae rows).row row=q:=by simp [ah.row,List.getD,h1]
   refine ⟨.aL true ae (rows.set row l'),⟨rfl,rfl,by simp [ah.n],rfl,rfl,ak,by rw [e1,e2]; exact k1,by rw [e2]; exact k2,by rw [e1]; exact k3,by rw [e1,e2]; exact k4,fun p hp=>?_,fun h=>by simp [ah.jR] at h⟩,h3⟩
   simp [ah.row,List.getD,List.getElem?_set,Ne.symm hp]
 | flat o n ae get =>
  cases o with
  | false=>exact h.elim
  | true =>
   obtain ⟨ak,h⟩:=h
   split at h
   ·rename_i hs;obtain ⟨l',h0,k1,k2,k3,k4⟩:=yh h;have e1:(ah.flat true n ae fun j=>if j=row then l' else get j).row row=l':=by simp [ah.row]
    exact ⟨.flat true n ae fun j=>if j=row then l' else get j,⟨rfl,rfl,rfl,rfl,rfl,ak,by rw [e1]; exact k1,k2,by rw [e1]; exact k3,by rw [e1]; exact k4,fun p hp=>by simp [ah.row,hp],fun _=>x0 hs⟩,h0⟩
   ·exact h.elim
 | b9 r=>exact h.elim
theorem xM.o {b b':ah} {row bZ:Nat} {cs:List Value} (h:xM b b' row bZ cs):b.own=true:=(ah.cU h.own).1
theorem xM.o' {b b':ah} {row bZ:Nat} {cs:List Value} (h:xM b b' row bZ cs):b'.own=true:=(ah.cU h.OR).1
theorem oM (b:Nat):∀ (vs:List Value) (o:Nat) (w:World),(w.setCells b o vs).heap.size=w.heap.size
 | [],_,_=>rfl
 | v::r,o,w=>by rw [World.setCells,oM b r]; simp [World.setCell]
theorem rH (b:Nat):∀ (vs:List Value) (o:Nat) (w:World) (k:Nat),k≠b→(w.setCells b o vs).heap[k]?=w.heap[k]?
 | [],_,_,_,_=>rfl
 | v::r,o,w,k,hk=>by rw [World.setCells,rH b r _ _ k hk]; exact Below.heap_setCell _ _ _ _ hk
theorem AB (b:Nat):∀ (vs:List Value) (o:Nat) (w:World) (cur:Array Value) (t:TypeId),w.heap[b]?=some (.cells cur t (0,0)) →
  ∃ pr,(w.setCells b o vs).heap[b]?=some (.cells pr t (0,0))∧pr.size=cur.size
 | [],_,w,cur,t,h=>⟨cur,h,rfl⟩
 | v::r,o,w,cur,t,h=>by
  rw [World.setCells];have h1:(w.setCell ⟨b,o,none⟩ v).heap[b]?=some (.cells (cur.setIfInBounds o v) t (0,0)):=by
   simp [World.setCell,Array.getElem?_modify,h]
  obtain ⟨pr,J,h3⟩:=AB b r (o+1) _ _ t h1;exact ⟨pr,J,by rw [h3]; simp⟩
theorem vT (b:Nat):∀ (vs:List Value) (o:Nat) (w:World),(w.setCells b o vs).os=w.os∧(w.setCells b o vs).tape=w.tape∧(w.setCells b o vs).output=w.output
 | [],_,_=>⟨rfl,rfl,rfl⟩
 | v::r,o,w=>by rw [World.setCells]; exact vT b r _ _
theorem bU.store {ν:Nu} {H:aw} {w:World} (h:bU ν H w) {id:Nat} {b b':ah} {l:Loc} (hb:H[id]?=some (some b)) (hl:ν id=some l) {row bZ:Nat} {cs eF:List Value}
  (hu:xM b b' row bZ cs) (hr:bc ν cs eF) (h1:∀ v∈cs,v.oneCell'=true) :
  bU ν (H.set id (some b')) (w.setCells l.aG (l.base+row*l.ae+bZ) eF):=by
 obtain ⟨l',cB,hB⟩:=h.aG id b hb;rw [hl] at cB; cases cB;have bn:id < H.length:=(List.getElem?_eq_some_iff.1 hb).1;have lh:∀ j c,(H.set id (some b'))[j]?=some (some c)→(j=id∧c=b')∨(j≠id∧H[j]?=some (some c)):=by
  intro j c hj;by_cases e:j=id
  ·subst e; rw [List.getElem?_set_self bn] at hj; cases hj; exact .inl ⟨rfl,rfl⟩
  ·rw [List.getElem?_set_ne (Ne.symm e)] at hj; exact .inr ⟨e,hj⟩
 have Hv:=hB.ae;have hlen:=hB.len row hu.lt;obtain ⟨cur,t,j5,fM,Of⟩:=hB.own hu.o (ah.cU hu.own).2;have eP:eF.length=cs.length:=hr.1.symm
 -- the cells of other places
 have dv:∀ r j,r < b.n→j < b.ae→(r≠row∨j < bZ∨bZ+cs.length≤j)→(w.setCells l.aG (l.base+row*l.ae+bZ) eF).cell? (l.at r j)=w.cell? (l.at r j):=by
  intro r j jy hj aH;refine World.cell?_setCells_out l.aG _ _ _ _ (fun _ _=>?_)
  have xE:=hu.fit;rw [hlen] at xE;simp only [Loc.at,Hv,eP];rcases Nat.lt_trichotomy r row with h | h | h
  ·left
   have:(r+1)*b.ae≤row*b.ae:=Nat.mul_le_mul_right _ h;rw [Nat.add_mul] at this;omega
  ·subst h;rcases aH with aH | aH | aH
   ·exact absurd rfl aH
   ·left; omega
   ·right; omega
  ·right
   have:(row+1)*b.ae≤r*b.ae:=Nat.mul_le_mul_right _ h;rw [Nat.add_mul] at this;omega
 have mc:∀ j v,eF[j]?=some v→(w.setCells l.aG (l.base+row*l.ae+bZ) eF).cell? (l.at row (bZ+j))=some v:=by
  intro j v hv;have hj:j < eF.length:=(List.getElem?_eq_some_iff.1 hv).1;have xE:=hu.fit;have:=World.cell?_setCells_in l.aG eF (l.base+row*l.ae+bZ) w (fun m hm=>by
   have Ih:bZ+m < (b.row row).length:=by omega
   obtain ⟨u,vl,_⟩:=hB.cell row hu.lt (bZ+m) _ (List.getElem?_eq_getElem Ih);simp only [Loc.at] at vl;rw [show l.base+row*l.ae+bZ+m=l.base+row*l.ae+(bZ+m) by omega,vl]; rfl) j hj
  simp only [Loc.at];rw [show l.base+row*l.ae+(bZ+j)=l.base+row*l.ae+bZ+j by omega,this]
  rw [← hv];simp
 refine ⟨fun j c hj=>?_,fun i j bi bj li lj hi hj aH ho e1 e2=>?_⟩
 ·rcases lh j c hj with ⟨rfl,rfl⟩ | ⟨aH,gk⟩
  ·refine ⟨l,hl,⟨by rw [hu.ae]; exact hB.ae,fun q hq=>?_,fun q hq j v hv=>?_,fun hf q hq v hv=>?_,fun q hq v hv=>?_,fun _ _=>?_,(fun r h=>by rw [(ah.cU hu.OR).2] at h; cases h),?_⟩⟩
   ·rw [hu.n] at hq;by_cases e:q=row
    ·subst e; rw [hu.len,hu.ae]; exact hlen
    ·rw [hu.Df q e,hu.ae]; exact hB.len q hq
   ·rw [hu.n] at hq;by_cases e:q=row
    ·subst e;by_cases hj:bZ≤j∧j < bZ+cs.length
     ·have Dg:j - bZ < cs.length:=by omega
      have:=hu.De (j - bZ) _ (List.getElem?_eq_getElem Dg);rw [show bZ+(j - bZ)=j by omega,hv] at this
      cases this;obtain ⟨v',J,h3⟩:=hr.get (List.getElem?_eq_getElem Dg);have:=mc (j - bZ) v' J;rw [show bZ+(j - bZ)=j by omega] at this
      exact ⟨v',this,h3⟩
     ·have vm:=hu.out j (by omega)
      rw [vm] at hv;obtain ⟨v',J,h3⟩:=hB.cell q hq j v hv;have gk:j < b.ae:=by rw [← hlen]; exact (List.getElem?_eq_some_iff.1 hv).1
      exact ⟨v',by rw [dv q j hq gk (.inr (by omega))]; exact J,h3⟩
    ·rw [hu.Df q e] at hv;obtain ⟨v',J,h3⟩:=hB.cell q hq j v hv;have gk:j < b.ae:=by rw [← hB.len q hq]; exact (List.getElem?_eq_some_iff.1 hv).1
     exact ⟨v',by rw [dv q j hq gk (.inl e)]; exact J,h3⟩
   ·rw [hu.n] at hq; rw [hu.flat] at hf;by_cases e:q=row
    ·subst e;obtain ⟨j,hj,rfl⟩:=List.getElem_of_mem hv;by_cases Dg:bZ≤j∧j < bZ+cs.length
     ·have:=hu.De (j - bZ) _ (List.getElem?_eq_getElem (by omega:j - bZ < cs.length))
      rw [show bZ+(j - bZ)=j by omega,List.getElem?_eq_getElem hj] at this
      injection this with this
      rw [this];exact hu.pl hf _ (List.getElem_mem _)
     ·have:=hu.out j (by omega)
      rw [List.getElem?_eq_getElem hj] at this;exact hB.plain hf q hq _ (List.mem_of_getElem? this.symm)
    ·rw [hu.Df q e] at hv; exact hB.plain hf q hq v hv
   ·rw [hu.n] at hq;by_cases e:q=row
    ·subst e;obtain ⟨j,hj,rfl⟩:=List.getElem_of_mem hv;by_cases Dg:bZ≤j∧j < bZ+cs.length
     ·have:=hu.De (j - bZ) _ (List.getElem?_eq_getElem (by omega:j - bZ < cs.length))
      rw [show bZ+(j - bZ)=j by omega,List.getElem?_eq_getElem hj] at this
      injection this with this
      rw [this];exact h1 _ (List.getElem_mem _)
     ·have:=hu.out j (by omega)
      rw [List.getElem?_eq_getElem hj] at this;exact hB.one q hq _ (List.mem_of_getElem? this.symm)
    ·rw [hu.Df q e] at hv; exact hB.one q hq v hv
   ·obtain ⟨pr,J,h3⟩:=AB l.aG eF (l.base+row*l.ae+bZ) w cur t j5;exact ⟨pr,t,J,by rw [h3]; exact fM,by rw [hu.n]; exact Of⟩
   ·rw [oM]; exact hB.live
  ·obtain ⟨lj,cY,q9⟩:=h.aG j c gk;have Hx:=h.sep id j b c l lj hb gk (Ne.symm aH) hu.o hl cY;exact ⟨lj,cY,q9.same (rH _ _ _ _ _ (Ne.symm Hx)) (by rw [oM]; exact Nat.le_refl _)⟩
 ·rcases lh i bi hi with ⟨rfl,rfl⟩ | ⟨hni,aP⟩ <;> rcases lh j bj hj with ⟨rfl,rfl⟩ | ⟨hnj,gk⟩
  ·exact absurd rfl aH
  ·exact h.sep _ j b bj li lj hb gk aH hu.o e1 e2
  ·exact h.sep i _ bi b li lj aP hb aH ho e1 e2
  ·exact h.sep i j bi bj li lj aP gk aH ho e1 e2
theorem KC (hE:EnvOk P E) {o:Oper} {t:TypeId} {x y:Operand} (ho:o.op=.store t x y) {ν:Nu} {tmps ts:List Value} {H:aw} {a b:Act} {w:World} (hi:bw F ν ts H b w) {k:SK}
  (hx:fc ν tmps a x) (hy:fc ν tmps a y) (h:B5 E tmps H t x y k):∃ w' H',(execOp a.eval o).run P w=.ok .skip w'∧bw F ν ts H' b w'∧k tmps H':=by
 obtain ⟨av,J,hv⟩:=kQ h hx;clear h
 split at J
 ·rename_i id row sp;obtain ⟨v,h,hvv⟩:=kQ J hy;clear J;have J:=AK h;clear h;obtain ⟨ti,ht,h⟩:=cN J;clear J
  split at h
  ·rename_i ba;obtain ⟨hlen,qO⟩:=xZ ba;obtain ⟨bl,hb,J⟩:=gB h;clear h;obtain ⟨b',hu,h⟩:=QW J;clear J;obtain ⟨ak,J⟩:=mq h;clear h;obtain ⟨l,hl,he⟩:=hv.oX;obtain ⟨l',cB,hB⟩:=hi.hp.aG id bl hb;rw [hl] at cB; cases cB;have hc:=hvv.cells;obtain ⟨cur,tt',j5,fM,Of⟩:=hB.own hu.o (ah.cU hu.own).2;obtain ⟨i,iG,gy,_⟩:=(hE.ty _ _ ht).info;have abf:∀ u∈(a.eval y).cells.toList,u.oneCell'=true:=by
    intro u s6;obtain ⟨j,hj,rfl⟩:=List.getElem_of_mem s6;have gk:j < v.cells.toList.length:=by rw [hc.1]; exact hj
    have:=hc.2 j _ _ (List.getElem?_eq_getElem gk) (List.getElem?_eq_getElem hj);rw [this.BC]; exact qO _ (List.getElem_mem _)
   have ao:(storeCells (l.at row (sp.getD 0)) (a.eval y).cells.toList).run P w=.ok () (w.setCells l.aG (l.base+row*l.ae+sp.getD 0) (a.eval y).cells.toList):=by
    have:=run_storeCells_cells (P:=P) l.aG (l.base+row*l.ae+sp.getD 0) (a.eval y).cells.toList 0 w (fun j hj=>by
     have xE:=hu.fit;rw [hc.1] at xE;obtain ⟨u,vl,_⟩:=hB.cell row hu.lt (sp.getD 0+j) _ (List.getElem?_eq_getElem (by omega))
     simp only [Loc.at] at vl;rw [show l.base+row*l.ae+sp.getD 0+0+j=l.base+row*l.ae+(sp.getD 0+j) by omega,vl]; rfl) (fun j hj=>by
     simp [World.frozen?,j5]) abf
    simpa [Loc.at] using this
   have aU:(a.eval y).cells.size=i.size:=by rw [gy,← hlen,hc.1]; simp
   have bB:(execOp a.eval o).run P w=.ok .skip (w.setCells l.aG (l.base+row*l.ae+sp.getD 0) (a.eval y).cells.toList):=by
    simp [execOp,ho,Instr.storeAt,he,Instr.sureAddr,storeVar,gq iG,aU,ao]
   have aP:bw F ν ts (H.set id (some b')) b (w.setCells l.aG (l.base+row*l.ae+sp.getD 0) (a.eval y).cells.toList):=by
    obtain ⟨o1,o2,o3⟩:=vT l.aG (a.eval y).cells.toList (l.base+row*l.ae+sp.getD 0) w;refine ⟨hi.tm,hi.df.gx j5 (fun q hq=>rH _ _ _ _ _ hq),hi.hp.store hb hl hu hc qO,fun j hj=>hi.fr j (by simpa using hj),⟨o1.trans hi.kp.os,o2.trans hi.kp.tape,o3.trans hi.kp.output,by rw [oM]; exact hi.kp.size,fun q h1 J=>?_⟩,fun j c lc hj oj dD=>?_,hi.mono⟩
    ·rw [rH]
     ·exact hi.kp.aG q h1 J
     ·intro e;subst e;rcases hi.own id bl l hb hu.o hl with h | h
      ·exact J h
      ·omega
    ·by_cases e:j=id
     ·subst e;rw [hl] at dD; cases dD;exact hi.own j bl l hb hu.o hl
     ·rw [List.getElem?_set_ne (Ne.symm e)] at hj;exact hi.own j c lc hj oj dD
   exact ⟨_,_,bB,aP,J⟩
  ·exact h.elim
 ·exact J.elim
theorem Rx (hE:EnvOk P E) {o:Oper} {t:TypeId} {x y:Operand} (ho:o.op=.store t x y) {ν:Nu} {tmps:List Value} {H:aw} {a:Act} {w:World} (hi:bw F ν tmps H a w) {k:SK}
  (h:B5 E tmps H t x y fun t' H'=>dg t' o.dst undef fun vn=>k vn H') {next:Act→World→Prop} {Q:Exit→Act→World→Prop}
  (hk:∀ ν t' H' a' w',bw F ν t' H' a' w'→k t' H'→next a' w'):o.wpIn (WF r) n P a w next Q:=by
 obtain ⟨w',H',bB,aP,J⟩:=KC hE ho hi (hi.mB x) (hi.mB y) h;obtain ⟨t',Im,acQ⟩:=aP.dst (.undef ν) J;refine ⟨fun _ _=>trivial,?_⟩
 rw [Oper.semAt_eq _ _ _ (by simp [ho]),bB]
 exact hk _ _ _ _ _ acQ Im
end
open Go Go.RowKit
def o9 (id:Nat):Nat→Value→Bool
 | 0,_=>true
 | k+1,v=>match v with
  | .bool _ | .int _ _ | .string _ | .pointer none | .slice none _ _ | .nilFunc | .chan none=>false
  | .pointer (some ⟨j,_,_⟩)=>Nat.beq j id
  | .slice (some ⟨j,_,_⟩) _ _=>Nat.beq j id
  | .func _ ⟨l⟩ ⟨m⟩=>l.foldr (fun v acc=>o9 id k v || acc) false || m.foldr (fun v acc=>o9 id k v || acc) false
  | .agg ⟨l⟩=>l.foldr (fun v acc=>o9 id k v || acc) false
  | .tuple ⟨l⟩=>l.foldr (fun v acc=>o9 id k v || acc) false
  | _=>true
def ss (id k:Nat) (l:List Value):Bool:=l.foldr (fun v acc=>o9 id k v || acc) false
theorem vY {id k:Nat}:∀ {l:List Value},ss id k l=false→∀ v∈l,o9 id k v=false
 | [],_,v,hv=>by simp at hv
 | x::l,h,v,hv=>by
  simp only [ss,List.foldr_cons,Bool.or_eq_false_iff] at h;rcases List.mem_cons.1 hv with e | e
  ·rw [e]; exact h.1
  ·exact vY (l:=l) h.2 v e
def Nu.off (ν ai:Nu) (id:Nat):Prop:=∀ j,j≠id→ai j=ν j
theorem bc.map {ν ai:Nu} {xs ys:List Value} (h:bc ν xs ys) (hm:∀ v∈xs,∀ r,aq ν v r→aq ai v r):bc ai xs ys :=
 ⟨h.1,fun i x y hx hy=>hm x (List.mem_of_getElem? hx) y (h.2 i x y hx hy)⟩
theorem D6 {id:Nat} {ν ai:Nu} (gO:ν.off ai id):∀ (k:Nat) (v r:Value),o9 id k v=false→aq ν v r→aq ai v r:=by
 intro k
 induction k with
 | zero=>intro v r h; simp [o9] at h
 | succ k ih =>
  intro v r h hr;cases hr with
  | bool b=>exact .bool b
  | int q n=>exact .int q n
  | str s=>exact .str s
  | mC=>exact .mC
  | ptr j row sp l hl=>exact .ptr j row sp l (by rw [gO j (Nat.ne_of_beq_eq_false h)]; exact hl)
  | ju=>exact .ju
  | slice j row n c c' l hl hc hn hr=>exact .slice j row n c c' l (by rw [gO j (Nat.ne_of_beq_eq_false h)]; exact hl) hc hn hr
  | void j row c a hc=>exact .void j row c a hc
  | l9 j row m n c' l hl hm hn hr=>exact .l9 j row m n c' l (by rw [gO j (Nat.ne_of_beq_eq_false h)]; exact hl) hm hn hr
  | lf j row a=>exact .lf j row a
  | mD=>exact .mD
  | func fn xs ys nD c7 h1 J h3 h4 =>
   have h:(ss id k xs || ss id k nD)=false:=h;rw [Bool.or_eq_false_iff] at h;have a1:=bc.map (ai:=ai) ⟨h1,J⟩ (fun v hv r hr=>ih v r (vY h.1 v hv) hr)
   have a2:=bc.map (ai:=ai) ⟨h3,h4⟩ (fun v hv r hr=>ih v r (vY h.2 v hv) hr)
   exact .func fn _ _ _ _ a1.1 a1.2 a2.1 a2.2
  | agg xs ys h1 J =>
   have h:ss id k xs=false:=h;have a1:=bc.map (ai:=ai) ⟨h1,J⟩ (fun v hv r hr=>ih v r (vY h v hv) hr)
   exact .agg _ _ a1.1 a1.2
  | tuple xs ys h1 J =>
   have h:ss id k xs=false:=h;have a1:=bc.map (ai:=ai) ⟨h1,J⟩ (fun v hv r hr=>ih v r (vY h v hv) hr)
   exact .tuple _ _ a1.1 a1.2
  | dead=>exact .dead _ (by assumption)
def qD (id:Nat):Nat→Value→Option Value
 | 0,_=>none
 | k+1,v=>match o9 id 3 v with
  | false=>some v
  | true=>match v.oneCell' with
   | true=>some (.chan none)
   | false=>match v with
    | .agg ⟨l⟩=>match l.foldr (fun v acc=>match qD id k v,acc with | some x,some xs=>some (x::xs) | _,_=>none) (some []) with | some l'=>some (.agg ⟨l'⟩) | none=>none
    | .tuple ⟨l⟩=>match l.foldr (fun v acc=>match qD id k v,acc with | some x,some xs=>some (x::xs) | _,_=>none) (some []) with | some l'=>some (.tuple ⟨l'⟩) | none=>none
    | _=>none
def yX (id k:Nat) (l:List Value):Option (List Value):=l.foldr (fun v acc=>match qD id k v,acc with | some x,some xs=>some (x::xs) | _,_=>none) (some [])
theorem R0 {id m:Nat} {x:Value} {xs l:List Value} (h:yX id m (x::xs)=some l):∃ y ys,l=y::ys∧qD id m x=some y∧yX id m xs=some ys:=by
 unfold yX at h;rw [List.foldr_cons] at h
 split at h
 ·rename_i y ys h1 J;exact ⟨y,ys,(Option.some.inj h).symm,h1,J⟩
 ·cases h
theorem EN {id m:Nat} {ν ai:Nu} (h:∀ v v2 r,qD id m v=some v2→aq ν v r→aq ai v2 r):∀ {xs l rs:List Value},yX id m xs=some l→bc ν xs rs→bc ai l rs
 | [],l,rs,h1,J=>by
  have:l=[]:=by simp [yX] at h1; exact h1
  rw [this,J.iP]; exact .nil _
 | x::xs,l,rs,h1,J=>by
  obtain ⟨y,ys,rfl,e1,e2⟩:=R0 h1;obtain ⟨r,b6,rfl,k1,k2⟩:=J.jl;exact .cons (h _ _ _ e1 k1) (EN h e2 k2)
theorem Tu {id:Nat} {ν ai:Nu} (gO:ν.off ai id):∀ (m:Nat) (v v2 r:Value),qD id m v=some v2→aq ν v r→aq ai v2 r:=by
 intro m
 induction m with
 | zero=>intro v v2 r h; simp [qD] at h
 | succ m ih =>
  intro v v2 r h hr;unfold qD at h
  split at h
  ·rename_i hm;cases h;exact D6 gO 3 v r hm hr
  ·split at h
   ·rename_i h1;cases h;exact .dead _ (by rw [hr.BC]; exact h1)
   ·split at h
    ·split at h
     ·rename_i l l' e;cases h;obtain ⟨ys,rfl,hy⟩:=hr.ug;have:=EN (ih) e hy;exact .agg _ _ this.1 this.2
     ·cases h
    ·split at h
     ·rename_i l l' e;cases h;obtain ⟨ys,rfl,hy⟩:=hr.nT;have:=EN (ih) e hy;exact .tuple _ _ this.1 this.2
     ·cases h
    ·cases h
def zk {α:Type} (o:Option α) (k:α→Prop):Prop:=match o with | some a=>k a | none=>False
theorem EO {α:Type} {o:Option α} {k:α→Prop} (h:zk o k):∃ a,o=some a∧k a:=by
 unfold zk at h; split at h
 ·exact ⟨_,rfl,h⟩
 ·exact h.elim
theorem D7 {P:Value→Value→Prop}:∀ {ys:List Value},(∀ y∈ys,∃ x,P x y)→∃ xs:List Value,xs.length=ys.length∧∀ (i:Nat) x y,xs[i]?=some x→ys[i]?=some y→P x y
 | [],_=>⟨[],rfl,fun i x y hx=>by simp at hx⟩
 | y::ys,h=>by
  obtain ⟨x,hx⟩:=h y (by simp)
  obtain ⟨xs,h1,J⟩:=D7 (ys:=ys) (fun z hz=>h z (by simp [hz]))
  refine ⟨x::xs,by simp [h1],fun i a b ha hb=>?_⟩
  cases i with
  | zero=>simp at ha hb; subst ha; subst hb; exact hx
  | succ i=>exact J i a b (by simpa using ha) (by simpa using hb)
theorem aq.any {ν:Nu} {v r:Value} (h:aq ν v r):∃ x,∀ ai,aq ai x r:=by
 induction h with
 | agg xs ys h1 _ ih =>
  obtain ⟨zs,e1,e2⟩:=D7 (P:=fun x y=>∀ ai,aq ai x y) (ys:=ys) (fun y hy=>by
   obtain ⟨i,hi,rfl⟩:=List.getElem_of_mem hy;exact ih i _ _ (List.getElem?_eq_getElem (h1 ▸ hi)) (List.getElem?_eq_getElem hi))
  exact ⟨.agg ⟨zs⟩,fun ai=>.agg _ _ e1 (fun i x y hx hy=>e2 i x y hx hy ai)⟩
 | tuple xs ys h1 _ ih =>
  obtain ⟨zs,e1,e2⟩:=D7 (P:=fun x y=>∀ ai,aq ai x y) (ys:=ys) (fun y hy=>by
   obtain ⟨i,hi,rfl⟩:=List.getElem_of_mem hy;exact ih i _ _ (List.getElem?_eq_getElem (h1 ▸ hi)) (List.getElem?_eq_getElem hi))
  exact ⟨.tuple ⟨zs⟩,fun ai=>.tuple _ _ e1 (fun i x y hx hy=>e2 i x y hx hy ai)⟩
 | dead w hw=>exact ⟨.chan none,fun ai=>.dead w hw⟩
 | _=>exact ⟨.chan none,fun ai=>.dead _ rfl⟩
def Io (i:Nat):List Nat→Bool
 | []=>false
 | a::l=>match Nat.beq a i with
  | true=>true
  | false=>Io i l
def uA (a:Nat→Value) (id:Nat) (aa:List Nat):Nat→List Value→(List Value→Prop)→Prop
 | _,[],k=>k []
 | i,v::l,k=>match Io i aa with
  | true=>zk (qD id 3 v) fun v'=>uA a id aa (i+1) l fun l'=>k (v'::l')
  | false=>uA a id aa (i+1) l fun l'=>k (a i::l')
theorem MX {ν:Nu} {t r:List Value} (h:bc ν t r):∃ a:Nat→Value,∀ (j:Nat) (y:Value),r[j]?=some y→∀ ai,aq ai (a j) y:=by
 have hx:∀ j:Nat,∃ x:Value,∀ y:Value,r[j]?=some y→∀ ai,aq ai x y:=by
  intro j;cases hj:r[j]? with
  | none=>exact ⟨undef,fun y hy=>by simp at hy⟩
  | some y =>
   have ak:j < t.length:=by
    rw [h.1];exact (List.getElem?_eq_some_iff.1 hj).1
   obtain ⟨x,hx⟩:=(h.2 j t[j] y (List.getElem?_eq_getElem ak) hj).any;exact ⟨x,fun y' hy=>by cases hy; exact hx⟩
 exact ⟨fun j=>Classical.choose (hx j),fun j y hy=>Classical.choose_spec (hx j) y hy⟩
theorem Mg {a:Nat→Value} {i:Nat} {y:Value} {ys:List Value} (h:∀ (j:Nat) (z:Value),(y::ys)[j]?=some z→∀ ai:Nu,aq ai (a (i+j)) z) :
  (∀ ai:Nu,aq ai (a i) y)∧∀ (j:Nat) (z:Value),ys[j]?=some z→∀ ai:Nu,aq ai (a (i+1+j)) z:=by
 refine ⟨fun ai=>h 0 y rfl ai,fun j z hz ai=>?_⟩
 have:=h (j+1) z (by simpa using hz) ai
 rw [show i+1+j=i+(j+1) by omega]
 exact this
theorem Et {a:Nat→Value} {id:Nat} {aa:List Nat}:∀ {t:List Value} {i:Nat} {k:List Value→Prop},uA a id aa i t k→∀ (ν:Nu) r,bc ν t r→(∀ (j:Nat) (y:Value),r[j]?=some y→∀ ai:Nu,aq ai (a (i+j)) y)→∃ t',k t'∧∀ ai,ν.off ai id→bc ai t' r
 | [],i,k,h,ν,r,hr,ha=>⟨[],h,fun ai _=>by rw [hr.iP]; exact .nil _⟩
 | v::l,i,k,h,ν,r,hr,ha=>by
  obtain ⟨y,ys,rfl,h1,J⟩:=hr.jl;obtain ⟨hx,ha⟩:=Mg ha;unfold uA at h
  split at h
  ·obtain ⟨v',e,h⟩:=EO h;obtain ⟨l',h3,h4⟩:=Et h ν ys J ha;exact ⟨_,h3,fun ai ho=>.cons (Tu ho 3 _ _ _ e h1) (h4 ai ho)⟩
  ·obtain ⟨l',h3,h4⟩:=Et h ν ys J ha;exact ⟨_,h3,fun ai ho=>.cons (hx _) (h4 ai ho)⟩
def uB (id:Nat) (v:Value):Value:=match o9 id 3 v with | false=>v | true=>.chan none
def Bk (id:Nat):List (List Value)→(List (List Value)→Prop)→Prop
 | [],k=>k []
 | r::l,k=>Bk id l fun l'=>k (r.map (uB id)::l')
theorem JO {id:Nat}:∀ {l:List (List Value)} {k:List (List Value)→Prop},Bk id l k→k (l.map fun r=>r.map (uB id))
 | [],k,h=>h
 | r::l,k,h=>by have:=JO (l:=l) h; simpa using this
def yY (id:Nat):List (List Value)→Bool
 | []=>false
 | r::l=>ss id 3 r || yY id l
theorem KD {id:Nat}:∀ {l:List (List Value)},yY id l=false→∀ r∈l,ss id 3 r=false
 | [],_,v,hv=>by simp at hv
 | x::l,h,v,hv=>by
  simp only [yY,Bool.or_eq_false_iff] at h;rcases List.mem_cons.1 hv with e | e
  ·rw [e]; exact h.1
  ·exact KD (l:=l) h.2 v e
def yZ (id:Nat) (b:ah) (k:ah→Prop):Prop :=
 match b with
 | .flat o n e g=>k (.flat o n e g)
 | .aL o e rows=>match yY id rows with
  | false=>k (.aL o e rows)
  | true=>Bk id rows fun iS=>k (.aL o e iS)
 | .b9 r=>k (.b9 r)
theorem KE {id:Nat} {b:ah} {k:ah→Prop} (h:yZ id b k):∃ b',k b'∧b'.own=b.own∧∀ (ν ai:Nu) (l:Loc) (w:World),ν.off ai id→bP ν l b w→bP ai l b' w:=by
 cases b with
 | flat o n e g =>
  exact ⟨_,h,rfl,fun ν ai l w ho hB=>⟨hB.ae,hB.len,fun r hr j v hv=>by
   obtain ⟨v',h1,J⟩:=hB.cell r hr j v hv;have:=hB.plain rfl r hr v (List.mem_of_getElem? hv);rw [J.kU this] at h1;exact ⟨v,h1,aq.kR this⟩,hB.plain,hB.one,hB.own,hB.lr,hB.live⟩⟩
 | b9 r =>
  exact ⟨_,h,rfl,fun ν ai l w ho hB=>⟨hB.ae,fun r hr=>absurd hr (Nat.not_lt_zero r),fun r hr=>absurd hr (Nat.not_lt_zero r),(fun h=>nomatch h),fun r hr=>absurd hr (Nat.not_lt_zero r),fun _ h=>(nomatch h),hB.lr,hB.live⟩⟩
 | aL o e rows =>
  have h:(match yY id rows with
   | false=>k (.aL o e rows)
   | true=>Bk id rows fun iS=>k (.aL o e iS)):=h
  split at h
  ·rename_i hm;exact ⟨_,h,rfl,fun ν ai l w ho hB=>⟨hB.ae,hB.len,fun r hr j v hv=>by
    obtain ⟨v',h1,J⟩:=hB.cell r hr j v hv;refine ⟨v',h1,D6 ho 3 v v' ?_ J⟩;have jy:r < rows.length:=hr;simp only [ah.row,List.getD,List.getElem?_eq_getElem jy,Option.getD_some] at hv;exact vY (KD hm _ (List.getElem_mem _)) v (List.mem_of_getElem? hv),hB.plain,hB.one,hB.own,hB.lr,hB.live⟩⟩
  ·rename_i hm;have h:=JO h;have aX:∀ r,(ah.aL o e (rows.map fun r=>r.map (uB id))).row r=((ah.aL o e rows).row r).map (uB id):=by
    intro r;simp only [ah.row,List.getD,List.getElem?_map];cases rows[r]? <;> rfl
   have h1c:∀ v,v.oneCell'=true→(uB id v).oneCell'=true:=by
    intro v hv;unfold uB
    split
    ·exact hv
    ·rfl
   refine ⟨_,h,rfl,fun ν ai l w ho hB=>⟨hB.ae,fun r hr=>?_,fun r hr j v hv=>?_,fun h=>by simp [ah.jR] at h,fun r hr v hv=>?_,fun h _=>?_,(fun r h=>nomatch h),hB.live⟩⟩
   ·have hr:r < (ah.aL o e rows).n:=by simpa [ah.n] using hr
    rw [aX,List.length_map]; exact hB.len r hr
   ·have hr:r < (ah.aL o e rows).n:=by simpa [ah.n] using hr
    rw [aX,List.getElem?_map] at hv;cases hx:((ah.aL o e rows).row r)[j]? with
    | none=>rw [hx] at hv; cases hv
    | some x =>
     rw [hx] at hv;cases hv;obtain ⟨v',h1,J⟩:=hB.cell r hr j x hx;refine ⟨v',h1,?_⟩;unfold uB
     split
     ·rename_i xN; exact D6 ho 3 x v' xN J
     ·exact .dead _ (by rw [J.BC]; exact hB.one r hr x (List.mem_of_getElem? hx))
   ·have hr:r < (ah.aL o e rows).n:=by simpa [ah.n] using hr
    rw [aX] at hv;obtain ⟨x,hx,rfl⟩:=List.mem_map.1 hv;exact h1c x (hB.one r hr x hx)
   ·obtain ⟨cur,t,q1,q2,q3⟩:=hB.own h rfl;exact ⟨cur,t,q1,q2,by simpa [ah.n] using q3⟩
def xl (id:Nat):aw→(aw→Prop)→Prop
 | [],k=>k []
 | none::H,k=>xl id H fun H'=>k (none::H')
 | some b::H,k=>yZ id b fun b'=>xl id H fun H'=>k (some b'::H')
theorem Eu {id:Nat}:∀ {H:aw} {k:aw→Prop},xl id H k→∃ H',k H'∧H'.length=H.length∧∀ (j:Nat) (b':ah),H'[j]?=some (some b')→∃ b,H[j]?=some (some b)∧b'.own=b.own ∧
  ∀ (ν ai:Nu) (l:Loc) (w:World),ν.off ai id→bP ν l b w→bP ai l b' w
 | [],k,h=>⟨[],h,rfl,fun j b' hj=>by simp at hj⟩
 | none::H,k,h=>by
  obtain ⟨H',h1,J,h3⟩:=Eu (H:=H) h;refine ⟨_,h1,by simp [J],fun j b' hj=>?_⟩
  cases j with
  | zero=>simp at hj
  | succ j=>exact h3 j b' (by simpa using hj)
 | some b::H,k,h=>by
  obtain ⟨b1,h,hb⟩:=KE h;obtain ⟨H',h1,J,h3⟩:=Eu (H:=H) h;refine ⟨_,h1,by simp [J],fun j b' hj=>?_⟩
  cases j with
  | zero=>simp at hj; subst hj; exact ⟨b,rfl,hb⟩
  | succ j=>exact h3 j b' (by simpa using hj)
open Go Go.RowKit
structure CR (ν:Nu) (ae:Nat) (g:Nat→List Value) (m:Nat) (L:List Value):Prop where
 len:L.length=m*ae
 row:∀ r,r < m→(g r).length=ae
 cell:∀ r,r < m→∀ (j:Nat) v,(g r)[j]?=some v→∃ v',L[r*ae+j]?=some v'∧aq ν v v'
 one:∀ u∈L,u.oneCell'=true
 sM:∀ r,r < m→∀ v∈g r,v.oneCell'=true
def iD (g:Nat→List Value) (n:Nat) (h:Nat→List Value):Nat→List Value:=fun j=>bif Nat.blt j n then g j else h (j - n)
theorem jh {g h:Nat→List Value} {n j:Nat} (hj:j < n):iD g n h j=g j:=by
 have:Nat.blt j n=true:=by rw [Nat.blt_eq]; exact hj
 simp [iD,this]
theorem gr {g h:Nat→List Value} {n j:Nat} (hj:n≤j):iD g n h j=h (j - n):=by
 have:Nat.blt j n=false:=by
  cases h:Nat.blt j n with
  | false=>rfl
  | true=>rw [Nat.blt_eq] at h; omega
 simp [iD,this]
theorem CR.append {ν:Nu} {ae n m:Nat} {g h:Nat→List Value} {L M:List Value} (a:CR ν ae g n L) (b:CR ν ae h m M):CR ν ae (iD g n h) (n+m) (L++M):=by
 refine ⟨by rw [List.length_append,a.len,b.len,Nat.add_mul],fun r hr=>?_,fun r hr j v hv=>?_,fun u hu=>?_,fun r hr v hv=>?_⟩
 ·by_cases h:r < n
  ·rw [jh h]; exact a.row r h
  ·rw [gr (by omega)]; exact b.row _ (by omega)
 ·by_cases h:r < n
  ·rw [jh h] at hv;obtain ⟨v',h1,J⟩:=a.cell r h j v hv;exact ⟨v',by rw [List.getElem?_append_left (List.getElem?_eq_some_iff.1 h1).1]; exact h1,J⟩
  ·rw [gr (by omega)] at hv
   obtain ⟨v',h1,J⟩:=b.cell (r - n) (by omega) j v hv
   refine ⟨v',?_,J⟩;have e:r*ae+j=L.length+((r - n)*ae+j):=by
    rw [a.len];have:r*ae=n*ae+(r - n)*ae:=by rw [← Nat.add_mul]; congr 1; omega
    omega
   rw [e,List.getElem?_append_right (by omega),Nat.add_sub_cancel_left]; exact h1
 ·rcases List.mem_append.1 hu with h | h
  ·exact a.one u h
  ·exact b.one u h
 ·by_cases h:r < n
  ·rw [jh h] at hv; exact a.sM r h v hv
  ·rw [gr (by omega)] at hv; exact b.sM _ (by omega) v hv
theorem CR.nil (ν:Nu) (ae:Nat) (g:Nat→List Value):CR ν ae g 0 [] :=
 ⟨by simp,fun r hr=>absurd hr (by omega),fun r hr=>absurd hr (by omega),fun u hu=>by simp at hu,fun r hr=>absurd hr (by omega)⟩
theorem CR.mono {ν ai:Nu} {ae m:Nat} {g:Nat→List Value} {L:List Value} (h:CR ν ae g m L) (hle:ν.le ai):CR ai ae g m L :=
 ⟨h.len,h.row,fun r hr j v hv=>let ⟨v',h1,J⟩:=h.cell r hr j v hv; ⟨v',h1,J.mono hle⟩,h.one,h.sM⟩
theorem CR.congr {ν:Nu} {ae m:Nat} {g g':Nat→List Value} {L:List Value} (h:CR ν ae g m L) (hg:∀ r,r < m→g' r=g r):CR ν ae g' m L :=
 ⟨h.len,fun r hr=>by rw [hg r hr]; exact h.row r hr,fun r hr j v hv=>h.cell r hr j v (by rw [← hg r hr]; exact hv),h.one,fun r hr v hv=>h.sM r hr v (by rw [← hg r hr]; exact hv)⟩
theorem CR.Gy {ν:Nu} {l:Loc} {b:ah} {w:World} (hB:bP ν l b w) {row m:Nat} (hm:row+m≤b.n):∃ L,CR ν b.ae (fun j=>b.row (row+j)) m L∧∀ (j:Nat) u,L[j]?=some u→w.cell? ((l.at row 0).add j)=some u:=by
 have key:∀ q,q < m*b.ae→∃ r j v v',r < m∧j < b.ae∧q=r*b.ae+j∧(b.row (row+r))[j]?=some v∧w.cell? ((l.at row 0).add q)=some v'∧aq ν v v'∧v'.oneCell'=true:=by
  intro q hq;have he:0 < b.ae:=by
   rcases Nat.eq_zero_or_pos b.ae with h | h
   ·rw [h] at hq; omega
   ·exact h
  have hr:q / b.ae < m:=(Nat.div_lt_iff_lt_mul he).2 hq;have hj:q % b.ae < b.ae:=Nat.mod_lt _ he;have hlen:=hB.len (row+q / b.ae) (by omega)
  have hv:(b.row (row+q / b.ae))[q % b.ae]?=some _:=List.getElem?_eq_getElem (by omega)
  obtain ⟨v',h1,J⟩:=hB.cell (row+q / b.ae) (by omega) _ _ hv
  refine ⟨q / b.ae,q % b.ae,_,v',hr,hj,by rw [Nat.mul_comm,Nat.div_add_mod],hv,?_,J,by rw [J.BC]; exact hB.one _ (by omega) _ (List.getElem_mem _)⟩
  rw [Loc.jS,← h1];unfold Loc.at
  congr 2
  rw [hB.ae,Nat.add_mul];have:=Nat.div_add_mod q b.ae;rw [Nat.mul_comm] at this;omega
 let L:=(List.range (m*b.ae)).map fun q=>(w.cell? ((l.at row 0).add q)).getD undef
 have lh:∀ q,q < m*b.ae→L[q]?=some ((w.cell? ((l.at row 0).add q)).getD undef):=by
  intro q hq;simp only [L,List.getElem?_map,List.getElem?_range hq,Option.map_some]
 have hL:L.length=m*b.ae:=by simp [L]
 refine ⟨L,⟨hL,fun r hr=>hB.len _ (by omega),fun r hr j v hv=>?_,fun u hu=>?_,fun r hr v hv=>hB.one _ (by omega) v hv⟩,fun j u hu=>?_⟩
 ·have hj:j < b.ae:=by rw [← hB.len (row+r) (by omega)]; exact (List.getElem?_eq_some_iff.1 hv).1
  have hq:r*b.ae+j < m*b.ae:=by
   have:(r+1)*b.ae≤m*b.ae:=Nat.mul_le_mul_right _ hr;rw [Nat.add_mul] at this; omega
  obtain ⟨v',h1,J⟩:=hB.cell (row+r) (by omega) j v hv
  refine ⟨v',?_,J⟩;have e:(l.at row 0).add (r*b.ae+j)=l.at (row+r) j:=by
   rw [Loc.jS]; unfold Loc.at; congr 1; rw [hB.ae,Nat.add_mul]; omega
  rw [lh _ hq,e,h1]; rfl
 ·obtain ⟨q,hq,rfl⟩:=List.getElem_of_mem hu;rw [hL] at hq;obtain ⟨r,j,v,v',_,_,_,_,h1,_,J⟩:=key q hq;have:=lh q hq;rw [h1] at this;have e:=List.getElem?_eq_getElem (l:=L) (i:=q) (by omega)
  rw [this] at e;rw [← Option.some.inj e]; exact J
 ·have hj:j < m*b.ae:=by rw [← hL]; exact (List.getElem?_eq_some_iff.1 hu).1
  obtain ⟨r,q,v,v',_,_,_,_,h1,_,J⟩:=key j hj;rw [lh j hj,h1] at hu;rw [h1,← hu]; rfl
theorem V7 {ν:Nu} {ae N cap aG:Nat} {g:Nat→List Value} {L:List Value} {b':ah} (hC:CR ν ae g N L) (aX:∀ r,r < N→b'.row r=g r) (hn:b'.n=N) (he:b'.ae=ae)
  (hf:b'.jR=true→∀ r,r < N→∀ v∈g r,cG v=true) {w':World} {C:Array Value} {t:TypeId} (hw:w'.heap[aG]?=some (.cells C t (0,0))) (hCL:∀ q,q < L.length→C[q]?=L[q]?)
  (fM:N≤cap) (aU:cap*ae≤C.size) (Ii:b'.rc=none):bP ν ⟨aG,0,ae,cap⟩ b' w':=by
 have G0:aG < w'.heap.size:=(Array.getElem?_eq_some_iff.1 hw).1;refine ⟨he.symm,fun r hr=>?_,fun r hr j v hv=>?_,fun h r hr v hv=>?_,fun r hr v hv=>?_,fun _ _=>⟨C,t,hw,by simpa using aU,by rw [hn]; exact fM⟩,(fun r h=>by rw [Ii] at h; cases h),G0⟩
 ·rw [hn] at hr; rw [aX r hr,he]; exact hC.row r hr
 ·rw [hn] at hr; rw [aX r hr] at hv;obtain ⟨v',h1,J⟩:=hC.cell r hr j v hv;refine ⟨v',?_,J⟩;simp only [Loc.at,World.cell?,Nat.zero_add];rw [hw];simp only [Option.isSome_none,Bool.false_eq_true,if_false];rw [hCL _ (List.getElem?_eq_some_iff.1 h1).1]; exact h1
 ·rw [hn] at hr; rw [aX r hr] at hv; exact hf h r hr v hv
 ·rw [hn] at hr; rw [aX r hr] at hv; exact hC.sM r hr v hv
theorem bU.gx {ν ai:Nu} {H H':aw} {w w':World} (h:bU ν H w) {id:Nat} (gO:ν.off ai id)
  (ho:∀ (j:Nat) (b':ah),H'[j]?=some (some b')→j≠id→∃ b,H[j]?=some (some b)∧b'.own=b.own∧∀ l,ν j=some l→bP ν l b w→bP ai l b' w')
  (bn:∀ b',H'[id]?=some (some b')→∃ l,ai id=some l∧bP ai l b' w'∧∀ j lj bj,j≠id→H[j]?=some (some bj)→ν j=some lj→lj.aG≠l.aG):bU ai H' w':=by
 refine ⟨fun j b' hj=>?_,fun i j bi bj li lj hi hj aH Ip h1 J=>?_⟩
 ·by_cases e:j=id
  ·subst e; obtain ⟨l,h1,J,_⟩:=bn b' hj; exact ⟨l,h1,J⟩
  ·obtain ⟨b,h1,_,J⟩:=ho j b' hj e;obtain ⟨l,h3,h4⟩:=h.aG j b h1;exact ⟨l,by rw [gO j e]; exact h3,J l h3 h4⟩
 ·by_cases ei:i=id
  ·subst ei;obtain ⟨l,e1,_,e2⟩:=bn bi hi;rw [h1] at e1; cases e1;obtain ⟨b,e3,_,_⟩:=ho j bj hj (Ne.symm aH);rw [gO j (Ne.symm aH)] at J;exact Ne.symm (e2 j lj b (Ne.symm aH) e3 J)
  ·obtain ⟨b,e3,e4,_⟩:=ho i bi hi ei;rw [gO i ei] at h1;by_cases ej:j=id
   ·subst ej;obtain ⟨l,e1,_,e2⟩:=bn bj hj;rw [J] at e1; cases e1;exact e2 i li b ei e3 h1
   ·obtain ⟨c,e5,_,_⟩:=ho j bj hj ej;rw [gO j ej] at J;exact h.sep i j b c li lj e3 e5 aH (by rw [← e4]; exact Ip) h1 J
section
variable {P:Program} {w:World}
theorem rK {t ty e:TypeId} {i:TypeInfo} (ht:P.underlying t=some (.slice e)) (hi:P.info? e=some i) {A oy:Option Addr} {n c m cy:Nat} {L:List Value} (hl:L.length=m*i.size)
  (hL:∀ a,oy=some a→∀ (j:Nat) u,L[j]?=some u→w.cell? (a.add j)=some u) (hn:oy=none→m=0) (cO:n+m≤c) {w2:World}
  (ao:∀ a,A=some a→(storeCells (a.add (n*i.size)) L).run P w=.ok () w2) (nh:A=none→w2=w) :
  (Builtin.append_ #[t,t] ty #[.slice A n c,.slice oy m cy]).run P w=.ok (.slice A (n+m) c) w2:=by
 have hf:(Builtin.firstCells i.size m (.slice oy m cy)).run P w=.ok L.toArray w:=by
  cases oy with
  | none =>
   have:=hn rfl;subst this;have:L=[]:=List.eq_nil_of_length_eq_zero (by simpa using hl)
   rw [this];exact run_firstCells_none (P:=P) (w:=w) i.size 0 0 cy
  | some a=>exact run_firstCells_some (P:=P) w i.size m a m cy L hl (hL a rfl)
 cases A with
 | none =>
  have:=nh rfl;subst this;simp [Builtin.append_,run_underlying ht,sizeOf,typeInfo,hi,Builtin.lenOf,cO,hf]
 | some a =>
  have:=ao a rfl;simp [Builtin.append_,run_underlying ht,sizeOf,typeInfo,hi,Builtin.lenOf,cO,hf,this]
def tQ (C:Array Value) (z:Value) (k:Nat) (e:TypeId):Obj:=.cells (C++Builtin.zeroCells z.cells k) e
theorem AF {t ty e:TypeId} {i:TypeInfo} {z:Value} (ht:P.underlying t=some (.slice e)) (hi:P.info? e=some i) (hz:i.zero=some z) {A oy:Option Addr} {n c m cy:Nat} {O L:List Value}
  (gX:O.length=n*i.size) (hO:∀ a,A=some a→∀ (j:Nat) u,O[j]?=some u→w.cell? (a.add j)=some u) (hA:A=none→n=0∧c=0)
  (hl:L.length=m*i.size) (hL:∀ a,oy=some a→∀ (j:Nat) u,L[j]?=some u→w.cell? (a.add j)=some u) (hn:oy=none→m=0) (Dh:n≤c) (cO:c < n+m) (hB:(n+m)*i.bytes≤140737488355328) (hN:n+m≤140737488355328) :
  (Builtin.append_ #[t,t] ty #[.slice A n c,.slice oy m cy]).run P w=.ok (.slice (some ⟨w.heap.size,0,none⟩) (n+m) (grownCap w (n+m) c e)) (w.drew.alloc (tQ (O++L).toArray z (grownCap w (n+m) c e - (n+m)) e)):=by
 cases oy with
 | none=>have:=hn rfl; omega
 | some a =>
  cases A with
  | none =>
   obtain ⟨rfl,rfl⟩:=hA rfl;have hO0:O=[]:=List.eq_nil_of_length_eq_zero (by simpa using gX)
   subst hO0;have:=run_append_nil (P:=P) (w:=w) t ty e i z ht hi hz a m cy L hl (hL a rfl) (by omega) (by omega) (by simp only [Nat.zero_add] at hB; omega)
   simp only [Nat.zero_add,List.nil_append];exact this
  | some b =>
   have:=run_append_grow (P:=P) (w:=w) t ty e i z ht hi hz b n c O gX (hO b rfl) a m cy L hl (hL a rfl) cO (by omega) (growslice_fits cO hB)
   rw [this];simp [tQ]
end
inductive Src where
 | fl (m:Nat) (g:Nat→List Value)
 | ex (L:List (List Value))
def Src.m:Src→Nat
 | .fl m _=>m
 | .ex L=>L.length
def Src.get:Src→Nat→List Value
 | .fl _ g=>g
 | .ex L=>fun j=>L.getD j []
def Src.kA:Src→Bool
 | .fl _ _=>true
 | .ex _=>false
def sA:List (List Value)→Nat→Nat→(List (List Value)→Prop)→Prop
 | _,0,0,k=>k []
 | [],0,_+1,_=>False
 | v::l,0,n+1,k=>sA l 0 n fun vs=>k (v::vs)
 | [],_+1,_,_=>False
 | _::l,o+1,n,k=>sA l o n k
theorem yd:∀ {l:List (List Value)} {o n:Nat} {k:List (List Value)→Prop},sA l o n k→∃ vs,k vs∧(vs.length=n∧o+n≤l.length)∧∀ (j:Nat) v,vs[j]?=some v→l[o+j]?=some v
 | l,0,0,k,h=>⟨[],by cases l <;> exact h,⟨rfl,by simp⟩,fun j v hv=>by simp at hv⟩
 | [],0,_+1,_,h=>h.elim
 | v::l,0,n+1,k,h=>by
  obtain ⟨vs,h1,⟨J,h4⟩,h3⟩:=yd (l:=l) h;refine ⟨v::vs,h1,⟨by simp [J],by simp at h4 ⊢; omega⟩,fun j u hu=>?_⟩
  cases j with
  | zero=>simpa using hu
  | succ j=>have:=h3 j u (by simpa using hu); simpa using this
 | [],o+1,n,k,h=>by cases n <;> exact h.elim
 | x::l,o+1,n,k,h=>by
  have h':sA l o n k:=by cases n <;> exact h
  obtain ⟨vs,h1,⟨J,h4⟩,h3⟩:=yd (l:=l) h';exact ⟨vs,h1,⟨J,by simp; omega⟩,fun j v hv=>by have:=h3 j v hv; rwa [show o+1+j=(o+j)+1 by omega,List.getElem?_cons_succ]⟩
def Cl:List (List Value)→Bool
 | []=>true
 | r::l=>mF r && Cl l
theorem KF:∀ {l:List (List Value)},Cl l=true→∀ r∈l,∀ v∈r,cG v=true
 | [],_,r,hr=>by simp at hr
 | q::l,h,r,hr=>by
  simp only [Cl,Bool.and_eq_true] at h;rcases List.mem_cons.1 hr with e | e
  ·rw [e]; exact dz h.1
  ·exact KF h.2 r e
def sN:List (List Value)→List (List Value)→(List (List Value)→Prop)→Prop
 | [],l,k=>k l
 | x::xs,l,k=>sN xs l fun r=>k (x::r)
theorem yi:∀ {xs l:List (List Value)} {k:List (List Value)→Prop},sN xs l k→k (xs++l)
 | [],_,_,h=>h
 | _::xs,l,k,h=>yi (xs:=xs) h
def xm (g:Nat→List Value):Nat→Nat→(List (List Value)→Prop)→Prop
 | _,0,k=>k []
 | i,m+1,k=>xm g (i+1) m fun l=>k (g i::l)
theorem Ev {g:Nat→List Value}:∀ {m i:Nat} {k:List (List Value)→Prop},xm g i m k→∃ l,k l∧l.length=m∧∀ j,j < m→l.getD j []=g (i+j)
 | 0,i,k,h=>⟨[],h,rfl,fun j hj=>absurd hj (by omega)⟩
 | m+1,i,k,h=>by
  obtain ⟨l,h1,J,h3⟩:=Ev (m:=m) h;refine ⟨_,h1,by simp [J],fun j hj=>?_⟩
  cases j with
  | zero=>simp [List.getD]
  | succ j =>
   have:=h3 j (by omega)
   simp only [List.getD,List.getElem?_cons_succ] at this ⊢;rw [this]; congr 1; omega
def zl (H:aw) (ae:Nat) (yv:Value) (k:Src→Prop):Prop :=
 match yv with
 | .slice none 0 0=>k (.fl 0 fun _=>[])
 | .slice (some ⟨id,row,_⟩) m _=>gG H id fun b=>match Nat.beq b.ae ae with
  | true=>match b with
   | .flat _ n _ get=>row+m≤n∧k (.fl m fun j=>get (eX row j))
   | .aL _ _ rows=>sA rows row m fun L=>match Cl L with
    | true=>k (.fl m fun j=>L.getD j [])
    | false=>k (.ex L)
   | .b9 _=>False
  | false=>False
 | _=>False
theorem EP {H:aw} {ae:Nat} {yv:Value} {k:Src→Prop} (h:zl H ae yv k):∃ s,k s∧(s.kA=true→∀ r,r < s.m→∀ (ν:Nu) w,bU ν H w→∀ v∈s.get r,cG v=true) ∧
  ∀ (ν:Nu) (w:World) (r:Value),bU ν H w→aq ν yv r→∃ oy cy L,r=.slice oy s.m cy∧(oy=none→s.m=0)∧CR ν ae s.get s.m L∧∀ a,oy=some a→∀ (j:Nat) u,L[j]?=some u→w.cell? (a.add j)=some u:=by
 unfold zl at h
 split at h
 ·refine ⟨_,h,fun _ r hr=>absurd hr (by simp [Src.m]),fun ν w r hH hr=>?_⟩
  have:=hr.p7;subst this;exact ⟨none,0,[],rfl,fun _=>rfl,CR.nil _ _ _,fun a ha=>by cases ha⟩
 ·rename_i id row sp m c;obtain ⟨b,hb,h⟩:=gB h
  split at h
  ·rename_i he;have he:b.ae=ae:=Nat.eq_of_beq_eq_true he
   -- a source whose rows are the block's
   have gen:∀ (s:Src),s.m=m→row+m≤b.n→(∀ j,j < m→s.get j=b.row (row+j))→∀ (ν:Nu) (w:World) (r:Value),bU ν H w→aq ν (.slice (some ⟨id,row,sp⟩) m c) r →
     ∃ oy cy L,r=.slice oy s.m cy∧(oy=none→s.m=0)∧CR ν ae s.get s.m L∧∀ a,oy=some a→∀ (j:Nat) u,L[j]?=some u→w.cell? (a.add j)=some u:=by
    intro s hm hle aX ν w r hH hr;obtain ⟨l,hl,hB⟩:=hH.aG id b hb;rcases hr.BW with ⟨l',c',cB,_,_,rfl⟩ | ⟨kJ,bb,rfl⟩
    ·rw [hl] at cB; cases cB;obtain ⟨L,h1,J⟩:=CR.Gy hB hle;rw [he] at h1;refine ⟨_,c',L,by rw [hm],(fun h=>by cases h),?_,(fun a ha=>by cases ha; exact J)⟩
     rw [hm];exact h1.congr aX
    ·refine ⟨some bb,0,[],by rw [hm,kJ],(fun h=>by cases h),?_,fun a ha j u hu=>by simp at hu⟩
     rw [hm,kJ];exact CR.nil _ _ _
   cases b with
   | flat o n e get =>
    obtain ⟨hle,h⟩:=h;have aX:∀ j,j < m→(Src.fl m fun j=>get (eX row j)).get j=(ah.flat o n e get).row (row+j):=fun j _=>by simp [Src.get,ah.row,ax]
    refine ⟨_,h,fun _ r hr ν w hH v hv=>?_,gen _ rfl hle aX⟩
    obtain ⟨l,hl,hB⟩:=hH.aG id _ hb;have hr:r < m:=hr;rw [aX r hr] at hv;exact hB.plain rfl (row+r) (by simp only [ah.n]; omega) v hv
   | aL o e rows =>
    obtain ⟨L,h,⟨hlen,hle⟩,lh⟩:=yd h;have aX:∀ j,j < m→L.getD j []=(ah.aL o e rows).row (row+j):=fun j hj=>by
     have ak:j < L.length:=by omega
     have:=lh j _ (List.getElem?_eq_getElem ak);simp [ah.row,List.getD,this,List.getElem?_eq_getElem ak]
    split at h
    ·rename_i hs;refine ⟨_,h,fun _ r hr ν w hH v hv=>?_,gen _ rfl hle aX⟩
     have hr:r < m:=hr;have ak:r < L.length:=by omega
     have hv:v∈L.getD r []:=hv;simp only [List.getD,List.getElem?_eq_getElem ak,Option.getD_some] at hv;exact KF hs _ (List.getElem_mem _) v hv
    ·exact ⟨_,h,fun h=>by simp [Src.kA] at h,gen _ hlen hle aX⟩
   | b9 r=>exact h.elim
  ·exact h.elim
 ·exact h.elim
end Go.Ae
