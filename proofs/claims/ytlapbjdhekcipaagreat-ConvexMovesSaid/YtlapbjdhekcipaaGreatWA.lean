import Derived.OrdersIn
import Derived.CallsIn
import Derived.ControlIn
import Derived.Below
import Derived.Laws.IdiomCopy
import Derived.Laws.AppendOwn
import Derived.Laws.NewBlocks
import Derived.Laws.BytesString
import Derived.Laws.MakeOwn
import Derived.Laws.IdiomStrings
import Derived.RangeFuncSeq
set_option linter.unusedVariables false
set_option linter.unusedSimpArgs false
namespace Go.Ae
open Go Go.RowKit
structure Loc where
 aI:Nat
 base:Nat
 ae:Nat
 cap:Nat
def Loc.at (l:Loc) (row cf:Nat):Addr:=⟨l.aI,l.base+row*l.ae+cf,none⟩
abbrev Nu:=Nat→Option Loc
def Nu.le (ν aj:Nu):Prop:=∀ id l,ν id=some l→aj id=some l
theorem Nu.le_refl (ν:Nu):ν.le ν:=fun _ _ h=>h
theorem Nu.le_trans {a b c:Nu} (h:a.le b) (k:b.le c):a.le c:=fun id l e=>k id l (h id l e)
def Nu.add (ν:Nu) (id:Nat) (l:Loc):Nu:=fun j=>if j=id then some l else ν j
theorem Nu.ki {ν:Nu} {id:Nat} {l:Loc} (h:ν id=none):ν.le (ν.add id l):=by
 intro j k hj;by_cases e:j=id
 ·subst e; rw [h] at hj; cases hj
 ·simp [Nu.add,e,hj]
theorem Nu.add_same {ν:Nu} {id:Nat} {l:Loc}:ν.add id l id=some l:=by simp [Nu.add]
theorem Nu.jb {ν:Nu} {id j:Nat} {l:Loc} (h:j≠id):ν.add id l j=ν j:=by simp [Nu.add,h]
def cH:Value→Bool
 | .bool _ | .int _ _ | .string _=>true
 | _=>false
def aO:Nat:=9223372036854775808
inductive ar (ν:Nu):Value→Value→Prop
 | bool (b:Bool):ar ν (.bool b) (.bool b)
 | int (k:IntKind) (n:Int):ar ν (.int k n) (.int k n)
 | str (s:ByteArray):ar ν (.string s) (.string s)
 | mE:ar ν (.pointer none) (.pointer none)
 | ptr (id row:Nat) (sp:Option Nat) (l:Loc) (h:ν id=some l):ar ν (.pointer (some ⟨id,row,sp⟩)) (.pointer (some (l.at row (sp.getD 0))))
 | iP:ar ν (.slice none 0 0) (.slice none 0 0)
 | slice (id row n c c':Nat) (l:Loc) (h:ν id=some l) (hc:c'=c∨c=aO) (hn:n≤c') (hr:row+c'≤l.cap) :
   ar ν (.slice (some ⟨id,row,none⟩) n c) (.slice (some (l.at row 0)) n c')
 | void (id row c:Nat) (a:Addr) (hc:0=c∨c=aO):ar ν (.slice (some ⟨id,row,none⟩) 0 c) (.slice (some a) 0 0)
 | lY (id row m n c':Nat) (l:Loc) (h:ν id=some l) (hm:m≤c') (hn:n≤c') (hr:row+c'≤l.cap) :
   ar ν (.slice (some ⟨id,row,some m⟩) n aO) (.slice (some (l.at row 0)) n c')
 | kV (id row:Nat) (a:Addr):ar ν (.slice (some ⟨id,row,some 0⟩) 0 aO) (.slice (some a) 0 0)
 | mF:ar ν .nilFunc .nilFunc
 | func (fn:Fn) (xs ys nv dg:List Value) (h1:xs.length=ys.length) (J:∀ (i:Nat) (x y:Value),xs[i]?=some x→ys[i]?=some y→ar ν x y)
   (h3:nv.length=dg.length) (h4:∀ (i:Nat) (x y:Value),nv[i]?=some x→dg[i]?=some y→ar ν x y) :
   ar ν (.func fn ⟨xs⟩ ⟨nv⟩) (.func fn ⟨ys⟩ ⟨dg⟩)
 | agg (xs ys:List Value) (h1:xs.length=ys.length) (J:∀ (i:Nat) (x y:Value),xs[i]?=some x→ys[i]?=some y→ar ν x y):ar ν (.agg ⟨xs⟩) (.agg ⟨ys⟩)
 | tuple (xs ys:List Value) (h1:xs.length=ys.length) (J:∀ (i:Nat) (x y:Value),xs[i]?=some x→ys[i]?=some y→ar ν x y):ar ν (.tuple ⟨xs⟩) (.tuple ⟨ys⟩)
 | dead (w:Value) (h:w.oneCell'=true):ar ν (.chan none) w
def bg (ν:Nu) (xs ys:List Value):Prop:=xs.length=ys.length∧∀ (i:Nat) (x y:Value),xs[i]?=some x→ys[i]?=some y→ar ν x y
theorem ar.mono {ν aj:Nu} (hle:ν.le aj) {v w:Value} (h:ar ν v w):ar aj v w:=by
 induction h with
 | bool b=>exact .bool b
 | int k n=>exact .int k n
 | str s=>exact .str s
 | mE=>exact .mE
 | ptr id row sp l h=>exact .ptr id row sp l (hle _ _ h)
 | iP=>exact .iP
 | slice id row n c c' l h hc hn hr=>exact .slice id row n c c' l (hle _ _ h) hc hn hr
 | void id row c a hc=>exact .void id row c a hc
 | lY id row m n c' l h hm hn hr=>exact .lY id row m n c' l (hle _ _ h) hm hn hr
 | kV id row a=>exact .kV id row a
 | mF=>exact .mF
 | func fn xs ys nv dg h1 _ h3 _ i2 i4=>exact .func fn xs ys nv dg h1 i2 h3 i4
 | agg xs ys h1 _ i2=>exact .agg xs ys h1 i2
 | tuple xs ys h1 _ i2=>exact .tuple xs ys h1 i2
 | dead w h=>exact .dead w h
theorem bg.mono {ν aj:Nu} (hle:ν.le aj) {xs ys:List Value} (h:bg ν xs ys):bg aj xs ys :=
 ⟨h.1,fun i x y hx hy=>(h.2 i x y hx hy).mono hle⟩
theorem bg.nil (ν:Nu):bg ν [] []:=⟨rfl,fun i x y hx _=>by simp at hx⟩
theorem bg.cons {ν:Nu} {x y:Value} {xs ys:List Value} (h:ar ν x y) (hs:bg ν xs ys):bg ν (x::xs) (y::ys):=by
 refine ⟨by simp [hs.1],fun i a b ha hb=>?_⟩
 cases i with
 | zero=>simp at ha hb; subst ha; subst hb; exact h
 | succ i=>exact hs.2 i a b (by simpa using ha) (by simpa using hb)
theorem bg.head {ν:Nu} {x y:Value} {xs ys:List Value} (h:bg ν (x::xs) (y::ys)):ar ν x y:=h.2 0 x y rfl rfl
theorem bg.tail {ν:Nu} {x y:Value} {xs ys:List Value} (h:bg ν (x::xs) (y::ys)):bg ν xs ys :=
 ⟨by have:=h.1; simpa using this,fun i a b ha hb=>h.2 (i+1) a b (by simpa using ha) (by simpa using hb)⟩
theorem bg.js {ν:Nu} {x:Value} {xs zs:List Value} (h:bg ν (x::xs) zs):∃ y ys,zs=y::ys∧ar ν x y∧bg ν xs ys:=by
 cases zs with
 | nil=>simp [bg] at h
 | cons y ys=>exact ⟨y,ys,rfl,h.head,h.tail⟩
theorem bg.ja {ν:Nu} {zs:List Value} (h:bg ν [] zs):zs=[]:=by
 cases zs with
 | nil=>rfl
 | cons y ys=>simp [bg] at h
theorem bg.append {ν:Nu} {a b c d:List Value} (h:bg ν a b) (k:bg ν c d):bg ν (a++c) (b++d):=by
 induction a generalizing b with
 | nil=>rw [bg.ja h]; exact k
 | cons x xs ih=>obtain ⟨y,ys,rfl,h1,J⟩:=h.js; exact .cons h1 (ih J)
theorem bg.get {ν:Nu} {xs ys:List Value} (h:bg ν xs ys) {i:Nat} {x:Value} (hx:xs[i]?=some x):∃ y,ys[i]?=some y∧ar ν x y:=by
 have hi:i < xs.length:=(List.getElem?_eq_some_iff.1 hx).1;refine ⟨ys[i]'(h.1 ▸ hi),List.getElem?_eq_getElem _,h.2 i _ _ hx (List.getElem?_eq_getElem _)⟩
theorem bg.set {ν:Nu} {xs ys:List Value} (h:bg ν xs ys) {v w:Value} (hv:ar ν v w) (i:Nat):bg ν (xs.set i v) (ys.set i w):=by
 refine ⟨by simp [h.1],fun j x y hx hy=>?_⟩
 rw [List.getElem?_set] at hx hy;by_cases e:i=j
 ·subst e;rw [if_pos rfl] at hx hy
  split at hx
  ·split at hy
   ·cases hx; cases hy; exact hv
   ·cases hy
  ·cases hx
 ·rw [if_neg e] at hx hy;exact h.2 j x y hx hy
theorem ar.kf {ν:Nu} {v w:Value} (h:cH v=true) (hr:ar ν v w):w=v:=by
 cases hr <;> simp_all [cH]
theorem ar.ke {ν:Nu} {v:Value} (h:cH v=true):ar ν v v:=by
 cases v <;> simp [cH] at h <;> constructor
theorem ar.uE {ν:Nu} {xs:List Value} {r:Value} (h:ar ν (.agg ⟨xs⟩) r):∃ ys,r=.agg ⟨ys⟩∧bg ν xs ys:=by
 cases h with | agg _ ys h1 J=>exact ⟨ys,rfl,h1,J⟩
theorem ar.nN {ν:Nu} {xs:List Value} {r:Value} (h:ar ν (.tuple ⟨xs⟩) r):∃ ys,r=.tuple ⟨ys⟩∧bg ν xs ys:=by
 cases h with | tuple _ ys h1 J=>exact ⟨ys,rfl,h1,J⟩
theorem ar.undef (ν:Nu):ar ν undef undef:=.tuple [] [] rfl (fun i x y hx _=>by simp at hx)
theorem ar.B6 {ν:Nu} {v w:Value} (h:ar ν v w):w.oneCell'=v.oneCell':=by cases h <;> first | rfl | assumption
theorem ar.cells {ν:Nu} {v w:Value} (h:ar ν v w):bg ν v.cells.toList w.cells.toList:=by
 cases h with
 | agg xs ys h1 J=>exact ⟨h1,J⟩
 | bool b=>exact .cons (.bool b) (.nil ν)
 | int k n=>exact .cons (.int k n) (.nil ν)
 | str s=>exact .cons (.str s) (.nil ν)
 | mE=>exact .cons .mE (.nil ν)
 | ptr id row sp l h=>exact .cons (.ptr id row sp l h) (.nil ν)
 | iP=>exact .cons .iP (.nil ν)
 | slice id row n c c' l h hc hn hr=>exact .cons (.slice id row n c c' l h hc hn hr) (.nil ν)
 | void id row c a hc=>exact .cons (.void id row c a hc) (.nil ν)
 | lY id row m n c' l h hm hn hr=>exact .cons (.lY id row m n c' l h hm hn hr) (.nil ν)
 | kV id row a=>exact .cons (.kV id row a) (.nil ν)
 | mF=>exact .cons .mF (.nil ν)
 | func fn xs ys nv dg h1 J h3 h4=>exact .cons (.func fn xs ys nv dg h1 J h3 h4) (.nil ν)
 | tuple xs ys h1 J=>exact .cons (.tuple xs ys h1 J) (.nil ν)
 | dead w h=>
  have e:w.cells=#[w]:=by cases w <;> first | rfl | simp [Value.oneCell'] at h
  rw [e]; exact .cons (.dead w h) (.nil ν)
inductive ai where
 | aS (own:Bool) (ae:Nat) (rows:List (List Value))
 | flat (own:Bool) (n ae:Nat) (get:Nat→List Value)
 | cj (r:Loop)
def ai.own:ai→Bool
 | .aS o _ _ | .flat o _ _ _=>o
 | .cj _=>true
def ai.ae:ai→Nat
 | .aS _ e _ | .flat _ _ e _=>e
 | .cj _=>0
def ai.n:ai→Nat
 | .aS _ _ rows=>rows.length
 | .flat _ n _ _=>n
 | .cj _=>0
def ai.row:ai→Nat→List Value
 | .aS _ _ rows=>fun r=>rows.getD r []
 | .flat _ _ _ get=>get
 | .cj _=>fun _=>[]
def ai.jc:ai→Bool
 | .aS ..=>false
 | .flat ..=>true
 | .cj _=>false
def ai.n5:ai→Bool
 | .aS o _ _ | .flat o _ _ _=>o
 | .cj _=>false
def ai.rc:ai→Option Loop
 | .cj r=>some r
 | _=>none
abbrev ay:=List (Option ai)
theorem ai.cY {b:ai} (h:b.n5=true):b.own=true∧b.rc=none:=by
 cases b with
 | aS o e r=>exact ⟨h,rfl⟩
 | flat o n e g=>exact ⟨h,rfl⟩
 | cj r=>cases h
structure bQ (ν:Nu) (l:Loc) (b:ai) (w:World):Prop where
 ae:l.ae=b.ae
 len:∀ r,r < b.n→(b.row r).length=b.ae
 cell:∀ r,r < b.n→∀ j v,(b.row r)[j]?=some v→∃ v',w.cell? (l.at r j)=some v'∧ar ν v v'
 plain:b.jc=true→∀ r,r < b.n→∀ v∈b.row r,cH v=true
 one:∀ r,r < b.n→∀ v∈b.row r,v.oneCell'=true
 own:b.own=true→b.rc=none→∃ cur t,w.heap[l.aI]?=some (.cells cur t (0,0))∧l.base+l.cap*l.ae≤cur.size∧b.n≤l.cap
 lr:∀ r,b.rc=some r→w.heap[l.aI]?=some (.loop r)
 live:l.aI < w.heap.size
structure bS (ν:Nu) (H:ay) (w:World):Prop where
 aI:∀ id b,H[id]?=some (some b)→∃ l,ν id=some l∧bQ ν l b w
 sep:∀ i j bi bj li lj,H[i]?=some (some bi)→H[j]?=some (some bj)→i≠j→bi.own=true→ν i=some li→ν j=some lj→li.aI≠lj.aI
theorem SX {w w':World} (h:Below w.heap.size w w') {a:Addr} {v:Value} (hc:w.cell? a=some v):w'.cell? a=some v :=
 (World.cell?_of_block (h.block _ (World.block_lt_of_cell? w a hc))).trans hc
theorem bQ.below {ν:Nu} {l:Loc} {b:ai} {w w':World} (h:bQ ν l b w) (hb:Below w.heap.size w w'):bQ ν l b w' :=
 ⟨h.ae,h.len,fun r hr j v hv=>let ⟨v',hc,iS⟩:=h.cell r hr j v hv; ⟨v',SX hb hc,iS⟩,h.plain,h.one,
   fun ho hc=>let ⟨cur,t,h1,J⟩:=h.own ho hc; ⟨cur,t,by rw [hb.block _ h.live]; exact h1,J⟩,fun r hr=>(hb.block _ h.live).trans (h.lr r hr),Nat.lt_of_lt_of_le h.live hb.size⟩
theorem bQ.same {ν:Nu} {l:Loc} {b:ai} {w w':World} (h:bQ ν l b w) (he:w'.heap[l.aI]?=w.heap[l.aI]?) (hs:w.heap.size≤w'.heap.size):bQ ν l b w' :=
 ⟨h.ae,h.len,fun r hr j v hv=>let ⟨v',hc,iS⟩:=h.cell r hr j v hv; ⟨v',by rw [World.cell?_of_block (a:=l.at r j) he]; exact hc,iS⟩,h.plain,h.one,
   fun ho hc=>let ⟨cur,t,h1,J⟩:=h.own ho hc; ⟨cur,t,by rw [he]; exact h1,J⟩,fun r hr=>he.trans (h.lr r hr),Nat.lt_of_lt_of_le h.live hs⟩
theorem bQ.mono {ν aj:Nu} (hle:ν.le aj) {l:Loc} {b:ai} {w:World} (h:bQ ν l b w):bQ aj l b w :=
 ⟨h.ae,h.len,fun r hr j v hv=>let ⟨v',hc,iS⟩:=h.cell r hr j v hv; ⟨v',hc,iS.mono hle⟩,h.plain,h.one,h.own,h.lr,h.live⟩
theorem bS.below {ν:Nu} {H:ay} {w w':World} (h:bS ν H w) (hb:Below w.heap.size w w'):bS ν H w' :=
 ⟨fun id b hi=>let ⟨l,h1,J⟩:=h.aI id b hi; ⟨l,h1,J.below hb⟩,h.sep⟩
theorem bS.mono {ν aj:Nu} (hle:ν.le aj) {H:ay} {w:World} (h:bS ν H w):bS aj H w :=
 ⟨fun id b hi=>let ⟨l,h1,J⟩:=h.aI id b hi; ⟨l,hle _ _ h1,J.mono hle⟩,
   fun i j bi bj li lj hi hj aJ ho h1 J=>by
  obtain ⟨l1,e1,_⟩:=h.aI i bi hi;obtain ⟨l2,e2,_⟩:=h.aI j bj hj;have:=hle _ _ e1; rw [h1] at this; cases this;have:=hle _ _ e2; rw [J] at this; cases this;exact h.sep i j bi bj _ _ hi hj aJ ho e1 e2⟩
def ay.le (H G:ay):Prop:=∀ (id:Nat) (b:ai),H[id]?=some (some b)→G[id]?=some (some b)
theorem bS.sA {ν:Nu} {H G:ay} {w:World} (h:bS ν G w) (hle:ay.le H G):bS ν H w :=
 ⟨fun id b hi=>h.aI id b (hle id b hi),fun i j bi bj li lj hi hj=>h.sep i j bi bj li lj (hle i bi hi) (hle j bj hj)⟩
theorem bS.push {ν:Nu} {H:ay} {w w':World} (h:bS ν H w) (hb:Below w.heap.size w w') {id:Nat} (hn:ν id=none) {l:Loc} {b:ai} (G:ay)
  (hG:∀ j c,G[j]?=some (some c)→(j=id∧c=b)∨(j≠id∧H[j]?=some (some c))) (hl:w.heap.size≤l.aI)
  (hB:bQ (ν.add id l) l b w'):bS (ν.add id l) G w':=by
 have hle:ν.le (ν.add id l):=Nu.ki hn;have h':=(h.mono hle).below hb;refine ⟨fun j c hj=>?_,fun i j bi bj li lj hi hj aJ ho h1 J=>?_⟩
 ·rcases hG j c hj with ⟨rfl,rfl⟩ | ⟨_,gx⟩
  ·exact ⟨l,Nu.add_same,hB⟩
  ·exact h'.aI j c gx
 ·rcases hG i bi hi with ⟨rfl,rfl⟩ | ⟨_,aR⟩ <;> rcases hG j bj hj with ⟨rfl,rfl⟩ | ⟨_,gx⟩
  ·exact absurd rfl aJ
  ·obtain ⟨l2,e2,c4⟩:=h.aI j bj gx;have:=hle _ _ e2; rw [J] at this; cases this;rw [Nu.add_same] at h1; cases h1;have:=c4.live;omega
  ·obtain ⟨l2,e2,c4⟩:=h.aI i bi aR;have:=hle _ _ e2; rw [h1] at this; cases this;rw [Nu.add_same] at J; cases J;have:=c4.live;omega
  ·exact h'.sep i j bi bj li lj aR gx aJ ho h1 J
def qN:List Value→Nat→(Value→Prop)→Prop
 | [],_,_=>False
 | v::_,0,k=>k v
 | _::l,n+1,k=>qN l n k
def xH:List Value→Nat→Value→(List Value→Prop)→Prop
 | [],_,_,_=>False
 | _::l,0,v,k=>k (v::l)
 | x::l,n+1,v,k=>xH l n v fun l'=>k (x::l')
theorem oM:∀ {l:List Value} {n:Nat} {k:Value→Prop},qN l n k→∃ v,l[n]?=some v∧k v
 | [],_,_,h=>h.elim
 | v::_,0,_,h=>⟨v,rfl,h⟩
 | _::l,n+1,k,h=>by obtain ⟨v,h1,J⟩:=oM (l:=l) h; exact ⟨v,by simpa using h1,J⟩
theorem oN:∀ {l:List Value} {n:Nat} {v:Value} {k:List Value→Prop},xH l n v k→n < l.length∧k (l.set n v)
 | [],_,_,_,h=>h.elim
 | _::l,0,v,k,h=>⟨by simp,h⟩
 | x::l,n+1,v,k,h=>by
  obtain ⟨h1,J⟩:=oN (l:=l) h;exact ⟨by simpa using h1,by simpa using J⟩
def GY (v:Value) (k:Value→Prop):Prop :=
 match v with
 | .bool b=>k (.bool b)
 | .int q n=>k (.int q n)
 | .string s=>k (.string s)
 | .pointer none=>k (.pointer none)
 | .slice none 0 0=>k (.slice none 0 0)
 | .nilFunc=>k .nilFunc
 | _=>False
theorem KM {v:Value} {k:Value→Prop} (h:GY v k):k v∧∀ ν,ar ν v v:=by
 unfold GY at h
 split at h
 ·exact ⟨h,fun ν=>.bool _⟩
 ·exact ⟨h,fun ν=>.int _ _⟩
 ·exact ⟨h,fun ν=>.str _⟩
 ·exact ⟨h,fun ν=>.mE⟩
 ·exact ⟨h,fun ν=>.iP⟩
 ·exact ⟨h,fun ν=>.mF⟩
 ·exact h.elim
def bZ (tmps:List Value) (x:Operand) (k:Value→Prop):Prop :=
 match x with
 | .tmp t=>qN tmps t k
 | .const v=>GY v k
 | .func f=>k (.func (.func f) #[] #[])
 | .global _=>False
def fk (ν:Nu) (tmps:List Value) (a:Act) (x:Operand):Prop :=
 ∀ t,x=.tmp t→∀ v,tmps[t]?=some v→∃ v',a.tmps[t]?=some v'∧ar ν v v'
theorem kN {tmps:List Value} {x:Operand} {k:Value→Prop} (h:bZ tmps x k) {ν:Nu} {a:Act} (ha:fk ν tmps a x) :
  ∃ v,k v∧ar ν v (a.eval x):=by
 cases x with
 | tmp t =>
  obtain ⟨v,h1,J⟩:=oM h;obtain ⟨v',h3,h4⟩:=ha t rfl v h1;exact ⟨v,J,by simpa [Act.eval,h3] using h4⟩
 | const v=>obtain ⟨h1,J⟩:=KM h; exact ⟨v,h1,J ν⟩
 | func f=>exact ⟨_,h,.func _ [] [] [] [] rfl (fun i x y hx _=>by simp at hx) rfl (fun i x y hx _=>by simp at hx)⟩
 | global g=>exact h.elim
theorem cS {tmps:List Value} {x:Operand} {k:Value→Prop} (h:bZ tmps x k) :
  ∃ v,k v∧∀ (ν:Nu) (a:Act),fk ν tmps a x→ar ν v (a.eval x):=by
 cases x with
 | tmp t =>
  obtain ⟨v,h1,J⟩:=oM h;refine ⟨v,J,fun ν a ha=>?_⟩
  obtain ⟨v',h3,h4⟩:=ha t rfl v h1
  simpa [Act.eval,h3] using h4
 | const v=>obtain ⟨h1,J⟩:=KM h; exact ⟨v,h1,fun ν a _=>J ν⟩
 | func f=>exact ⟨_,h,fun ν a _=>.func _ [] [] [] [] rfl (fun i x y hx _=>by simp at hx) rfl (fun i x y hx _=>by simp at hx)⟩
 | global g=>exact h.elim
def qm (tmps:List Value):List Operand→(List Value→Prop)→Prop
 | [],k=>k []
 | x::xs,k=>bZ tmps x fun v=>qm tmps xs fun vs=>k (v::vs)
theorem EM {tmps:List Value} {ν:Nu} {a:Act}:∀ {xs:List Operand} {k:List Value→Prop},qm tmps xs k→(∀ x∈xs,fk ν tmps a x) →
  ∃ vs,k vs∧bg ν vs (xs.map a.eval)
 | [],k,h,_=>⟨[],h,.nil ν⟩
 | x::xs,k,h,ha=>by
  obtain ⟨v,h1,J⟩:=kN h (ha x (by simp))
  obtain ⟨vs,h3,h4⟩:=EM h1 (fun y hy=>ha y (by simp [hy]))
  exact ⟨v::vs,h3,.cons J h4⟩
theorem Bm {tmps:List Value}:∀ {xs:List Operand} {k:List Value→Prop},qm tmps xs k →
  ∃ vs,k vs∧∀ (ν:Nu) (a:Act),(∀ x∈xs,fk ν tmps a x)→bg ν vs (xs.map a.eval)
 | [],k,h=>⟨[],h,fun ν a _=>.nil ν⟩
 | x::xs,k,h=>by
  obtain ⟨v,h1,J⟩:=cS h;obtain ⟨vs,h3,h4⟩:=Bm h1;exact ⟨v::vs,h3,fun ν a ha=>.cons (J ν a (ha x (by simp))) (h4 ν a (fun y hy=>ha y (by simp [hy])))⟩
def uN:List Value→Nat→Nat→(List Value→Prop)→Prop
 | _,0,0,k=>k []
 | [],0,_+1,_=>False
 | v::l,0,n+1,k=>uN l 0 n fun vs=>k (v::vs)
 | [],_+1,_,_=>False
 | _::l,o+1,n,k=>uN l o n k
theorem yo:∀ {l:List Value} {o n:Nat} {k:List Value→Prop},uN l o n k→∃ vs,k vs∧vs.length=n∧∀ j v,vs[j]?=some v→l[o+j]?=some v
 | l,0,0,k,h=>⟨[],by cases l <;> exact h,rfl,fun j v hv=>by simp at hv⟩
 | [],0,_+1,_,h=>h.elim
 | v::l,0,n+1,k,h=>by
  obtain ⟨vs,h1,J,h3⟩:=yo (l:=l) h;refine ⟨v::vs,h1,by simp [J],fun j u hu=>?_⟩
  cases j with
  | zero=>simpa using hu
  | succ j=>have:=h3 j u (by simpa using hu); simpa using this
 | [],o+1,n,k,h=>by cases n <;> exact h.elim
 | x::l,o+1,n,k,h=>by
  have h':uN l o n k:=by cases n <;> exact h
  obtain ⟨vs,h1,J,h3⟩:=yo (l:=l) h';exact ⟨vs,h1,J,fun j v hv=>by have:=h3 j v hv; rwa [show o+1+j=(o+j)+1 by omega,List.getElem?_cons_succ]⟩
def vf:List Value→Nat→List Value→(List Value→Prop)→Prop
 | l,0,[],k=>k l
 | [],0,_::_,_=>False
 | _::l,0,v::vs,k=>vf l 0 vs fun l'=>k (v::l')
 | [],_+1,_,_=>False
 | x::l,o+1,vs,k=>vf l o vs fun l'=>k (x::l')
theorem yx:∀ {l:List Value} {o:Nat} {vs:List Value} {k:List Value→Prop},vf l o vs k →
  ∃ l',k l'∧l'.length=l.length∧o+vs.length≤l.length∧(∀ j v,vs[j]?=some v→l'[o+j]?=some v)∧∀ j,(j < o∨o+vs.length≤j)→l'[j]?=l[j]?
 | l,0,[],k,h=>⟨l,by cases l <;> exact h,rfl,by simp,fun j v hv=>by simp at hv,fun _ _=>rfl⟩
 | [],0,_::_,_,h=>h.elim
 | x::l,0,v::vs,k,h=>by
  obtain ⟨l',h1,J,h3,h4,h5⟩:=yx (l:=l) h;refine ⟨v::l',h1,by simp [J],by simp at h3 ⊢; omega,fun j u hu=>?_,fun j hj=>?_⟩
  ·cases j with
   | zero=>simpa using hu
   | succ j=>have:=h4 j u (by simpa using hu); simpa using this
  ·cases j with
   | zero=>simp at hj
   | succ j=>have:=h5 j (by simp at hj ⊢; omega); simpa using this
 | [],o+1,vs,k,h=>by cases vs <;> exact h.elim
 | x::l,o+1,vs,k,h=>by
  have h':vf l o vs fun l'=>k (x::l'):=by cases vs <;> exact h
  obtain ⟨l',h1,J,h3,h4,h5⟩:=yx (l:=l) h';refine ⟨x::l',h1,by simp [J],by simp; omega,fun j u hu=>?_,fun j hj=>?_⟩
  ·have:=h4 j u hu; rwa [show o+1+j=(o+j)+1 by omega,List.getElem?_cons_succ]
  ·cases j with
   | zero=>simp
   | succ j=>have:=h5 j (by omega); simpa using this
def gR:ay→Nat→(ai→Prop)→Prop
 | [],_,_=>False
 | b::_,0,k=>match b with | some b=>k b | none=>False
 | _::H,n+1,k=>gR H n k
theorem gK:∀ {H:ay} {id:Nat} {k:ai→Prop},gR H id k→∃ b,H[id]?=some (some b)∧k b
 | [],_,_,h=>h.elim
 | some b::_,0,_,h=>⟨b,rfl,h⟩
 | none::_,0,_,h=>h.elim
 | _::H,n+1,k,h=>by obtain ⟨b,h1,J⟩:=gK (H:=H) h; exact ⟨b,by simpa using h1,J⟩
def jy:ay→Nat→Option ai→(ay→Prop)→Prop
 | [],_,_,_=>False
 | _::H,0,b,k=>k (b::H)
 | c::H,n+1,b,k=>jy H n b fun H'=>k (c::H')
theorem ml:∀ {H:ay} {id:Nat} {b:Option ai} {k:ay→Prop},jy H id b k→id < H.length∧k (H.set id b)
 | [],_,_,_,h=>h.elim
 | _::H,0,_,_,h=>⟨by simp,h⟩
 | c::H,n+1,b,k,h=>by obtain ⟨h1,J⟩:=ml (H:=H) h; exact ⟨by simpa using h1,by simpa using J⟩
def o5:ay→Option ai→(ay→Prop)→Prop
 | [],b,k=>k [b]
 | c::H,b,k=>o5 H b fun H'=>k (c::H')
theorem yp:∀ {H:ay} {b:Option ai} {k:ay→Prop},o5 H b k→k (H++[b])
 | [],_,_,h=>h
 | _::H,b,k,h=>yp (H:=H) h
def jz:ay→(Nat→Prop)→Prop
 | [],k=>k 0
 | _::H,k=>jz H fun n=>k (n+1)
theorem mn:∀ {H:ay} {k:Nat→Prop},jz H k→k H.length
 | [],_,h=>h
 | _::H,k,h=>mn (H:=H) h
def br (b:Bool) (x y:Prop):Prop:=match b with | true=>x | false=>y
theorem aN {b:Bool} {x y:Prop} (h1:b=true→x) (J:b=false→y):br b x y:=by cases b <;> simp_all [br]
theorem B7 {b:Bool} {x y:Prop} (h:br b x y) (hb:b=true):x:=by subst hb; exact h
theorem BJ {b:Bool} {x y:Prop} (h:br b x y) (hb:b=false):y:=by subst hb; exact h
theorem m7 {b:Bool} {x y:Prop} (h:b=true) (hx:x):br b x y:=by subst h; exact hx
def xI (p:Prop) [Decidable p] (k:Prop):Prop:=br (decide p) k False
theorem Bs {p:Prop} [Decidable p] {k:Prop} (h:xI p k):p∧k:=by
 unfold xI br at h
 split at h
 ·rename_i hp; exact ⟨of_decide_eq_true hp,h⟩
 ·exact h.elim
open Go Go.RowKit
inductive TK where
 | int (k:IntKind) | bool | str
 | struct (fs:List (Nat × Nat × Bool))      -- offset,size,is it a struct or an array
 | slice (e:TypeId)
 | array (n:Nat) (e:TypeId)
 | other
structure TI where
 size:Nat
 bytes:Nat
 kind:TK
 zero:List Value
def TI.agg (ti:TI):Bool:=match ti.kind with | .struct _ | .array _ _=>true | _=>false
abbrev TT:=TypeId→Option TI
def uF:TypeDesc→Bool
 | .struct _ | .array _ _=>true
 | _=>false
def yS (P:Program) (f:Field) (x:Nat × Nat × Bool):Prop :=
 f.offset=x.1∧0 < x.2.1∧(∃ i,P.info? f.type=some i∧i.size=x.2.1)∧∃ d,P.underlying f.type=some d∧uF d=x.2.2
def DE (P:Program) (k:TK) (d:TypeDesc):Prop :=
 match k with
 | .int q=>d=.int q
 | .bool=>d=.bool
 | .str=>d=.string
 | .struct fs=>∃ fields,d=.struct fields∧fields.size=fs.length∧∀ (i:Nat) f x,fields[i]?=some f→fs[i]?=some x→yS P f x
 | .slice e=>d=.slice e
 | .array n e=>d=.array n e
 | .other=>uF d=false
structure aC (P:Program) (t:TypeId) (ti:TI):Prop where
 info:∃ i,P.info? t=some i∧i.size=ti.size∧i.bytes=ti.bytes∧∃ z,i.zero=some z∧z.cells=⟨ti.zero⟩
 under:∃ d,P.underlying t=some d∧DE P ti.kind d
 self:∀ ν,bg ν ti.zero ti.zero
 len:ti.zero.length=ti.size
 one:∀ v∈ti.zero,v.oneCell'=true
 bit:0 < ti.size∧0 < ti.bytes
theorem aC.adO {P:Program} {t:TypeId} {ti:TI} (h:aC P t ti):∃ d,P.underlying t=some d∧uF d=ti.agg:=by
 obtain ⟨d,h1,J⟩:=h.under;refine ⟨d,h1,?_⟩;unfold DE at J;unfold TI.agg
 split at J <;> rename_i hk <;> rw [hk] <;> first | (subst J; rfl) | (obtain ⟨_,rfl,_⟩:=J; rfl) | (simpa using J)
theorem LX {P:Program} {t:TypeId} {d:TypeDesc} (h:P.underlying t=some d) (w:World):(isAgg t).run P w=.ok (uF d) w:=by
 unfold isAgg underlying;simp [h];cases d <;> rfl
theorem gC {P:Program} {t:TypeId} {i:TypeInfo} (h:P.info? t=some i) (w:World):(sizeOf t).run P w=.ok i.size w:=by simp [sizeOf,typeInfo,h]
theorem v8 {P:Program} {t:TypeId} {i:TypeInfo} {z:Value} (h:P.info? t=some i) (hz:i.zero=some z) (w:World):(zeroValue t).run P w=.ok z w:=by
 simp [zeroValue,typeInfo,h,hz]
theorem dC {P:Program} {t:TypeId} {d:TypeDesc} (h:P.underlying t=some d) (w:World):(underlying t).run P w=.ok d w:=by simp [underlying,h]
theorem Ko {P:Program} {t:TypeId} {ti:TI} (h:aC P t ti) {w:World} {a:Addr} {cs:List Value} (hl:cs.length=ti.size)
  (hc:∀ j v,cs[j]?=some v→w.cell? (a.add j)=some v) :
  (loadVar t a).run P w=.ok (if ti.agg then .agg ⟨cs⟩ else cs.getD 0 undef) w:=by
 obtain ⟨d,h1,J⟩:=h.adO;obtain ⟨i,hi,hs,_⟩:=h.info;unfold loadVar;simp only [Sem.run_bind,LX h1,Result.andThen_ok,Sem.run_ite];rw [J]
 split
 ·simp only [Sem.run_bind,gC hi,Result.andThen_ok];rw [hs,← hl,run_loadCells_list w a cs hc]
  rfl
 ·have hp:=h.bit.1;cases cs with
  | nil=>simp at hl; omega
  | cons v r =>
   have:=hc 0 v rfl;simp only [Addr.add,if_true] at this;simp [run_load,this]
theorem Vu (b o j:Nat):(⟨b,o,none⟩:Addr).add j=⟨b,o+j,none⟩:=by unfold Addr.add; split <;> simp_all
theorem Loc.jO (l:Loc) (row cf j:Nat):(l.at row cf).add j=l.at row (cf+j):=by
 unfold Loc.at; rw [Vu]; congr 1; omega
open Go Go.RowKit
structure bF where
 ι:Type
 args:ι→List Value
 pre:ι→Prop
 val:ι→Value
structure aY where
 ι:Type
 args:ι→List Value
 ah:ι→List ai
 pre:ι→Prop
 val:ι→Value
 new:ι→Option ai
inductive uO where
 | p (S:bF)
 | q (S:aY)
 | r (S:aY)
abbrev zk:=FuncId→Option uO
def WF (r:Option Nat):Fence:={ Fence.wide with round:=r }
structure bk (P:Program) (f:FuncId) (S:bF):Prop where
 enters:∀ args w,(callFunc f args).run P w=.ok (.enter f args) w
 calls:∀ (i:S.ι),S.pre i→∀ (ν:Nu) (as:List Value) (w:World) (n:Nat),bg ν (S.args i) as →
  CallsIn Fence.wide n P f ⟨as⟩ w fun e w'=>∃ v',e=.returned v'∧ar ν (S.val i) v'∧Below w.heap.size w w'
structure nc (ν aj:Nu) (aK:Nat) (w w':World) (v v':Value) (nb:Option ai):Prop where
 le:ν.le aj
 only:∀ id,id≠aK→aj id=ν id
 val:ar aj v v'
 below:Below w.heap.size w w'
 z6:nb=none→aj=ν
 ig:∀ b,nb=some b→∃ l,aj aK=some l∧bQ aj l b w'∧w.heap.size≤l.aI
structure dq (P:Program) (f:FuncId) (S:aY):Prop where
 enters:∀ args w,(callFunc f args).run P w=.ok (.enter f args) w
 ro:∀ i b,b∈S.ah i→b.own=false
 fl:∀ i b,S.new i=some b→b.jc=true
 calls:∀ (i:S.ι),S.pre i→∀ (ν:Nu) (as:List Value) (w:World) (n:Nat),bg ν (S.args i) as→bS ν ((S.ah i).map some) w→(∀ id,(S.ah i).length≤id→ν id=none) →
  CallsIn Fence.wide n P f ⟨as⟩ w fun e w'=>∃ v' aj,e=.returned v'∧nc ν aj (S.ah i).length w w' (S.val i) v' (S.new i)
def Dc (P:Program) (f:FuncId):uO→Prop
 | .p S=>bk P f S
 | .q S=>dq P f S
 | .r S=>dq P f S
abbrev QK:=Value→Option ai→Prop
def qn (v:Value) (k:Value→Prop):Prop :=
 match v with
 | .bool b=>k (.bool b)
 | .int q n=>k (.int q n)
 | .string s=>k (.string s)
 | .agg cs=>k (.agg cs)
 | .tuple cs=>k (.tuple cs)
 | .pointer a=>k (.pointer a)
 | .slice a n c=>k (.slice a n c)
 | .func f a b=>k (.func f a b)
 | .nilFunc=>k .nilFunc
 | _=>False
theorem v9 {v:Value} {k:Value→Prop} (h:qn v k):k v:=by
 unfold qn at h; split at h <;> first | exact h | exact h.elim
def qO:List Value→List Value→(List Value→Prop)→Prop
 | [],l,k=>k l
 | x::xs,l,k=>qO xs l fun r=>k (x::r)
theorem wq:∀ {xs l:List Value} {k:List Value→Prop},qO xs l k→k (xs++l)
 | [],_,_,h=>h
 | _::xs,l,k,h=>wq (xs:=xs) h
def p6:List Value→Nat→Bool
 | [],0=>true
 | v::l,n+1=>v.oneCell' && p6 l n
 | _,_=>false
theorem yh:∀ {l:List Value} {n:Nat},p6 l n=true→l.length=n∧∀ v∈l,v.oneCell'=true
 | [],0,_=>⟨rfl,fun v hv=>by simp at hv⟩
 | v::l,n+1,h=>by
  simp only [p6,Bool.and_eq_true] at h;obtain ⟨h1,J⟩:=yh h.2;exact ⟨by simp [h1],fun u hu=>by
   rcases List.mem_cons.1 hu with e | e
   ·rw [e]; exact h.1
   ·exact J u e⟩
 | [],_+1,h=>by simp [p6] at h
 | _::_,0,h=>by simp [p6] at h
def xe (v:Value) (k:List Value→Prop):Prop :=
 match v with
 | .agg cs=>k cs.toList
 | .tuple _=>False
 | v=>k [v]
theorem A7 {v:Value} {k:List Value→Prop} (h:xe v k):k v.cells.toList:=by
 unfold xe at h
 split at h
 ·exact h
 ·exact h.elim
 ·rename_i h1 J;cases v <;> first | exact h | exact absurd rfl (h1 _)
def Hq:List (List Value)→Nat→(List Value→Prop)→Prop
 | [],_,_=>False
 | r::_,0,k=>k r
 | _::rs,n+1,k=>Hq rs n k
theorem K8:∀ {rs:List (List Value)} {n:Nat} {k:List Value→Prop},Hq rs n k→∃ r,rs[n]?=some r∧k r
 | [],_,_,h=>h.elim
 | r::_,0,_,h=>⟨r,rfl,h⟩
 | _::rs,n+1,k,h=>by obtain ⟨r,h1,J⟩:=K8 (rs:=rs) h; exact ⟨r,by simpa using h1,J⟩
def HV (b:ai) (row:Nat) (k:List Value→Prop):Prop :=
 match b with
 | .aS _ _ rows=>Hq rows row k
 | .flat _ n _ get=>row < n∧k (get row)
 | .cj _=>False
theorem LY {b:ai} {row:Nat} {k:List Value→Prop} (h:HV b row k):row < b.n∧k (b.row row):=by
 cases b with
 | aS o e rows =>
  obtain ⟨r,h1,J⟩:=K8 h;exact ⟨(List.getElem?_eq_some_iff.1 h1).1,by simpa [ai.row,List.getD,h1] using J⟩
 | flat o n e get=>exact h
 | cj r=>exact h.elim
def yX:List (Nat × Nat × Bool)→Nat→(Nat→Nat→Bool→Prop)→Prop
 | [],_,_=>False
 | (a,b,c)::_,0,k=>k a b c
 | _::l,n+1,k=>yX l n k
theorem A8:∀ {l:List (Nat × Nat × Bool)} {n:Nat} {k:Nat→Nat→Bool→Prop},yX l n k→∃ x,l[n]?=some x∧k x.1 x.2.1 x.2.2
 | [],_,_,h=>h.elim
 | x::_,0,_,h=>⟨x,rfl,h⟩
 | _::l,n+1,k,h=>by obtain ⟨r,h1,J⟩:=A8 (l:=l) h; exact ⟨r,by simpa using h1,J⟩
def fa (a b:Nat):Nat:=match a with | 0=>b | a+1=>(a+1)+b
theorem aA (a b:Nat):fa a b=a+b:=by cases a <;> simp [fa]
def cK (tt:TT) (t:TypeId) (k:TI→Prop):Prop:=match tt t with | some ti=>k ti | none=>False
theorem cP {tt:TT} {t:TypeId} {k:TI→Prop} (h:cK tt t k):∃ ti,tt t=some ti∧k ti:=by
 unfold cK at h; split at h
 ·exact ⟨_,by assumption,h⟩
 ·exact h.elim
def valOf (agg:Bool) (cs:List Value):Value:=match agg,cs with | true,cs=>.agg ⟨cs⟩ | false,v::_=>v | false,[]=>undef
def Dd (agg:Bool) (cs:List Value) (k:Value→Prop):Prop :=
 match agg,cs with
 | true,cs=>k (.agg ⟨cs⟩)
 | false,v::_=>qn v k
 | false,[]=>k undef
def IN (sp:Option Nat) (k:Nat→Prop):Prop:=match sp with | none=>k 0 | some c=>k c
theorem MS {sp:Option Nat} {k:Nat→Prop} (h:IN sp k):k (sp.getD 0):=by cases sp <;> exact h
def b9 (s:ByteArray) (i:Nat):Nat:=(s.data.toList.getD i 0).toNat
def CO (tmps:List Value) (x:Operand) (k:QK):Prop:=bZ tmps x fun v=>k v none
def O7 (tmps:List Value) (c a b:Operand) (k:QK):Prop :=
 bZ tmps c fun cv=>match cv with
  | .bool t=>bZ tmps a fun av=>bZ tmps b fun bv =>
   match av,bv with
   | .bool x,.bool y=>k (.bool (bif t then x else y)) none
   | av,bv=>br t (k av none) (k bv none)
  | _=>False
def m8:List Value→List Value→Option (List Value)
 | [],l=>some l
 | .int q n::z,.int q' n'::l=>match decide (q=q') && decide (n=n') with | true=>m8 z l | false=>none
 | .bool b::z,.bool b'::l=>match b == b' with | true=>m8 z l | false=>none
 | .string s::z,.string s'::l=>match Nat.beq s.size 0 && Nat.beq s'.size 0 with | true=>m8 z l | false=>none
 | _,_=>none
def zl (z:List Value):Nat→List Value→Bool
 | 0,[]=>true
 | 0,_::_=>false
 | n+1,l=>match m8 z l with | some l'=>zl z n l' | none=>false
def Ov (tt:TT) (t:TypeId) (aK:Nat) (k:QK):Prop :=
 cK tt t fun ti=>match ti.kind with
  | .array n e=>cK tt e fun te=>match Nat.beq te.size 1 && zl te.zero n ti.zero with
   | true=>k (.pointer (some ⟨aK,0,none⟩)) (some (.flat true n te.size fun _=>te.zero))
   | false=>k (.pointer (some ⟨aK,0,none⟩)) (some (.aS true ti.size [ti.zero]))
  | _=>k (.pointer (some ⟨aK,0,none⟩)) (some (.aS true ti.size [ti.zero]))
def PJ (tt:TT) (tmps:List Value) (t:TypeId) (x:Operand) (aK:Nat) (k:QK):Prop :=
 cK tt t fun ti=>bZ tmps x fun v=>xe v fun cs=>match p6 cs ti.size with
  | true=>k (.pointer (some ⟨aK,0,none⟩)) (some (.aS true ti.size [cs]))
  | false=>False
def Hr (tt:TT) (tmps:List Value) (H:ay) (t:TypeId) (a:Operand) (k:QK):Prop :=
 bZ tmps a fun av=>match av with
  | .pointer (some ⟨id,row,sp⟩)=>cK tt t fun ti=>gR H id fun b=>HV b row fun cs=>IN sp fun c=>uN cs c ti.size fun vs=>Dd ti.agg vs fun v=>k v none
  | _=>False
def K9 (tt:TT) (tmps:List Value) (t:TypeId) (x:Operand) (f:Nat) (k:QK):Prop :=
 bZ tmps x fun av=>match av with
  | .pointer (some ⟨id,row,sp⟩)=>cK tt t fun ti=>match ti.kind with
   | .struct fs=>yX fs f fun off _ _=>IN sp fun c=>k (.pointer (some ⟨id,row,some (c+off)⟩)) none
   | _=>False
  | _=>False
def Ow (tt:TT) (tmps:List Value) (t:TypeId) (x:Operand) (f:Nat) (k:QK):Prop :=
 bZ tmps x fun av=>match av with
  | .agg cs=>cK tt t fun ti=>match ti.kind with
   | .struct fs=>yX fs f fun off sz ag=>uN cs.toList off sz fun vs=>Dd ag vs fun v=>k v none
   | _=>False
  | _=>False
def EZ (tt:TT) (tmps:List Value) (H:ay) (t:TypeId) (x ix:Operand) (k:QK):Prop :=
 bZ tmps x fun xv=>bZ tmps ix fun iv=>match iv with
  | .int _ i=>cK tt t fun ti=>match ti.kind with
   | .slice e=>match xv with
    | .slice (some ⟨id,row,none⟩) n _=>cK tt e fun te=>gR H id fun b =>
     (0≤i∧i < (n:Int))∧match Nat.beq b.ae te.size with
      | true=>k (.pointer (some ⟨id,fa row i.toNat,none⟩)) none
      | false=>False
    | _=>False
   | .array n e=>match xv with
    | .pointer (some ⟨id,row,none⟩)=>cK tt e fun te=>gR H id fun b=>(0≤i∧i < (n:Int))∧match Nat.beq b.ae te.size with
     | true=>k (.pointer (some ⟨id,fa row i.toNat,none⟩)) none
     | false=>k (.pointer (some ⟨id,row,some (0+i.toNat*te.size)⟩)) none
    | .pointer (some ⟨id,row,some c⟩)=>cK tt e fun te=>(0≤i∧i < (n:Int))∧k (.pointer (some ⟨id,row,some (c+i.toNat*te.size)⟩)) none
    | _=>False
   | _=>False
  | _=>False
def Ox (tt:TT) (tmps:List Value) (t:TypeId) (x ix:Operand) (k:QK):Prop :=
 bZ tmps x fun xv=>bZ tmps ix fun iv=>match iv with
  | .int _ i=>cK tt t fun ti=>match ti.kind with
   | .str=>match xv with
    | .string s=>(0≤i∧i < (s.size:Int))∧k (.int .u8 (b9 s i.toNat)) none
    | _=>False
   | _=>False
  | _=>False
def FQ (tmps:List Value) (x:Operand) (ix:Nat) (k:QK):Prop :=
 bZ tmps x fun xv=>match xv with
  | .tuple vs=>qN vs.toList ix fun v=>k v none
  | _=>False
def LZ (tmps:List Value) (fn:Fn) (first cap:List Operand) (k:QK):Prop :=
 qm tmps first fun a=>qm tmps cap fun b=>k (.func fn ⟨a⟩ ⟨b⟩) none
def Qz (tmps:List Value) (op:UnOp) (x:Operand) (k:QK):Prop :=
 bZ tmps x fun xv=>match op,xv with
  | .neg,.int q n=>k (.int q (q.wrap (0 - n))) none
  | .not,.bool b=>k (.bool !b) none
  | .xor,.int q n=>match Op.intBits .xor q (if q.signed then -1 else q.max) n with
   | .pure v=>qn v fun v=>match cH v with | true=>k v none | false=>False
   | _=>False
  | _,_=>False
def eU:List Value→List Value→Bool
 | [],[]=>true
 | .bool a::l,.bool b::m=>(a == b) && eU l m
 | .int _ a::l,.int _ b::m=>(a == b) && eU l m
 | .string a::l,.string b::m=>(a.toList == b.toList) && eU l m
 | _,_=>false
def e9:List Value→List Value→Bool
 | [],[]=>true
 | .bool _::l,.bool _::m=>e9 l m
 | .int q _::l,.int q' _::m=>decide (q=q') && e9 l m
 | .string _::l,.string _::m=>e9 l m
 | _,_=>false
def xJ (P:Program) (t:TypeId) (zero:List Value):Prop :=
 ∀ xs ys w,e9 xs zero=true→e9 ys zero=true→(Op.equal t (.agg ⟨xs⟩) (.agg ⟨ys⟩)).run P w=.ok (eU xs ys) w∧∀ x y op,(eqGuard op t x y (.agg ⟨xs⟩) (.agg ⟨ys⟩)).run P w=.ok () w
def O8 (op:BinOp) (q:IntKind) (a b:Int) (k:QK):Prop :=
 match op with
 | .and | .or | .xor | .andNot=>match Op.intBits op q a b with
  | .pure v=>qn v fun v=>match cH v with | true=>k v none | false=>False
  | _=>False
 | _=>False
def B8 (op:BinOp) (q q':IntKind) (a b:Int) (k:QK):Prop :=
 match op with
 | .shl=>xI (0≤b) <| k (.int q (q.wrap (a*2 ^ (min b.toNat q.bits)))) none
 | .shr=>xI (0≤b) <| k (.int q (a.fdiv (2 ^ (min b.toNat q.bits)))) none
 | op=>match decide (q=q') with
  | true=>match op with
   | .add=>k (.int q (q.wrap (a+b))) none
   | .sub=>k (.int q (q.wrap (a - b))) none
   | .mul=>k (.int q (q.wrap (a*b))) none
   | .quo=>xI (b≠0) <| k (.int q (q.wrap (a.tdiv b))) none
   | .rem=>xI (b≠0) <| k (.int q (a.tmod b)) none
   | .eql=>k (.bool (a == b)) none
   | .neq=>k (.bool (a != b)) none
   | .lss=>k (.bool (decide (a < b))) none
   | .leq=>k (.bool (decide (a≤b))) none
   | .gtr=>k (.bool (decide (a > b))) none
   | .geq=>k (.bool (decide (a ≥ b))) none
   | op=>O8 op q a b k
  | false=>False
def NG (op:BinOp) (a b:ByteArray) (k:QK):Prop :=
 match op with
 | .add=>(a.size+b.size < 9223372036854775808)∧k (.string (a++b)) none
 | .eql=>k (.bool (a.toList == b.toList)) none
 | .neq=>k (.bool !(a.toList == b.toList)) none
 | .lss=>k (.bool (Op.bytesLess a.toList b.toList)) none
 | .gtr=>k (.bool !(Op.bytesLess a.toList b.toList || a.toList == b.toList)) none
 | _=>False
def FR (tk:TK) (op:BinOp) (a b:Bool) (k:QK):Prop :=
 match tk,op with
 | .bool,.eql=>k (.bool (a == b)) none
 | .bool,.neq=>k (.bool !(a == b)) none
 | _,_=>False
def Gq (eqs:List TypeId) (t:TypeId) (zero:List Value) (op:BinOp) (a b:List Value) (k:QK):Prop :=
 match eqs.contains t && e9 a zero && e9 b zero,op with
 | true,.eql=>k (.bool (eU a b)) none
 | true,.neq=>k (.bool !(eU a b)) none
 | _,_=>False
def Gr (tk:TK) (op:BinOp) (a:Option Addr) (k:QK):Prop :=
 match tk,op,a with
 | .slice _,.eql,none=>k (.bool true) none
 | .slice _,.eql,some _=>k (.bool false) none
 | .slice _,.neq,none=>k (.bool false) none
 | .slice _,.neq,some _=>k (.bool true) none
 | _,_,_=>False
def De (tt:TT) (eqs:List TypeId) (tmps:List Value) (op:BinOp) (t:TypeId) (x y:Operand) (k:QK):Prop :=
 bZ tmps x fun xv=>bZ tmps y fun yv=>match xv,yv with
  | .int q a,.int q' b=>B8 op q q' a b k
  | .string a,.string b=>NG op a b k
  | .bool a,.bool b=>cK tt t fun ti=>FR ti.kind op a b k
  | .agg a,.agg b=>cK tt t fun ti=>Gq eqs t ti.zero op a.toList b.toList k
  | .slice a _ _,.slice none 0 0=>cK tt t fun ti=>Gr ti.kind op a k
  | _,_=>False
def bytesOf (get:Nat→List Value) (row n:Nat):List UInt8:=(List.range n).map fun r=>match get (row+r) with | .int _ x::_=>UInt8.ofNat x.toNat | _=>0
def MT (tt:TT) (tmps:List Value) (H:ay) (src dst:TypeId) (x:Operand) (aK:Nat) (k:QK):Prop :=
 bZ tmps x fun xv=>cK tt src fun ts=>cK tt dst fun td=>match td.kind,xv with
  | .int q,.int _ n=>match ts.kind with
   | .int _=>k (.int q (q.wrap n)) none
   | _=>False
  | .str,.string s=>match ts.kind with
   | .str=>k (.string s) none
   | _=>False
  | .str,.slice (some ⟨id,row,none⟩) n _=>match ts.kind with
   | .slice e=>cK tt e fun te=>match te.kind with
    | .int .u8=>match n with
     | 0=>k (.string ⟨#[]⟩) none
     | n+1=>gR H id fun b=>match b.ae with
      | 1=>(row+(n+1)≤b.n∧∀ r,r < n+1→∃ x,b.row (row+r)=[.int .u8 x])∧k (.string ⟨⟨bytesOf b.row row (n+1)⟩⟩) none
      | _=>False
    | _=>False
   | _=>False
  | .str,.slice none 0 0=>match ts.kind with
   | .slice e=>cK tt e fun te=>match te.kind with
    | .int .u8=>k (.string ⟨#[]⟩) none
    | _=>False
   | _=>False
  | .slice e,.string s=>match ts.kind with
   | .str=>cK tt e fun te=>match te.kind with
    | .int .u8=>k (.slice (some ⟨aK,0,none⟩) s.size aO) (some (.flat false s.size 1 fun r=>[.int .u8 (b9 s r)]))
    | _=>False
   | _=>False
  | _,_=>False
def HW (tmps:List Value) (tt:TT) (t:TypeId) (x:Operand) (k:QK):Prop :=
 bZ tmps x fun xv=>cK tt t fun ti=>match ti.kind,xv with
  | .str,.string s=>k (.int .i64 s.size) none
  | .slice _,.slice _ n _=>k (.int .i64 n) none
  | _,_=>False
def PK (tmps:List Value) (x y:Operand) (k:QK):Prop :=
 bZ tmps x fun xv=>bZ tmps y fun yv=>match xv,yv with
  | .int q a,.int _ b=>k (.int q (if b > a then b else a)) none
  | _,_=>False
def PM (tmps:List Value) (x y:Operand) (k:QK):Prop :=
 bZ tmps x fun xv=>bZ tmps y fun yv=>match xv,yv with
  | .int q a,.int _ b=>k (.int q (if b < a then b else a)) none
  | _,_=>False
def CP (tmps:List Value) (fs:List (Nat × Nat × Bool)):List (Nat × Operand)→List Value→(List Value→Prop)→Prop
 | [],cs,k=>k cs
 | p::ps,cs,k=>bZ tmps p.2 fun v=>xe v fun vs=>yX fs p.1 fun off sz _=>match p6 vs sz with
  | true=>vf cs off vs fun eO=>CP tmps fs ps eO k
  | false=>False
def xp (sz:Nat):Nat→Nat→List (Nat × Nat × Bool)
 | _,0=>[]
 | off,n+1=>(off,sz,true)::xp sz (off+sz) n
def Oy (tt:TT) (tmps:List Value) (t:TypeId) (parts:List (Nat × Operand)) (k:QK):Prop :=
 cK tt t fun ti=>match ti.kind with
  | .struct fs=>CP tmps fs parts ti.zero fun cs=>k (.agg ⟨cs⟩) none
  | .array n e=>cK tt e fun te=>CP tmps (xp te.size 0 n) parts ti.zero fun cs=>k (.agg ⟨cs⟩) none
  | _=>False
def cT (τ:List Nat):Nat→Value→Option Value
 | 0,_=>none
 | k+1,v=>match v with
  | .bool b=>some (.bool b)
  | .int q n=>some (.int q n)
  | .string s=>some (.string s)
  | .pointer none=>some (.pointer none)
  | .pointer (some ⟨id,row,sp⟩)=>match τ[id]? with | some vx=>some (.pointer (some ⟨vx,row,sp⟩)) | none=>none
  | .slice none 0 0=>some (.slice none 0 0)
  | .slice (some ⟨id,row,none⟩) n c=>match τ[id]? with | some vx=>some (.slice (some ⟨vx,row,none⟩) n c) | none=>none
  | .nilFunc=>some .nilFunc
  | .agg ⟨l⟩=>match l.foldr (fun v acc=>match cT τ k v,acc with | some x,some xs=>some (x::xs) | _,_=>none) (some []) with | some l'=>some (.agg ⟨l'⟩) | none=>none
  | .tuple ⟨l⟩=>match l.foldr (fun v acc=>match cT τ k v,acc with | some x,some xs=>some (x::xs) | _,_=>none) (some []) with | some l'=>some (.tuple ⟨l'⟩) | none=>none
  | .func fn ⟨l⟩ ⟨m⟩=>match l.foldr (fun v acc=>match cT τ k v,acc with | some x,some xs=>some (x::xs) | _,_=>none) (some []),m.foldr (fun v acc=>match cT τ k v,acc with | some x,some xs=>some (x::xs) | _,_=>none) (some []) with
   | some l',some m'=>some (.func fn ⟨l'⟩ ⟨m'⟩) | _,_=>none
  | _=>none
def mG (τ:List Nat) (k:Nat) (l:List Value):Option (List Value):=l.foldr (fun v acc=>match cT τ k v,acc with | some x,some xs=>some (x::xs) | _,_=>none) (some [])
def mH:List Value→Bool
 | []=>true
 | v::l=>cH v && mH l
theorem dE:∀ {l:List Value},mH l=true→∀ v∈l,cH v=true
 | [],_,v,hv=>by simp at hv
 | v::l,h,u,hu=>by
  simp only [mH,Bool.and_eq_true] at h;rcases List.mem_cons.1 hu with e | e
  ·rw [e]; exact h.1
  ·exact dE h.2 u e
structure aD (b c:ai):Prop where
 own:b.own=true→c.n5=true∧c.n=b.n
 ae:c.ae=b.ae
 n:b.n≤c.n
 row:∀ r,r < b.n→b.row r=c.row r
 flat:∀ r,r < b.n→∀ v∈b.row r,cH v=true
theorem aD.aP {o o':Bool} {n e:Nat} {g:Nat→List Value} (h:o=true→o'=true) (hs:∀ r,r < n→mH (g r)=true):aD (.flat o n e g) (.flat o' n e g) :=
 ⟨fun ho=>⟨h ho,rfl⟩,rfl,Nat.le_refl _,fun _ _=>rfl,fun r hr v hv=>dE (hs r hr) v hv⟩
def zm (H:ay):List Nat→List ai→Prop→Prop
 | [],[],k=>k
 | s::σ,b::bs,k=>match b with
  | .cj _=>False
  | b=>gR H s fun c=>aD b c∧zm H σ bs k
 | _,_,_=>False
def Df (σ:List Nat) (b c:ai):Prop:=aD b c∨∃ o e r r',b=.aS false e [r]∧c=.aS o e [r']∧mG σ 3 r=some r'
def Ct (H:ay) (τ:List Nat):List Nat→List ai→Prop→Prop
 | [],[],k=>k
 | s::σ,b::bs,k=>match b with
  | .cj _=>False
  | b=>gR H s fun c=>Df τ b c∧Ct H τ σ bs k
 | _,_,_=>False
def Hs (Φ:zk) (g:FuncId) (args:List Value) (H:ay) (aK:Nat) (k:QK):Prop :=
 match Φ g with
 | some (.p S)=>∃ i:S.ι,S.args i=args∧S.pre i∧qn (S.val i) fun v=>k v none
 | some (.q S)=>∃ (i:S.ι) (σ:List Nat),mG σ 3 (S.args i)=some args∧S.pre i∧zm H σ (S.ah i) (∃ v,cT (σ++[aK]) 3 (S.val i)=some v∧qn v fun v=>k v (S.new i))
 | some (.r S)=>∃ (i:S.ι) (σ:List Nat),mG σ 3 (S.args i)=some args∧S.pre i∧Ct H σ σ (S.ah i) (∃ v,cT (σ++[aK]) 3 (S.val i)=some v∧qn v fun v=>k v (S.new i))
 | none=>False
def uG (c l:Nat):Nat:=match decide (c=aO) with | true=>aO | false=>c - l
def setRow:List (List Value)→Nat→List Value→(List (List Value)→Prop)→Prop
 | [],_,_,_=>False
 | _::rs,0,r,k=>k (r::rs)
 | q::rs,n+1,r,k=>setRow rs n r fun cg=>k (q::cg)
def rowsOf (tmps:List Value) (sz:Nat):List (Nat × Operand)→List (List Value)→(List (List Value)→Prop)→Prop
 | [],rows,k=>k rows
 | p::ps,rows,k=>bZ tmps p.2 fun v=>xe v fun cs=>match p6 cs sz with
  | true=>setRow rows p.1 cs fun jf=>rowsOf tmps sz ps jf k
  | false=>False
def HX (n:Nat) (r:List Value) (k:List (List Value)→Prop):Prop:=match n with
 | 0=>k []
 | n+1=>HX n r fun l=>k (r::l)
def GZ (ae:Nat) (rows:List (List Value)) (k:ai→Prop):Prop :=
 match rows with
 | []=>k (.flat true 0 ae fun _=>[])
 | r::rs=>k (.aS true ae (r::rs))
def KN (tt:TT) (tmps:List Value) (t:TypeId) (n:Nat) (ps:List (Nat × Operand)) (aK:Nat) (k:QK):Prop :=
 cK tt t fun ti=>match ti.kind with
  | .slice e=>cK tt e fun te=>match Nat.ble (n*te.size) 16777216 with
   | true=>HX n te.zero fun aca=>rowsOf tmps te.size ps aca fun rows=>GZ te.size rows fun b=>k (.slice (some ⟨aK,0,none⟩) n n) (some b)
   | false=>False
  | _=>False
def La (tt:TT) (tmps:List Value) (t:TypeId) (x y:Operand) (aK:Nat) (k:QK):Prop :=
 bZ tmps x fun xv=>bZ tmps y fun yv=>cK tt t fun ti=>match ti.kind with
  | .slice e=>cK tt e fun te=>match mH te.zero,xv,yv with
   | true,.int _ n,.int _ m=>(0≤n∧n≤m∧m*te.bytes≤140737488355328)∧k (.slice (some ⟨aK,0,none⟩) n.toNat m.toNat) (some (.flat true n.toNat te.size fun _=>te.zero))
   | _,_,_=>False
  | _=>False
def lO (tmps:List Value) (x:Option Operand) (d:Int) (k:Int→Prop):Prop :=
 match x with
 | none=>k d
 | some x=>bZ tmps x fun v=>match v with | .int _ n=>k n | _=>False
def G0 (tt:TT) (tmps:List Value) (H:ay) (t:TypeId) (x:Operand) (lo hi mx:Option Operand) (k:QK):Prop :=
 bZ tmps x fun xv=>cK tt t fun ti=>match ti.kind,xv with
  | .str,.string s=>match mx with
   | none=>lO tmps lo 0 fun l=>lO tmps hi s.size fun h=>(0≤l∧l≤h∧h≤s.size)∧k (.string (s.extract l.toNat h.toNat)) none
   | some _=>False
  | .slice e,.slice (some ⟨id,row,none⟩) n c=>cK tt e fun te=>gR H id fun b=>match Nat.beq b.ae te.size with
   | true=>match hi,mx with
    | hi,none=>lO tmps lo 0 fun l=>lO tmps hi n fun h=>(0≤l∧l≤h∧h≤n)∧k (.slice (some ⟨id,fa row l.toNat,none⟩) (h.toNat - l.toNat) (uG c l.toNat)) none
    | some h0,some m=>lO tmps lo 0 fun l=>bZ tmps h0 fun hv=>bZ tmps m fun mv=>match hv,mv with
     | .int _ h,.int _ m=>(0≤l∧l≤h∧h≤m∧m≤n)∧k (.slice (some ⟨id,fa row l.toNat,none⟩) (h.toNat - l.toNat) (m.toNat - l.toNat)) none
     | _,_=>False
    | none,some _=>False
   | false=>False
  | .slice e,.slice (some ⟨id,row,some b0⟩) n _=>cK tt e fun te=>gR H id fun b=>match Nat.beq b.ae te.size with
   | true=>match hi,mx with
    | hi,none=>lO tmps lo 0 fun l=>lO tmps hi n fun h=>(0≤l∧l≤h∧h≤b0)∧k (.slice (some ⟨id,fa row l.toNat,some (b0 - l.toNat)⟩) (h.toNat - l.toNat) aO) none
    | some h0,some m=>lO tmps lo 0 fun l=>bZ tmps h0 fun hv=>bZ tmps m fun mv=>match hv,mv with
     | .int _ h,.int _ m=>(0≤l∧l≤h∧h≤m∧m≤b0)∧k (.slice (some ⟨id,fa row l.toNat,none⟩) (h.toNat - l.toNat) (m.toNat - l.toNat)) none
     | _,_=>False
    | none,some _=>False
   | false=>False
  | .array n e,.pointer (some ⟨id,row,none⟩)=>cK tt e fun te=>gR H id fun b=>match Nat.beq b.ae te.size with
   | true=>match mx with
    | none=>lO tmps lo 0 fun l=>lO tmps hi n fun h=>(0≤l∧l≤h∧h≤n∧row+n≤b.n∧b.n5=true)∧k (.slice (some ⟨id,fa row l.toNat,none⟩) (h.toNat - l.toNat) (n - l.toNat)) none
    | some _=>False
   | false=>False
  | .slice e,.slice none 0 0=>cK tt e fun _=>match hi,mx with
   | hi,none=>lO tmps lo 0 fun l=>lO tmps hi 0 fun h=>(0≤l∧l≤h∧h≤0)∧k (.slice none 0 0) none
   | some h0,some m=>lO tmps lo 0 fun l=>bZ tmps h0 fun hv=>bZ tmps m fun mv=>match hv,mv with
    | .int _ h,.int _ m=>(0≤l∧l≤h∧h≤m∧m≤0)∧k (.slice none 0 0) none
    | _,_=>False
   | none,some _=>False
  | _,_=>False
def PN (tmps:List Value) (tt:TT) (t:TypeId) (x:Operand) (k:QK):Prop :=
 bZ tmps x fun xv=>cK tt t fun ti=>match ti.kind,xv with
  | .slice _,.slice none 0 0=>k (.int .i64 0) none
  | _,_=>False
def L4 (tt:TT) (tmps:List Value) (t u:TypeId) (x y:Operand) (aK:Nat) (k:QK):Prop :=
 bZ tmps x fun xv=>bZ tmps y fun yv=>cK tt t fun ti=>match ti.kind with
  | .slice e=>cK tt e fun te=>cK tt u fun tu=>match tu.kind,mH te.zero,xv,yv with
   | .int _,true,.slice none 0 0,.int .i64 n=>(0 < n∧n*te.bytes≤140737488355328)∧k (.slice (some ⟨aK,0,none⟩) n.toNat aO) (some (.flat true n.toNat te.size fun _=>te.zero))
   | _,_,_,_=>False
  | _=>False
abbrev FT:=List Value→ay→(Value→ay→Prop)→Prop
structure Env where
 tt:TT
 eqs:List TypeId
 Φ:zk
 Ψ:FuncId→Option FT:=fun _=>none
 base:Nat:=0
 iD:Bool:=false
 ys:List (Nat × FT):=[]
 rd:Bool:=false
 nu:Nu:=fun _=>none
 It:FuncId→Option (Nat→FT→Nu→FT):=fun _=>none
def ld (E:Env) (op:Op) (tmps:List Value) (H:ay) (aK:Nat) (k:QK):Prop :=
 match op with
 | .move x | .assign x=>CO tmps x k
 | .pick c a b=>O7 tmps c a b k
 | .alloc t=>Ov E.tt t aK k
 | .box t x=>PJ E.tt tmps t x aK k
 | .build t ps=>Oy E.tt tmps t ps.toList k
 | .load t a=>Hr E.tt tmps H t a k
 | .buildSlice t n ps=>KN E.tt tmps t n ps.toList aK k
 | .makeSlice t x y=>La E.tt tmps t x y aK k
 | .slice t x lo hi mx=>G0 E.tt tmps H t x lo hi mx k
 | .fieldAddr t x f=>K9 E.tt tmps t x f k
 | .field t x f=>Ow E.tt tmps t x f k
 | .indexAddr t x i=>EZ E.tt tmps H t x i k
 | .index t x i=>Ox E.tt tmps t x i k
 | .extract x i=>FQ tmps x i k
 | .makeFunc fn a b=>LZ tmps fn a.toList b.toList k
 | .unOp op _ x=>Qz tmps op x k
 | .binOp op t x y _=>De E.tt E.eqs tmps op t x y k
 | .convert s d x=>MT E.tt tmps H s d x aK k
 | .call c=>match c.callee with
  | .value f=>bZ tmps f fun fv=>match fv with
   | .func (.func g) a b=>qm tmps c.args.toList fun vs=>qO a.toList vs fun l=>qO l b.toList fun args=>Hs E.Φ g args H aK k
   | _=>False
  | .builtin .len=>match c.args.toList,c.argTypes.toList with
   | [x],[t]=>HW tmps E.tt t x k
   | _,_=>False
  | .builtin .max=>match c.args.toList with
   | [x,y]=>PK tmps x y k
   | _=>False
  | .builtin .cap=>match c.args.toList,c.argTypes.toList with
   | [x],[t]=>PN tmps E.tt t x k
   | _,_=>False
  | .builtin .append=>match c.args.toList,c.argTypes.toList with
   | [x,y],[t,u]=>L4 E.tt tmps t u x y aK k
   | _,_=>False
  | .builtin .min=>match c.args.toList with
   | [x,y]=>PM tmps x y k
   | _=>False
  | _=>False
 | _=>False
def eX (P:Program) (op:Op) (tmps:List Value) (H:ay) (aK:Nat) (k:QK):Prop :=
 ∃ v nb,k v nb∧∀ (o:Oper) (ν:Nu) (a:Act) (w:World) (r:Option Nat) (n:Nat),o.op=op→(∀ x∈op.operands,fk ν tmps a x)→bS ν H w→ν aK=none →
  ∀ next Q,(∀ v' w' aj,nc ν aj aK w w' v v' nb→next (a.put o.dst v') w')→o.wpIn (WF r) n P a w next Q
def qD (P:Program) (bt:Nu) (op:Op) (tmps:List Value) (v:Value):Prop :=
 (∀ c,op≠.defer c)∧∀ (o:Oper) (ν:Nu) (a:Act) (w:World),bt.le ν→o.op=op→(∀ x∈op.operands,fk ν tmps a x)→∃ v',ar ν v v'∧(execOp a.eval o).run P w=.ok (.value v') w
theorem jK {P:Program} {r:Option Nat} {n:Nat} {o:Oper} {a:Act} {w w':World} {v':Value} (hd:∀ c,o.op≠.defer c)
  (h:(execOp a.eval o).run P w=.ok (.value v') w') (next:Act→World→Prop) (Q:Exit→Act→World→Prop) (hn:next (a.put o.dst v') w') :
  o.wpIn (WF r) n P a w next Q:=by
 refine ⟨fun _ _=>trivial,?_⟩
 rw [Oper.semAt_eq _ _ _ hd,h];exact hn
def nW (P:Program) (bt:Nu) (G:ay) (op:Op) (tmps:List Value) (v:Value):Prop :=
 (∀ c,op≠.defer c)∧∀ (o:Oper) (ν:Nu) (a:Act) (w:World),bt.le ν→o.op=op→(∀ x∈op.operands,fk ν tmps a x)→bS ν G w→∃ v',ar ν v v'∧(execOp a.eval o).run P w=.ok (.value v') w
def sM (P:Program) (op:Op) (tmps:List Value) (H:ay) (k:QK):Prop:=∃ v,k v none∧∀ bt,nW P bt H op tmps v
theorem sM.value {P:Program} {op:Op} {tmps:List Value} {H:ay} {k:QK} (hd:∀ c,op≠.defer c) {v:Value} (hk:k v none)
  (h:∀ (o:Oper) (ν:Nu) (a:Act) (w:World),o.op=op→(∀ x∈op.operands,fk ν tmps a x)→bS ν H w→∃ v',ar ν v v'∧(execOp a.eval o).run P w=.ok (.value v') w):sM P op tmps H k :=
 ⟨v,hk,fun _=>⟨hd,fun o ν a w _ ho ha hH=>h o ν a w ho ha hH⟩⟩
theorem eX.value {P:Program} {op:Op} {tmps:List Value} {H:ay} {aK:Nat} {k:QK} (hd:∀ c,op≠.defer c) {v:Value} (hk:k v none)
  (h:∀ (o:Oper) (ν:Nu) (a:Act) (w:World),o.op=op→(∀ x∈op.operands,fk ν tmps a x)→bS ν H w→∃ v',ar ν v v'∧(execOp a.eval o).run P w=.ok (.value v') w):eX P op tmps H aK k :=
 ⟨v,none,hk,fun o ν a w r n ho ha hH _ next Q hn=>by
  obtain ⟨v',hv,hr⟩:=h o ν a w ho ha hH;exact jK (by rw [ho]; exact hd) hr next Q (hn _ _ ν ⟨ν.le_refl,fun _ _=>rfl,hv,Below.refl _ _,fun _=>rfl,(fun b hb=>by cases hb)⟩)⟩
theorem sM.ok {P:Program} {op:Op} {tmps:List Value} {H:ay} {aK:Nat} {k:QK} (h:sM P op tmps H k):eX P op tmps H aK k :=
 let ⟨_,hk,hv⟩:=h
 .value (hv fun _=>none).1 hk fun o ν a w ho ha hH=>(hv ν).2 o ν a w ν.le_refl ho ha hH
open Go Go.RowKit
section
variable {P:Program} {tt:TT} {Φ:zk} {w:World} {ν:Nu} {aK:Nat} {k:QK} {tmps:List Value} {H:ay}
theorem ZW {x:Operand} (h:CO tmps x k):eX P (.move x) tmps H aK k:=by
 obtain ⟨v,hk,hv⟩:=cS h;exact .value (by simp) hk fun o ν a w ho ha _=>⟨_,hv ν a (ha x (by simp [Op.operands])),by simp [execOp,ho]⟩
theorem Vv {x:Operand} (h:CO tmps x k):eX P (.assign x) tmps H aK k:=by
 obtain ⟨v,hk,hv⟩:=cS h;exact .value (by simp) hk fun o ν a w ho ha _=>⟨_,hv ν a (ha x (by simp [Op.operands])),by simp [execOp,ho]⟩
theorem ar.kg {ν:Nu} {b:Bool} {r:Value} (h:ar ν (.bool b) r):r=.bool b:=by cases h; rfl
theorem ar.fZ {ν:Nu} {k:IntKind} {x:Int} {r:Value} (h:ar ν (.int k x) r):r=.int k x:=by cases h; rfl
theorem ar.r8 {ν:Nu} {x:ByteArray} {r:Value} (h:ar ν (.string x) r):r=.string x:=by cases h; rfl
theorem ar.oV {ν:Nu} {id row:Nat} {sp:Option Nat} {r:Value} (h:ar ν (.pointer (some ⟨id,row,sp⟩)) r):∃ l,ν id=some l∧r=.pointer (some (l.at row (sp.getD 0))):=by
 cases h with | ptr _ _ _ l h=>exact ⟨l,h,rfl⟩
theorem ZX {c x y:Operand} (h:O7 tmps c x y k):eX P (.pick c x y) tmps H aK k:=by
 obtain ⟨cv,h,hc⟩:=cS h
 split at h
 ·rename_i t;obtain ⟨av,h,hx⟩:=cS h;obtain ⟨bv,h,hy⟩:=cS h
  split at h
  ·refine .value (by simp) h fun o ν a w ho ha _=>⟨_,.bool _,?_⟩
   have hc:=(hc ν a (ha c (by simp [Op.operands]))).kg
   have hx:=(hx ν a (ha x (by simp [Op.operands]))).kg
   have hy:=(hy ν a (ha y (by simp [Op.operands]))).kg
   cases t <;> simp [execOp,ho,hc,hx,hy,asBool]
  ·cases t with
   | true =>
    refine .value (by simp) h fun o ν a w ho ha _=>⟨_,hx ν a (ha x (by simp [Op.operands])),?_⟩
    have hc:=(hc ν a (ha c (by simp [Op.operands]))).kg
    simp [execOp,ho,hc,asBool]
   | false =>
    refine .value (by simp) h fun o ν a w ho ha _=>⟨_,hy ν a (ha y (by simp [Op.operands])),?_⟩
    have hc:=(hc ν a (ha c (by simp [Op.operands]))).kg
    simp [execOp,ho,hc,asBool]
 ·exact h.elim
theorem MU {ν:Nu} {aK:Nat} (hn:ν aK=none) {ae:Nat} {cs:List Value} {eO:List Value} (hl:cs.length=ae) (hr:bg ν cs eO)
  (h1:∀ v∈cs,v.oneCell'=true) (w:World) (t:TypeId) :
  bQ (ν.add aK ⟨w.heap.size,0,ae,1⟩) ⟨w.heap.size,0,ae,1⟩ (.aS true ae [cs]) { w with heap:=w.heap.push (.cells ⟨eO⟩ t) }:=by
 have dA:({ w with heap:=w.heap.push (.cells ⟨eO⟩ t) }:World).heap[w.heap.size]?=some (.cells ⟨eO⟩ t (0,0)):=by simp
 refine ⟨rfl,fun r iS=>?_,fun r iS j v hv=>?_,fun h=>by simp [ai.jc] at h,fun r iS v hv=>?_,fun _ _=>⟨_,_,dA,?_,?_⟩,(fun r h=>nomatch h),?_⟩
 ·have:r=0:=by simp [ai.n] at iS; exact iS
  subst this; simpa [ai.row,ai.ae] using hl
 ·have:r=0:=by simp [ai.n] at iS; exact iS
  subst this;have hv:cs[j]?=some v:=by simpa [ai.row] using hv
  obtain ⟨v',J,h3⟩:=hr.get hv;refine ⟨v',?_,h3.mono (Nu.ki hn)⟩;simp only [Loc.at,World.cell?,Nat.zero_mul,Nat.zero_add];rw [dA]
  simpa using J
 ·have:r=0:=by simp [ai.n] at iS; exact iS
  subst this; exact h1 v (by simpa [ai.row] using hv)
 ·simp [← hl,hr.1]
 ·simp [ai.n]
 ·simp
theorem mY {ν:Nu} {aK:Nat} (hn:ν aK=none) {b:ai} {w w':World} {l:Loc} {v v':Value} (hb:bQ (ν.add aK l) l b w') (hB:Below w.heap.size w w') (hl:w.heap.size≤l.aI)
  (hv:ar (ν.add aK l) v v'):nc ν (ν.add aK l) aK w w' v v' (some b) :=
 ⟨Nu.ki hn,fun id bo=>Nu.jb bo,hv,hB,(fun h=>by cases h),(fun b' bB=>by cases bB; exact ⟨l,Nu.add_same,hb,hl⟩)⟩
theorem yq (w:World) (o:Obj):Below w.heap.size w { w with heap:=w.heap.push o }:=(Below.refl _ w).alloc (Nat.le_refl _) o
theorem A9:∀ {z l l':List Value},m8 z l=some l'→l=z++l'∧∀ v∈z,cH v=true
 | [],l,l',h=>by simp [m8] at h; exact ⟨by simp [h],fun v hv=>by cases hv⟩
 | .int q n::z,[],l',h=>by simp [m8] at h
 | .int q n::z,x::l,l',h=>by
  cases x <;> simp only [m8] at h <;> try (cases h)
  split at h
  ·rename_i hd;simp only [Bool.and_eq_true,decide_eq_true_eq] at hd;obtain ⟨rfl,rfl⟩:=hd;obtain ⟨h1,J⟩:=A9 h;exact ⟨by rw [h1]; rfl,fun v hv=>(List.mem_cons.1 hv).elim (fun e=>by rw [e]; rfl) (fun e=>J v e)⟩
  ·cases h
 | .bool b::z,[],l',h=>by simp [m8] at h
 | .bool b::z,x::l,l',h=>by
  cases x <;> simp only [m8] at h <;> try (cases h)
  split at h
  ·rename_i hd;have hd:=eq_of_beq hd;subst hd;obtain ⟨h1,J⟩:=A9 h;exact ⟨by rw [h1]; rfl,fun v hv=>(List.mem_cons.1 hv).elim (fun e=>by rw [e]; rfl) (fun e=>J v e)⟩
  ·cases h
 | .string s::z,[],l',h=>by simp [m8] at h
 | .string s::z,x::l,l',h=>by
  cases x <;> simp only [m8] at h <;> try (cases h)
  split at h
  ·rename_i s' _ hd;simp only [Bool.and_eq_true] at hd;have e1:=Nat.eq_of_beq_eq_true hd.1;have e2:=Nat.eq_of_beq_eq_true hd.2;have e:s=s':=by
    apply ByteArray.ext;apply Array.ext
    ·show s.size=s'.size; omega
    ·intro i h1 J;have:i < s.size:=h1;omega
   subst e;obtain ⟨h1,J⟩:=A9 h;exact ⟨by rw [h1]; rfl,fun v hv=>(List.mem_cons.1 hv).elim (fun e=>by rw [e]; rfl) (fun e=>J v e)⟩
  ·cases h
theorem Lb {z:List Value}:∀ {n:Nat} {l:List Value},zl z n l=true→l.length=n*z.length∧(∀ r,r < n→∀ (j:Nat) v,z[j]?=some v→l[r*z.length+j]?=some v)∧(0 < n→∀ v∈z,cH v=true)
 | 0,[],_=>⟨by simp,fun r hr=>absurd hr (by omega),fun h=>absurd h (by omega)⟩
 | 0,_::_,h=>by simp [zl] at h
 | n+1,l,h=>by
  simp only [zl] at h
  split at h
  ·rename_i l' he;obtain ⟨h1,J⟩:=A9 he;obtain ⟨h3,h4,_⟩:=Lb h;refine ⟨by rw [h1,List.length_append,h3,Nat.add_mul]; omega,fun r hr j v hv=>?_,fun _=>J⟩
   have hj:j < z.length:=(List.getElem?_eq_some_iff.1 hv).1;rw [h1];cases r with
   | zero=>rw [Nat.zero_mul,Nat.zero_add,List.getElem?_append_left hj]; exact hv
   | succ r =>
    rw [List.getElem?_append_right (by rw [Nat.add_mul]; omega),show (r+1)*z.length+j - z.length=r*z.length+j by rw [Nat.add_mul]; omega]
    exact h4 r (by omega) j v hv
  ·cases h
theorem W6 (hT:∀ t ti,tt t=some ti→aC P t ti) {t:TypeId} (h:Ov tt t aK k):eX P (.alloc t) tmps H aK k:=by
 obtain ⟨ti,ht,h⟩:=cP h;have bf:=hT _ _ ht;obtain ⟨i,hi,_,_,z,hz,iF⟩:=bf.info;have iT:k (.pointer (some ⟨aK,0,none⟩)) (some (.aS true ti.size [ti.zero]))→eX P (.alloc t) tmps H aK k:=fun h=>by
  refine ⟨_,_,h,fun o ν a w r n ho ha hH hn next Q hN=>jK (w':={ w with heap:=w.heap.push (.cells ⟨ti.zero⟩ t) }) (v':=.pointer (some ⟨w.heap.size,0,none⟩)) (by simp [ho]) ?_ next Q (hN _ _ (ν.add aK ⟨w.heap.size,0,ti.size,1⟩) (mY hn (MU hn bf.len (bf.self ν) bf.one w t) (yq _ _) (Nat.le_refl _) ?_))⟩
  ·simp [execOp,ho,Instr.alloc,v8 hi hz,newVar,newRow,iF]
  ·have:=ar.ptr (ν:=ν.add aK ⟨w.heap.size,0,ti.size,1⟩) aK 0 none _ Nu.add_same
   simpa [Loc.at] using this
 split at h
 ·rename_i n e hk;obtain ⟨te,he,h⟩:=cP h;have Dg:=hT _ _ he
  split at h
  ·rename_i pC;rw [Bool.and_eq_true] at pC;obtain ⟨z1,z2,z3⟩:=Lb pC.2;refine ⟨_,_,h,fun o ν a w r nn ho ha hH hn next Q hN=>jK (w':={ w with heap:=w.heap.push (.cells ⟨ti.zero⟩ t) }) (v':=.pointer (some ⟨w.heap.size,0,none⟩)) (by simp [ho]) ?_ next Q (hN _ _ (ν.add aK ⟨w.heap.size,0,te.size,n⟩) (mY hn ?_ (yq _ _) (Nat.le_refl _) ?_))⟩
   ·simp [execOp,ho,Instr.alloc,v8 hi hz,newVar,newRow,iF]
   ·have dA:({ w with heap:=w.heap.push (.cells ⟨ti.zero⟩ t) }:World).heap[w.heap.size]?=some (.cells ⟨ti.zero⟩ t (0,0)):=by show (w.heap.push _)[w.heap.size]?=_; simp
    refine ⟨rfl,fun r hr=>Dg.len,fun r hr j v hv=>⟨v,?_,ar.ke (z3 (by have:r < n:=hr; omega) v (List.mem_of_getElem? hv))⟩,fun _ r hr v hv=>z3 (by have:r < n:=hr; omega) v hv,fun r hr v hv=>Dg.one v hv,fun _ _=>⟨_,_,dA,?_,Nat.le_refl _⟩,(fun r h=>nomatch h),?_⟩
    ·have hr:r < n:=hr;have hv:te.zero[j]?=some v:=hv;have J:=z2 r hr j v hv;simp only [Loc.at,World.cell?,Nat.zero_add];rw [dA];simp only [Option.isSome_none,Bool.false_eq_true,if_false];rw [← Dg.len]
     simpa using J
    ·simp [z1,Dg.len]
    ·show w.heap.size < (w.heap.push _).size
     simp
   ·have:=ar.ptr (ν:=ν.add aK ⟨w.heap.size,0,te.size,n⟩) aK 0 none _ Nu.add_same
    simpa [Loc.at] using this
  ·exact iT h
 ·exact iT h
theorem acb (hT:∀ t ti,tt t=some ti→aC P t ti) {t:TypeId} {x:Operand} (h:PJ tt tmps t x aK k):eX P (.box t x) tmps H aK k:=by
 obtain ⟨ti,ht,h⟩:=cP h;obtain ⟨v,h,hv⟩:=cS h;have h:=A7 h;have bf:=hT _ _ ht
 split at h
 ·rename_i he;obtain ⟨h1,J⟩:=yh he;refine ⟨_,_,h,fun o ν a w r n ho ha hH hn next Q hN=>?_⟩
  have hc:=(hv ν a (ha x (by simp [Op.operands]))).cells
  refine jK (w':={ w with heap:=w.heap.push (.cells (a.eval x).cells t) }) (v':=.pointer (some ⟨w.heap.size,0,none⟩)) (by simp [ho]) ?_ next Q (hN _ _ (ν.add aK ⟨w.heap.size,0,ti.size,1⟩) (mY hn (MU hn h1 hc J w t) (yq _ _) (Nat.le_refl _) ?_))
  ·simp [execOp,ho,Instr.box,newVar,newRow]
  ·have:=ar.ptr (ν:=ν.add aK ⟨w.heap.size,0,ti.size,1⟩) aK 0 none _ Nu.add_same
   simpa [Loc.at] using this
 ·exact h.elim
theorem L5 {ag:Bool} {cs:List Value} {k:Value→Prop} (h:Dd ag cs k):k (valOf ag cs):=by
 unfold Dd at h
 split at h
 ·exact h
 ·exact v9 h
 ·exact h
theorem Fl {ν:Nu} {ag:Bool} {cs eO:List Value} (h:bg ν cs eO):ar ν (valOf ag cs) (if ag then .agg ⟨eO⟩ else eO.getD 0 undef):=by
 cases ag with
 | true=>exact .agg _ _ h.1 h.2
 | false =>
  cases cs with
  | nil=>rw [h.ja]; exact .undef ν
  | cons v l=>obtain ⟨y,ys,rfl,h1,_⟩:=h.js; exact h1
theorem Lc {l:Loc} {b:ai} (hb:bQ ν l b w) {row off sz:Nat} {vs:List Value} (hr:row < b.n) (hl:vs.length=sz) (hv:∀ j v,vs[j]?=some v→(b.row row)[off+j]?=some v) :
  ∃ gi,bg ν vs gi∧gi.length=sz∧∀ j v,gi[j]?=some v→w.cell? ((l.at row off).add j)=some v:=by
 have key:∀ (vs:List Value) (off:Nat),(∀ j v,vs[j]?=some v→(b.row row)[off+j]?=some v)→∃ gi,bg ν vs gi∧∀ j v,gi[j]?=some v→w.cell? ((l.at row off).add j)=some v:=by
  intro vs
  induction vs with
  | nil=>exact fun _ _=>⟨[],.nil ν,fun j v hj=>by simp at hj⟩
  | cons v vs ih =>
   intro off hv;obtain ⟨v',h1,J⟩:=hb.cell row hr off v (by have:=hv 0 v rfl; simpa using this)
   obtain ⟨gi,h3,h4⟩:=ih (off+1) (fun j u hu=>by have:=hv (j+1) u (by simpa using hu); rwa [show off+(j+1)=off+1+j by omega] at this)
   refine ⟨v'::gi,.cons J h3,fun j u hu=>?_⟩
   cases j with
   | zero=>rw [Loc.jO]; simp at hu; subst hu; simpa using h1
   | succ j=>have:=h4 j u (by simpa using hu); rw [Loc.jO] at this ⊢; rwa [show off+(j+1)=off+1+j by omega]
 obtain ⟨gi,h1,J⟩:=key vs off hv;exact ⟨gi,h1,by rw [← h1.1,hl],J⟩
theorem NH (hT:∀ t ti,tt t=some ti→aC P t ti) {t:TypeId} {x:Operand} (h:Hr tt tmps H t x k):sM P (.load t x) tmps H k:=by
 obtain ⟨av,h,hv⟩:=cS h
 split at h
 ·rename_i id row sp;obtain ⟨ti,ht,h⟩:=cP h;obtain ⟨b,hb,h⟩:=gK h;obtain ⟨hr,h⟩:=LY h;have h:=MS h;obtain ⟨vs,h,hl,fG⟩:=yo h;have h:=L5 h;refine .value (by simp) h fun o ν a w ho ha hH=>?_
  obtain ⟨l,pD,hB⟩:=hH.aI id b hb;obtain ⟨l',gy,he⟩:=(hv ν a (ha x (by simp [Op.operands]))).oV
  rw [pD] at gy; cases gy;obtain ⟨gi,h1,J,h3⟩:=Lc hB hr hl fG;exact ⟨_,Fl h1,by simp [execOp,ho,Instr.loadAt,he,Instr.sureAddr,Ko (hT _ _ ht) J h3]⟩
 ·exact h.elim
theorem ZY (hT:∀ t ti,tt t=some ti→aC P t ti) {t:TypeId} {x:Operand} (h:Hr tt tmps H t x k):eX P (.load t x) tmps H aK k:=(NH hT h).ok
theorem Su (hT:∀ t ti,tt t=some ti→aC P t ti) {t:TypeId} {x:Operand} {f:Nat} (h:K9 tt tmps t x f k):eX P (.fieldAddr t x f) tmps H aK k:=by
 obtain ⟨av,h,hv⟩:=cS h
 split at h
 ·rename_i id row sp;obtain ⟨ti,ht,h⟩:=cP h
  split at h
  ·rename_i fs hk;obtain ⟨x',qY,h⟩:=A8 h;have h:=MS h;obtain ⟨d,hu,hd⟩:=(hT _ _ ht).under;rw [hk] at hd;obtain ⟨fields,rfl,bm,hf⟩:=hd;have al:f < fields.size:=by rw [bm]; exact (List.getElem?_eq_some_iff.1 qY).1
   have j5:fields[f]?=some fields[f]:=Array.getElem?_eq_getElem al;obtain ⟨h1,J,⟨i,h3,h4⟩,_⟩:=hf f _ _ j5 qY;refine .value (by simp) h fun o ν a w ho ha hH=>?_
   obtain ⟨l,hl,he⟩:=(hv ν a (ha x (by simp [Op.operands]))).oV
   refine ⟨.pointer (some (l.at row (sp.getD 0+x'.1))),.ptr _ _ (some _) _ hl,?_⟩;have aJ:¬ (i.size=0):=by omega
   simp [execOp,ho,Instr.fieldAt,dC hu,j5,he,Instr.sureAddr,fieldPlace,gC h3,aJ,h1,Loc.jO]
  ·exact h.elim
 ·exact h.elim
theorem FU {P:Program} {f:Field} {x:Nat × Nat × Bool} (hf:yS P f x) {cs vs:List Value} (hl:vs.length=x.2.1) (hv:∀ j v,vs[j]?=some v→cs[x.1+j]?=some v) (w:World) :
  (part f.type ⟨cs⟩ f.offset).run P w=.ok (if x.2.2 then .agg ⟨vs⟩ else vs.getD 0 undef) w:=by
 obtain ⟨h1,J,⟨i,h3,h4⟩,d,h5,h6⟩:=hf;unfold part;simp only [Sem.run_bind,LX h5,Result.andThen_ok,Sem.run_ite,h6]
 split
 ·simp only [Sem.run_bind,gC h3,Result.andThen_ok,h1,h4,← hl,Sem.run_pure]
  congr 2
  apply Array.ext';simp only [Array.toList_extract];apply List.ext_getElem?;intro j;by_cases hj:j < vs.length
  ·have:=hv j vs[j] (List.getElem?_eq_getElem hj);simp [List.extract,List.getElem?_take,List.getElem?_drop,hj,this]
  ·rw [List.getElem?_eq_none (by omega:vs.length≤j)]
   simp [List.extract,List.getElem?_take,hj]
 ·cases vs with
  | nil=>simp at hl; omega
  | cons v l =>
   have:=hv 0 v rfl;simp only [Nat.add_zero] at this;simp [h1,this]
theorem W7 (hT:∀ t ti,tt t=some ti→aC P t ti) {t:TypeId} {x:Operand} {f:Nat} (h:Ow tt tmps t x f k):eX P (.field t x f) tmps H aK k:=by
 obtain ⟨av,h,hv⟩:=cS h
 split at h
 ·rename_i cs;obtain ⟨ti,ht,h⟩:=cP h
  split at h
  ·rename_i fs hk;obtain ⟨x',qY,h⟩:=A8 h;obtain ⟨vs,h,hl,fG⟩:=yo h;have h:=L5 h;obtain ⟨d,hu,hd⟩:=(hT _ _ ht).under;rw [hk] at hd;obtain ⟨fields,rfl,bm,hf⟩:=hd;have al:f < fields.size:=by rw [bm]; exact (List.getElem?_eq_some_iff.1 qY).1
   have j5:fields[f]?=some fields[f]:=Array.getElem?_eq_getElem al;have bf:=hf f _ _ j5 qY;refine .value (by simp) h fun o ν a w ho ha hH=>?_
   obtain ⟨ys,he,hy⟩:=ar.uE (xs:=cs.toList) (hv ν a (ha x (by simp [Op.operands])))
   -- the same stretch of the real cells
   have adP:∃ gi,bg ν vs gi∧gi.length=x'.2.1∧∀ j v,gi[j]?=some v→ys[x'.1+j]?=some v:=by
    refine ⟨(ys.drop x'.1).take vs.length,⟨?_,fun j a b ha hb=>?_⟩,?_,fun j v hj=>?_⟩
    ·rw [List.length_take,List.length_drop];have:∀ m,m < vs.length→x'.1+m < cs.toList.length:=fun m hm=>(List.getElem?_eq_some_iff.1 (fG m _ (List.getElem?_eq_getElem hm))).1
     have h0:=hy.1;by_cases z7:vs.length=0
     ·omega
     ·have:=this (vs.length - 1) (by omega); omega
    ·rw [List.getElem?_take,List.getElem?_drop] at hb
     split at hb
     ·exact hy.2 _ a b (fG j a ha) hb
     ·cases hb
    ·rw [List.length_take,List.length_drop,hl];have:∀ m,m < vs.length→x'.1+m < cs.toList.length:=fun m hm=>(List.getElem?_eq_some_iff.1 (fG m _ (List.getElem?_eq_getElem hm))).1
     have h0:=hy.1;have hp:=bf.2.1;have:=this (vs.length - 1) (by omega); omega
    ·rw [List.getElem?_take,List.getElem?_drop] at hj
     split at hj
     ·exact hj
     ·cases hj
   obtain ⟨gi,h1,J,h3⟩:=adP;exact ⟨_,Fl h1,by simp [execOp,ho,Instr.field,dC hu,j5,he,asAgg,FU bf J h3]⟩
  ·exact h.elim
 ·exact h.elim
theorem Up {x:Operand} {ix:Nat} (h:FQ tmps x ix k):eX P (.extract x ix) tmps H aK k:=by
 obtain ⟨v,h,hv⟩:=cS h
 split at h
 ·rename_i vs;obtain ⟨u,h1,J⟩:=oM h;refine .value (by simp) J fun o ν a w ho ha hH=>?_
  obtain ⟨ys,he,hy⟩:=ar.nN (xs:=vs.toList) (hv ν a (ha x (by simp [Op.operands])))
  obtain ⟨u',h3,h4⟩:=hy.get h1;exact ⟨_,h4,by simp [execOp,ho,he,Instr.extract,h3]⟩
 ·exact h.elim
theorem SY {fn:Fn} {f c:Array Operand} (h:LZ tmps fn f.toList c.toList k):eX P (.makeFunc fn f c) tmps H aK k:=by
 obtain ⟨vs,h,h1⟩:=Bm h;obtain ⟨us,h,J⟩:=Bm h;refine .value (by simp) h fun o ν a w ho ha hH=>?_
 have h1:=h1 ν a (fun x hx=>ha x (by simp [Op.operands]; exact .inl (by simpa using hx)))
 have J:=J ν a (fun x hx=>ha x (by simp [Op.operands]; exact .inr (by simpa using hx)))
 refine ⟨.func fn ⟨f.toList.map a.eval⟩ ⟨c.toList.map a.eval⟩,.func fn _ _ _ _ h1.1 h1.2 J.1 J.2,?_⟩;simp only [execOp,ho,Instr.makeFunc];have e1:f.map a.eval=⟨f.toList.map a.eval⟩:=by apply Array.ext'; simp
 have e2:c.map a.eval=⟨c.toList.map a.eval⟩:=by apply Array.ext'; simp
 rw [e1,e2]; rfl
theorem adQ {op:UnOp} {t:TypeId} {x:Operand} (h:Qz tmps op x k):eX P (.unOp op t x) tmps H aK k:=by
 obtain ⟨v,h,hv⟩:=cS h
 split at h
 ·refine .value (by simp) h fun o ν a w ho ha hH=>⟨_,.int _ _,?_⟩
  have hv:=(hv ν a (ha x (by simp [Op.operands]))).fZ
  simp [execOp,ho,hv,Op.unary,Op.intArith]
 ·refine .value (by simp) h fun o ν a w ho ha hH=>⟨_,.bool _,?_⟩
  have hv:=(hv ν a (ha x (by simp [Op.operands]))).kg
  simp [execOp,ho,hv,Op.unary]
 ·rename_i q m
  split at h
  ·rename_i u hu;have h:=v9 h
   split at h
   ·rename_i hs;refine .value (by simp) h fun o ν a w ho ha hH=>⟨_,ar.ke hs,?_⟩
    have hv:=(hv ν a (ha x (by simp [Op.operands]))).fZ
    simp [execOp,ho,hv,Op.unary,hu]
   ·exact h.elim
  ·exact h.elim
 ·exact h.elim
end
open Go Go.RowKit
section
variable {P:Program} {tt:TT} {w:World} {ν:Nu} {aK:Nat} {k:QK} {tmps:List Value} {H:ay}
theorem ar.ub {ν:Nu} {id row m c:Nat} {x:Value} (h:ar ν (.slice (some ⟨id,row,none⟩) m c) x) :
  (∃ l c',ν id=some l∧(c'=c∨c=aO)∧m≤c'∧row+c'≤l.cap∧x=.slice (some (l.at row 0)) m c')∨(m=0∧(0=c∨c=aO)∧∃ b,x=.slice (some b) 0 0):=by
 cases h with
 | slice _ _ _ _ c' l h hc hn hr=>exact .inl ⟨l,c',h,hc,hn,hr,rfl⟩
 | void _ _ _ b hc=>exact .inr ⟨rfl,hc,b,rfl⟩
theorem ar.Oz {ν:Nu} {id row b0 m c:Nat} {x:Value} (h:ar ν (.slice (some ⟨id,row,some b0⟩) m c) x) :
  (∃ l c',ν id=some l∧b0≤c'∧m≤c'∧row+c'≤l.cap∧x=.slice (some (l.at row 0)) m c')∨(m=0∧b0=0∧∃ b,x=.slice (some b) 0 0):=by
 cases h with
 | lY _ _ _ _ c' l h hm hn hr=>exact .inl ⟨l,c',h,hm,hn,hr,rfl⟩
 | kV _ _ a=>exact .inr ⟨rfl,rfl,a,rfl⟩
theorem ar.W8 {ν:Nu} {id row b0 m c:Nat} {x:Value} (h:ar ν (.slice (some ⟨id,row,some b0⟩) m c) x) :
  (∃ l c',ν id=some l∧b0≤c'∧m≤c'∧row+c'≤l.cap∧c=aO∧x=.slice (some (l.at row 0)) m c')∨(m=0∧b0=0∧c=aO∧∃ b,x=.slice (some b) 0 0):=by
 cases h with
 | lY _ _ _ _ c' l h hm hn hr=>exact .inl ⟨l,c',h,hm,hn,hr,rfl,rfl⟩
 | kV _ _ a=>exact .inr ⟨rfl,rfl,rfl,a,rfl⟩
theorem ar.Cu {ν:Nu} {id row m c:Nat} {sp:Option Nat} {x:Value} (h:ar ν (.slice (some ⟨id,row,sp⟩) m c) x) :
  (∃ l c',ν id=some l∧m≤c'∧row+c'≤l.cap∧x=.slice (some (l.at row 0)) m c')∨(m=0∧∃ b,x=.slice (some b) 0 0):=by
 cases h with
 | slice _ _ _ _ c' l h hc hn hr=>exact .inl ⟨l,c',h,hn,hr,rfl⟩
 | void _ _ _ b hc=>exact .inr ⟨rfl,b,rfl⟩
 | lY _ _ _ _ c' l h hm hn hr=>exact .inl ⟨l,c',h,hn,hr,rfl⟩
 | kV _ _ a=>exact .inr ⟨rfl,a,rfl⟩
theorem ar.p7 {ν:Nu} {x:Value} (h:ar ν (.slice none 0 0) x):x=.slice none 0 0:=by cases h; rfl
theorem mo {x:Option Operand} {d:Int} {k:Int→Prop} (h:lO tmps x d k):∃ n,k n∧∀ (ν:Nu) (a:Act),(∀ y∈x.toArray,fk ν tmps a y)→(x=none∧n=d)∨∃ q,x.map a.eval=some (.int q n):=by
 cases x with
 | none=>exact ⟨d,h,fun ν a _=>.inl ⟨rfl,rfl⟩⟩
 | some x =>
  obtain ⟨v,h,hv⟩:=cS h
  split at h
  ·rename_i q n;exact ⟨n,h,fun ν a ha=>.inr ⟨q,by simp [(hv ν a (ha x (by simp))).fZ]⟩⟩
  ·exact h.elim
theorem wu {q:IntKind} {n:Int} {y:Nat} {code:BoundsCode} (h0:0≤n) (h1:n≤y) (w:World):(Instr.sliceBound (.int q n) y code).run P w=.ok n.toNat w:=by
 simp [Instr.sliceBound,asIntOf,h0,h1]
theorem oL {len cap:Nat} {lo hi mx:Option Value} {l h m:Int} (hl:(lo=none∧l=0)∨∃ q,lo=some (.int q l)) (hh:(hi=none∧h=(len:Int))∨∃ q,hi=some (.int q h))
  (hm:(mx=none∧m=(cap:Int))∨((∃ q,mx=some (.int q m))∧∃ v,hi=some v)) (b0:0≤l) (b1:l≤h) (b2:h≤m) (b3:m≤cap) (ig:Bool) (w:World) :
  (Instr.sliceBounds ig len cap lo hi mx).run P w=.ok (l.toNat,h.toNat,m.toNat) w:=by
 unfold Instr.sliceBounds;rcases hm with ⟨rfl,rfl⟩ | ⟨⟨q,rfl⟩,v,rfl⟩
 ·rcases hh with ⟨rfl,rfl⟩ | ⟨q,rfl⟩
  ·rcases hl with ⟨rfl,rfl⟩ | ⟨q,rfl⟩
   ·simp
   ·simp [wu (P:=P) (q:=q) (n:=l) (y:=len) b0 (by omega)]
  ·have e:=wu (P:=P) (q:=q) (n:=h) (y:=cap) (code:=if ig then .sliceAcap else .sliceAlen) (by omega) (by omega) w
   rcases hl with ⟨rfl,rfl⟩ | ⟨q',rfl⟩
   ·simp [e]
   ·simp [e,wu (P:=P) (q:=q') (n:=l) (y:=h.toNat) b0 (by omega)]
 ·rcases hh with ⟨h',_⟩ | ⟨q',h'⟩
  ·cases h'
  ·cases h';have e0:=wu (P:=P) (q:=q) (n:=m) (y:=cap) (code:=if ig then .slice3Acap else .slice3Alen) (by omega) (by omega) w
   have e:=wu (P:=P) (q:=q') (n:=h) (y:=m.toNat) (code:=.slice3B) (by omega) (by omega) w
   rcases hl with ⟨rfl,rfl⟩ | ⟨q',rfl⟩
   ·simp [e0,e]
   ·simp [e0,e,wu (P:=P) (q:=q') (n:=l) (y:=h.toNat) b0 (by omega)]
theorem Kp (hT:∀ t ti,tt t=some ti→aC P t ti) {t:TypeId} {x:Operand} {lo hi mx:Option Operand} (h:G0 tt tmps H t x lo hi mx k):∃ v,k v none∧∀ (bt:Nu) (w0:World),bS bt H w0→qD P bt (.slice t x lo hi mx) tmps v:=by
 obtain ⟨xv,J,hx⟩:=cS h;clear h;obtain ⟨ti,ht,h⟩:=cP J;clear J;obtain ⟨d,hu,hd⟩:=(hT _ _ ht).under;have mem:∀ (o:Option Operand) y,(o=lo∨o=hi∨o=mx)→y∈o.toArray→y∈(Op.slice t x lo hi mx).operands:=by
  intro o y ho hy;simp only [Op.operands,Array.mem_append];rcases ho with rfl | rfl | rfl
  ·exact .inl (.inl (.inr hy))
  ·exact .inl (.inr hy)
  ·exact .inr hy
 have vg:x∈(Op.slice t x lo hi mx).operands:=by simp [Op.operands]
 split at h
 ·rename_i s hk;rw [hk] at hd;have hd:d=.string:=hd;subst hd
  split at h
  ·obtain ⟨l,h,hl⟩:=mo h;obtain ⟨hh,h,jA⟩:=mo h;obtain ⟨⟨b0,b1,b2⟩,h⟩:=h;refine ⟨_,h,fun bt w0 hH=>⟨by simp,fun o ν a w hle ho ha=>⟨_,.str _,?_⟩⟩⟩
   have hx:=(hx ν a (ha x vg)).r8;have e1:=hl ν a (fun y hy=>ha y (mem _ y (.inl rfl) hy))
   have e2:=jA ν a (fun y hy=>ha y (mem _ y (.inr (.inl rfl)) hy))
   have:=oL (P:=P) (len:=s.size) (cap:=s.size) (lo:=lo.map a.eval) (hi:=hi.map a.eval) (mx:=none) (l:=l) (h:=hh) (m:=s.size) (e1.imp (fun ⟨p,q⟩=>⟨by rw [p]; rfl,q⟩) (fun x=>x)) (e2.imp (fun ⟨p,q⟩=>⟨by rw [p]; rfl,q⟩) (fun x=>x)) (.inl ⟨rfl,rfl⟩) b0 b1 b2 (Int.le_refl _) false w
   simp [execOp,ho,Instr.sliceAt,dC hu,Instr.slice,hx,this]
  ·exact h.elim
 ·rename_i e id row n c hk;rw [hk] at hd;have hd:d=.slice e:=hd;subst hd;obtain ⟨te,he,J⟩:=cP h;clear h;obtain ⟨b,hb,h⟩:=gK J;clear J;obtain ⟨ei,fH,jl,_⟩:=(hT _ _ he).info
  split at h
  ·rename_i hq;have hq:b.ae=te.size:=Nat.eq_of_beq_eq_true hq
   -- what both forms come to
   have fin:∀ (o:Oper) (ν:Nu) (a:Act) (w:World) (l hh m:Int) (c1:Nat),o.op=.slice t x lo hi mx→(∀ x'∈(Op.slice t x lo hi mx).operands,fk ν tmps a x')→∀ (bt:Nu) (w0:World),bS bt H w0→bt.le ν →
     (∀ (lv hv:Nat) (c':Nat),n≤c'→(c'=c∨c=aO)→∃ mm:Int,(Instr.sliceBounds true n c' (lo.map a.eval) (hi.map a.eval) (mx.map a.eval)).run P w=.ok (l.toNat,hh.toNat,mm.toNat) w∧hh.toNat≤mm.toNat∧mm.toNat≤c'∧(mm.toNat - l.toNat=c1∨c1=aO)) →
     0≤l→l≤hh→hh≤n →
     ∃ v',ar ν (.slice (some ⟨id,fa row l.toNat,none⟩) (hh.toNat - l.toNat) c1) v'∧(execOp a.eval o).run P w=.ok (.value v') w:=by
    intro o ν a w l hh m c1 ho ha bt w0 hH hle QA b0 b1 b2;obtain ⟨l0,eP,hB⟩:=hH.aI id b hb;have eP:=hle _ _ eP;rcases (hx ν a (ha x vg)).ub with ⟨lc,c',dI,hc,hn,hr,cA⟩ | ⟨hn,hc,bb,cA⟩
    ·rw [eP] at dI; cases dI;obtain ⟨mm,bE,m1,m2,m3⟩:=QA 0 0 c' hn hc;by_cases hz:mm.toNat=l.toNat
     ·have e0:hh.toNat - l.toNat=0:=by omega
      refine ⟨.slice (some (l0.at row 0)) 0 0,?_,?_⟩
      ·rw [e0]; exact .void _ _ _ _ (m3.imp (fun h=>by omega) (fun h=>h))
      ·simp [execOp,ho,Instr.sliceAt,dC hu,Instr.slice,cA,bE,gC fH,hz,e0]
     ·refine ⟨.slice (some (l0.at (row+l.toNat) 0)) (hh.toNat - l.toNat) (mm.toNat - l.toNat),?_,?_⟩
      ·rw [aA]; exact .slice _ _ _ _ _ l0 eP m3 (by omega) (by omega)
      ·have kW:(l0.at row 0).add (l.toNat*ei.size)=l0.at (row+l.toNat) 0:=by
        rw [Loc.jO];unfold Loc.at
        congr 1
        rw [jl,← hq,← hB.ae,Nat.add_mul]; omega
       simp [execOp,ho,Instr.sliceAt,dC hu,Instr.slice,cA,bE,gC fH,hz,kW]
    ·obtain ⟨mm,bE,m1,m2,m3⟩:=QA 0 0 0 (by omega) (hc.imp (fun h=>h) (fun h=>h))
     have e0:hh.toNat - l.toNat=0:=by omega
     have e1:mm.toNat - l.toNat=0:=by omega
     have e2:l.toNat=0:=by omega
     have e3:mm.toNat=0:=by omega
     have e4:hh.toNat=0:=by omega
     refine ⟨.slice (some bb) 0 0,?_,?_⟩
     ·rw [e0]; exact .void _ _ _ _ (m3.imp (fun h=>by omega) (fun h=>h))
     ·rw [e2,e3,e4] at bE;subst hn;simp [execOp,ho,Instr.sliceAt,dC hu,Instr.slice,cA,bE,gC fH]
   split at h
   ·obtain ⟨l,h,hl⟩:=mo h;obtain ⟨hh,h,jA⟩:=mo h;obtain ⟨⟨b0,b1,b2⟩,h⟩:=h;refine ⟨_,h,fun bt w0 hH=>⟨by simp,fun o ν a w hle ho ha=>fin o ν a w l hh 0 _ ho ha bt w0 hH hle (fun _ _ c' hn hc=>⟨c',?_,by omega,by omega,?_⟩) b0 b1 b2⟩⟩
    ·have e1:=hl ν a (fun y hy=>ha y (mem _ y (.inl rfl) hy))
     have e2:=jA ν a (fun y hy=>ha y (mem _ y (.inr (.inl rfl)) hy))
     exact oL (P:=P) (e1.imp (fun ⟨p,q⟩=>⟨by rw [p]; rfl,q⟩) (fun x=>x)) (e2.imp (fun ⟨p,q⟩=>⟨by rw [p]; rfl,q⟩) (fun x=>x)) (.inl ⟨rfl,rfl⟩) b0 b1 (by omega) (Int.le_refl _) true w
    ·unfold uG;by_cases dQ:c=aO
     ·right; simp [dQ]
     ·left
      have:c'=c:=hc.resolve_right dQ;simp [dQ,this]
   ·rename_i h0 m0;obtain ⟨l,J,hl⟩:=mo h;clear h;obtain ⟨hv,h,jA⟩:=cS J;clear J;obtain ⟨mv,J,hm⟩:=cS h;clear h;have h:=J;clear J
    split at h
    ·rename_i q1 hh q2 m;obtain ⟨⟨b0,b1,b2,b3⟩,h⟩:=h;refine ⟨_,h,fun bt w0 hH=>⟨by simp,fun o ν a w hle ho ha=>fin o ν a w l hh m _ ho ha bt w0 hH hle (fun _ _ c' hn hc=>⟨m,?_,by omega,by omega,.inl rfl⟩) b0 b1 (by omega)⟩⟩
     have e1:=hl ν a (fun y hy=>ha y (mem _ y (.inl rfl) hy))
     have e2:=(jA ν a (ha h0 (mem _ h0 (.inr (.inl rfl)) (by simp)))).fZ
     have e3:=(hm ν a (ha m0 (mem _ m0 (.inr (.inr rfl)) (by simp)))).fZ
     exact oL (P:=P) (e1.imp (fun ⟨p,q⟩=>⟨by rw [p]; rfl,q⟩) (fun x=>x)) (.inr ⟨q1,by simp [e2]⟩)
      (.inr ⟨⟨q2,by simp [e3]⟩,_,rfl⟩) b0 b1 (by omega) (by omega) true w
    ·exact h.elim
   ·exact h.elim
  ·exact h.elim
 ·rename_i e id row b0 n c hk;rw [hk] at hd;have hd:d=.slice e:=hd;subst hd;obtain ⟨te,he,J⟩:=cP h;clear h;obtain ⟨b,hb,h⟩:=gK J;clear J;obtain ⟨ei,fH,jl,_⟩:=(hT _ _ he).info
  split at h
  ·rename_i hq;have hq:b.ae=te.size:=Nat.eq_of_beq_eq_true hq
   split at h
   ·obtain ⟨l,h,hl⟩:=mo h;obtain ⟨hh,h,jA⟩:=mo h;obtain ⟨⟨k0,k1,k2⟩,h⟩:=h;refine ⟨_,h,fun bt w0 hH=>⟨by simp,fun o ν a w hle ho ha=>?_⟩⟩
    obtain ⟨l0,eP,hB⟩:=hH.aI id b hb;have eP:=hle _ _ eP;have e1:=hl ν a (fun y hy=>ha y (mem _ y (.inl rfl) hy))
    have e2:=jA ν a (fun y hy=>ha y (mem _ y (.inr (.inl rfl)) hy))
    rcases (hx ν a (ha x vg)).Oz with ⟨lc,c',dI,pE,hn,hr,cA⟩ | ⟨hn,jm,bb,cA⟩
    ·rw [eP] at dI; cases dI;have bE:=oL (P:=P) (len:=n) (cap:=c') (lo:=lo.map a.eval) (hi:=hi.map a.eval) (mx:=none) (l:=l) (h:=hh) (m:=c') (e1.imp (fun ⟨p,q⟩=>⟨by rw [p]; rfl,q⟩) (fun x=>x)) (e2.imp (fun ⟨p,q⟩=>⟨by rw [p]; rfl,q⟩) (fun x=>x)) (.inl ⟨rfl,rfl⟩) k0 k1 (by omega) (Int.le_refl _) true w
     rw [Int.toNat_natCast] at bE;by_cases hz:c'=l.toNat
     ·have e0:hh.toNat - l.toNat=0:=by omega
      have e3:b0 - l.toNat=0:=by omega
      refine ⟨.slice (some (l0.at row 0)) 0 0,?_,?_⟩
      ·rw [e0,e3]; exact .kV _ _ _
      ·simp [execOp,ho,Instr.sliceAt,dC hu,Instr.slice,cA,bE,gC fH,hz.symm,← hz]
       first | done | omega
     ·refine ⟨.slice (some (l0.at (row+l.toNat) 0)) (hh.toNat - l.toNat) (c' - l.toNat),?_,?_⟩
      ·rw [aA]; exact .lY _ _ _ _ _ l0 eP (by omega) (by omega) (by omega)
      ·have kW:(l0.at row 0).add (l.toNat*ei.size)=l0.at (row+l.toNat) 0:=by
        rw [Loc.jO];unfold Loc.at
        congr 1
        rw [jl,← hq,← hB.ae,Nat.add_mul]; omega
       simp [execOp,ho,Instr.sliceAt,dC hu,Instr.slice,cA,bE,gC fH,hz,kW]
    ·have bE:=oL (P:=P) (len:=n) (cap:=0) (lo:=lo.map a.eval) (hi:=hi.map a.eval) (mx:=none) (l:=l) (h:=hh) (m:=(0:Nat)) (e1.imp (fun ⟨p,q⟩=>⟨by rw [p]; rfl,q⟩) (fun x=>x)) (e2.imp (fun ⟨p,q⟩=>⟨by rw [p]; rfl,q⟩) (fun x=>x)) (.inl ⟨rfl,rfl⟩) k0 k1 (by omega) (Int.le_refl _) true w
     have e2:l.toNat=0:=by omega
     have e4:hh.toNat=0:=by omega
     refine ⟨.slice (some bb) 0 0,?_,?_⟩
     ·rw [e4,e2,jm]; exact .kV _ _ _
     ·rw [e2,e4] at bE;subst hn;simp [execOp,ho,Instr.sliceAt,dC hu,Instr.slice,cA,bE,gC fH]
   ·rename_i h0 m0;obtain ⟨l,J,hl⟩:=mo h;clear h;obtain ⟨hv,h,jA⟩:=cS J;clear J;obtain ⟨mv,J,hm⟩:=cS h;clear h;have h:=J;clear J
    split at h
    ·rename_i q1 hh q2 m;obtain ⟨⟨k0,k1,k2,k3⟩,h⟩:=h;refine ⟨_,h,fun bt w0 hH=>⟨by simp,fun o ν a w hle ho ha=>?_⟩⟩
     obtain ⟨l0,eP,hB⟩:=hH.aI id b hb;have eP:=hle _ _ eP;have e1:=hl ν a (fun y hy=>ha y (mem _ y (.inl rfl) hy))
     have e2:=(jA ν a (ha h0 (mem _ h0 (.inr (.inl rfl)) (by simp)))).fZ
     have e3:=(hm ν a (ha m0 (mem _ m0 (.inr (.inr rfl)) (by simp)))).fZ
     rcases (hx ν a (ha x vg)).Oz with ⟨lc,c',dI,pE,hn,hr,cA⟩ | ⟨hn,jm,bb,cA⟩
     ·rw [eP] at dI; cases dI;have bE:=oL (P:=P) (len:=n) (cap:=c') (lo:=lo.map a.eval) (hi:=some (a.eval h0)) (mx:=some (a.eval m0)) (l:=l) (h:=hh) (m:=m) (e1.imp (fun ⟨p,q⟩=>⟨by rw [p]; rfl,q⟩) (fun x=>x)) (.inr ⟨q1,by rw [e2]⟩) (.inr ⟨⟨q2,by rw [e3]⟩,_,rfl⟩) k0 k1 (by omega) (by omega) true w
      by_cases hz:m.toNat=l.toNat
      ·have e0:hh.toNat - l.toNat=0:=by omega
       have e4:m.toNat - l.toNat=0:=by omega
       refine ⟨.slice (some (l0.at row 0)) 0 0,?_,?_⟩
       ·rw [e0,e4]; exact .void _ _ _ _ (.inl rfl)
       ·simp [execOp,ho,Instr.sliceAt,dC hu,Instr.slice,cA,bE,gC fH,hz,e0]
      ·refine ⟨.slice (some (l0.at (row+l.toNat) 0)) (hh.toNat - l.toNat) (m.toNat - l.toNat),?_,?_⟩
       ·rw [aA]; exact .slice _ _ _ _ _ l0 eP (.inl rfl) (by omega) (by omega)
       ·have kW:(l0.at row 0).add (l.toNat*ei.size)=l0.at (row+l.toNat) 0:=by
         rw [Loc.jO];unfold Loc.at
         congr 1
         rw [jl,← hq,← hB.ae,Nat.add_mul]; omega
        simp [execOp,ho,Instr.sliceAt,dC hu,Instr.slice,cA,bE,gC fH,hz,kW]
     ·have bE:=oL (P:=P) (len:=n) (cap:=0) (lo:=lo.map a.eval) (hi:=some (a.eval h0)) (mx:=some (a.eval m0)) (l:=l) (h:=hh) (m:=m) (e1.imp (fun ⟨p,q⟩=>⟨by rw [p]; rfl,q⟩) (fun x=>x)) (.inr ⟨q1,by rw [e2]⟩) (.inr ⟨⟨q2,by rw [e3]⟩,_,rfl⟩) k0 k1 (by omega) (by omega) true w
      have e5:l.toNat=0:=by omega
      have e6:hh.toNat=0:=by omega
      have e7:m.toNat=0:=by omega
      refine ⟨.slice (some bb) 0 0,?_,?_⟩
      ·rw [e5,e6,e7]; exact .void _ _ _ _ (.inl rfl)
      ·rw [e5,e6,e7] at bE;subst hn;simp [execOp,ho,Instr.sliceAt,dC hu,Instr.slice,cA,bE,gC fH]
    ·exact h.elim
   ·exact h.elim
  ·exact h.elim
 ·rename_i n e id row hk;rw [hk] at hd;have hd:d=.array n e:=hd;subst hd;obtain ⟨te,he,J⟩:=cP h;clear h;obtain ⟨b,hb,h⟩:=gK J;clear J;obtain ⟨ei,fH,jl,_⟩:=(hT _ _ he).info
  split at h
  ·rename_i hq;have hq:b.ae=te.size:=Nat.eq_of_beq_eq_true hq
   split at h
   ·obtain ⟨l,h,hl⟩:=mo h;obtain ⟨hh,h,jA⟩:=mo h;obtain ⟨⟨b0,b1,b2,b3,b4⟩,h⟩:=h;refine ⟨_,h,fun bt w0 hH=>⟨by simp,fun o ν a w hle ho ha=>?_⟩⟩
    obtain ⟨l0,eP,hB⟩:=hH.aI id b hb;have eP:=hle _ _ eP;obtain ⟨lp,QC,cA⟩:=(hx ν a (ha x vg)).oV;rw [eP] at QC; cases QC;have cA:a.eval x=.pointer (some (l0.at row 0)):=cA;obtain ⟨_,_,_,_,gg⟩:=hB.own (ai.cY b4).1 (ai.cY b4).2;have e1:=hl ν a (fun y hy=>ha y (mem _ y (.inl rfl) hy))
    have e2:=jA ν a (fun y hy=>ha y (mem _ y (.inr (.inl rfl)) hy))
    have bE:=oL (P:=P) (len:=n) (cap:=n) (lo:=lo.map a.eval) (hi:=hi.map a.eval) (mx:=none) (l:=l) (h:=hh) (m:=n) (e1.imp (fun ⟨p,q⟩=>⟨by rw [p]; rfl,q⟩) (fun x=>x)) (e2.imp (fun ⟨p,q⟩=>⟨by rw [p]; rfl,q⟩) (fun x=>x)) (.inl ⟨rfl,rfl⟩) b0 b1 b2 (Int.le_refl _) false w
    rw [Int.toNat_natCast] at bE;by_cases hz:n=l.toNat
    ·have e0:hh.toNat - l.toNat=0:=by omega
     have e3:n - l.toNat=0:=by omega
     refine ⟨.slice (some (l0.at row 0)) 0 0,?_,?_⟩
     ·rw [e0,e3]; exact .void _ _ _ _ (.inl rfl)
     ·simp [execOp,ho,Instr.sliceAt,dC hu,Instr.sureAddr,cA,bE,gC fH,hz.symm,← hz,e0]
      first | done | omega
    ·refine ⟨.slice (some (l0.at (row+l.toNat) 0)) (hh.toNat - l.toNat) (n - l.toNat),?_,?_⟩
     ·rw [aA]; exact .slice _ _ _ _ _ l0 eP (.inl rfl) (by omega) (by omega)
     ·have kW:(l0.at row 0).add (l.toNat*ei.size)=l0.at (row+l.toNat) 0:=by
       rw [Loc.jO];unfold Loc.at
       congr 1
       rw [jl,← hq,← hB.ae,Nat.add_mul]; omega
      simp [execOp,ho,Instr.sliceAt,dC hu,Instr.sureAddr,cA,bE,gC fH,hz,kW]
   ·exact h.elim
  ·exact h.elim
 ·rename_i e hk;rw [hk] at hd;have hd:d=.slice e:=hd;subst hd;obtain ⟨te,he,J⟩:=cP h;clear h;obtain ⟨ei,fH,jl,_⟩:=(hT _ _ he).info
  split at J
  ·obtain ⟨l,h,hl⟩:=mo J;obtain ⟨hh,h,jA⟩:=mo h;obtain ⟨⟨b0,b1,b2⟩,h⟩:=h;refine ⟨_,h,fun bt w0 hH=>⟨by simp,fun o ν a w hle ho ha=>⟨_,.iP,?_⟩⟩⟩
   have hx:=(hx ν a (ha x vg)).p7;have e1:=hl ν a (fun y hy=>ha y (mem _ y (.inl rfl) hy))
   have e2:=jA ν a (fun y hy=>ha y (mem _ y (.inr (.inl rfl)) hy))
   have:=oL (P:=P) (len:=0) (cap:=0) (lo:=lo.map a.eval) (hi:=hi.map a.eval) (mx:=none) (l:=l) (h:=hh) (m:=0) (e1.imp (fun ⟨p,q⟩=>⟨by rw [p]; rfl,q⟩) (fun x=>x)) (e2.imp (fun ⟨p,q⟩=>⟨by rw [p]; rfl,q⟩) (fun x=>x)) (.inl ⟨rfl,rfl⟩) b0 b1 b2 (by omega) true w
   rw [show l.toNat=0 by omega,show hh.toNat=0 by omega] at this
   simp [execOp,ho,Instr.sliceAt,dC hu,Instr.slice,hx,this,gC fH]
  ·rename_i h0 m0;obtain ⟨l,h,hl⟩:=mo J;clear J;obtain ⟨hv,J,jA⟩:=cS h;clear h;obtain ⟨mv,h,hm⟩:=cS J;clear J
   split at h
   ·rename_i q1 hh q2 m;obtain ⟨⟨b0,b1,b2,b3⟩,h⟩:=h;refine ⟨_,h,fun bt w0 hH=>⟨by simp,fun o ν a w hle ho ha=>⟨_,.iP,?_⟩⟩⟩
    have hx:=(hx ν a (ha x vg)).p7;have e1:=hl ν a (fun y hy=>ha y (mem _ y (.inl rfl) hy))
    have e2:=(jA ν a (ha h0 (mem _ h0 (.inr (.inl rfl)) (by simp)))).fZ
    have e3:=(hm ν a (ha m0 (mem _ m0 (.inr (.inr rfl)) (by simp)))).fZ
    have:=oL (P:=P) (len:=0) (cap:=0) (lo:=lo.map a.eval) (hi:=some (a.eval h0)) (mx:=some (a.eval m0)) (l:=l) (h:=hh) (m:=m) (e1.imp (fun ⟨p,q⟩=>⟨by rw [p]; rfl,q⟩) (fun x=>x)) (.inr ⟨q1,by rw [e2]⟩)
     (.inr ⟨⟨q2,by rw [e3]⟩,_,rfl⟩) b0 b1 b2 (by omega) true w
    rw [show l.toNat=0 by omega,show hh.toNat=0 by omega,show m.toNat=0 by omega] at this
    simp [execOp,ho,Instr.sliceAt,dC hu,Instr.slice,hx,this,gC fH]
   ·exact h.elim
  ·exact J.elim
 ·exact h.elim
theorem W9 (hT:∀ t ti,tt t=some ti→aC P t ti) {t:TypeId} {x:Operand} {lo hi mx:Option Operand} (h:G0 tt tmps H t x lo hi mx k):eX P (.slice t x lo hi mx) tmps H aK k:=by
 obtain ⟨v,hk,hp⟩:=Kp hT h;exact .value (by simp) hk fun o ν a w ho ha hH=>(hp ν w hH).2 o ν a w ν.le_refl ho ha
end
open Go Go.RowKit
section
variable {P:Program} {tt:TT} {Φ:zk} {o:Oper} {a:Act} {w:World} {ν:Nu} {aK:Nat} {k:QK} {tmps:List Value} {H:ay}
theorem ar.acd {ν:Nu} {b:Option Addr} {m c:Nat} {z:Value} (h:ar ν (.slice b m c) z):∃ b' c',z=.slice b' m c':=by cases h <;> exact ⟨_,_,rfl⟩
theorem ar.rW {ν:Nu} {fn:Fn} {x y:Array Value} {z:Value} (h:ar ν (.func fn x y) z):∃ ys dg,z=.func fn ⟨ys⟩ ⟨dg⟩∧bg ν x.toList ys∧bg ν y.toList dg:=by
 cases h with | func _ xs ys nv dg h1 J h3 h4=>exact ⟨ys,dg,rfl,⟨h1,J⟩,⟨h3,h4⟩⟩
theorem Kq (hT:∀ t ti,tt t=some ti→aC P t ti) {t:TypeId} {x ix:Operand} (h:EZ tt tmps H t x ix k):sM P (.indexAddr t x ix) tmps H k:=by
 obtain ⟨xv,J,hx⟩:=cS h;clear h;obtain ⟨iv,h,hi⟩:=cS J;clear J
 split at h
 ·rename_i q i;obtain ⟨ti,ht,J⟩:=cP h;clear h;have h:=J;clear J;obtain ⟨d,hu,hd⟩:=(hT _ _ ht).under
  split at h
  ·rename_i e hk;rw [hk] at hd;have hd:d=.slice e:=hd;subst hd
   split at h
   ·rename_i id row m c;obtain ⟨te,he,h⟩:=cP h;obtain ⟨b,hb,h⟩:=gK h;obtain ⟨⟨h0,h1⟩,h⟩:=h
    split at h
    ·rename_i hq;have hq:b.ae=te.size:=Nat.eq_of_beq_eq_true hq;obtain ⟨ei,fH,jl,_⟩:=(hT _ _ he).info;rw [aA] at h;refine .value (by simp) h fun o ν a w ho ha hH=>?_
     have hi:=(hi ν a (ha ix (by simp [Op.operands]))).fZ
     obtain ⟨l0,eP,hB⟩:=hH.aI id b hb;rcases (hx ν a (ha x (by simp [Op.operands]))).ub with ⟨l,c',hl,hc,hm,hr,cA⟩ | ⟨hm,_⟩
     ·rw [eP] at hl; cases hl;refine ⟨.pointer (some (l0.at (row+i.toNat) 0)),.ptr _ _ none _ eP,?_⟩;have al:i < (m:Int):=h1;have kW:(l0.at row 0).add (i.toNat*ei.size)=l0.at (row+i.toNat) 0:=by
       rw [Loc.jO];unfold Loc.at
       congr 1
       rw [jl,← hq,← hB.ae,Nat.add_mul]; omega
      simp [execOp,ho,Instr.indexAt,hi,asIntOf,dC hu,cA,h0,al,gC fH,kW]
     ·omega
    ·exact h.elim
   ·exact h.elim
  ·rename_i m e hk;rw [hk] at hd;have hd:d=.array m e:=hd;subst hd
   split at h
   ·rename_i id row;obtain ⟨te,he,h⟩:=cP h;obtain ⟨b,hb,h⟩:=gK h;obtain ⟨⟨h0,h1⟩,h⟩:=h;obtain ⟨ei,fH,jl,_⟩:=(hT _ _ he).info
    split at h
    ·rename_i hq;have hq:b.ae=te.size:=Nat.eq_of_beq_eq_true hq;rw [aA] at h;refine .value (by simp) h fun o ν a w ho ha hH=>?_
     have hi:=(hi ν a (ha ix (by simp [Op.operands]))).fZ
     obtain ⟨l0,eP,hB⟩:=hH.aI id b hb;obtain ⟨l,hl,cA⟩:=(hx ν a (ha x (by simp [Op.operands]))).oV
     rw [eP] at hl; cases hl;refine ⟨.pointer (some (l0.at (row+i.toNat) 0)),.ptr _ _ none _ eP,?_⟩;have kW:(l0.at row 0).add (i.toNat*ei.size)=l0.at (row+i.toNat) 0:=by
      rw [Loc.jO];unfold Loc.at
      congr 1
      rw [jl,← hq,← hB.ae,Nat.add_mul]; omega
     have cA:a.eval x=.pointer (some (l0.at row 0)):=cA;simp [execOp,ho,Instr.indexAt,hi,asIntOf,dC hu,cA,Instr.sureAddr,h0,h1,gC fH,kW]
    ·refine .value (by simp) h fun o ν a w ho ha hH=>?_
     have hi:=(hi ν a (ha ix (by simp [Op.operands]))).fZ
     obtain ⟨l,hl,cA⟩:=(hx ν a (ha x (by simp [Op.operands]))).oV
     have cA:a.eval x=.pointer (some (l.at row 0)):=cA;refine ⟨.pointer (some (l.at row (0+i.toNat*te.size))),.ptr _ _ (some _) _ hl,?_⟩;simp [execOp,ho,Instr.indexAt,hi,asIntOf,dC hu,cA,Instr.sureAddr,h0,h1,gC fH,Loc.jO,jl]
   ·rename_i id row c;obtain ⟨te,he,h⟩:=cP h;obtain ⟨⟨h0,h1⟩,h⟩:=h;obtain ⟨ei,fH,jl,_⟩:=(hT _ _ he).info;refine .value (by simp) h fun o ν a w ho ha hH=>?_
    have hi:=(hi ν a (ha ix (by simp [Op.operands]))).fZ
    obtain ⟨l,hl,cA⟩:=(hx ν a (ha x (by simp [Op.operands]))).oV
    have cA:a.eval x=.pointer (some (l.at row c)):=cA;refine ⟨.pointer (some (l.at row (c+i.toNat*te.size))),.ptr _ _ (some _) _ hl,?_⟩;simp [execOp,ho,Instr.indexAt,hi,asIntOf,dC hu,cA,Instr.sureAddr,h0,h1,gC fH,Loc.jO,jl]
   ·exact h.elim
  ·exact h.elim
 ·exact h.elim
theorem Sv (hT:∀ t ti,tt t=some ti→aC P t ti) {t:TypeId} {x ix:Operand} (h:EZ tt tmps H t x ix k):eX P (.indexAddr t x ix) tmps H aK k:=(Kq hT h).ok
theorem SZ (s:ByteArray) (i:Nat) (h:i < s.size):s[i]?=some (s[i]'h)∧((s[i]'h).toNat=b9 s i):=by
 refine ⟨by simp [h],?_⟩
 unfold b9;rw [List.getD_eq_getElem?_getD,Array.getElem?_toList];have:s.data[i]?=some (s[i]'h):=by rw [Array.getElem?_eq_getElem (by simpa using h)]; rfl
 rw [this]; rfl
theorem Xa (hT:∀ t ti,tt t=some ti→aC P t ti) {t:TypeId} {x ix:Operand} (h:Ox tt tmps t x ix k):eX P (.index t x ix) tmps H aK k:=by
 obtain ⟨xv,J,hx⟩:=cS h;clear h;obtain ⟨iv,h,hi⟩:=cS J;clear J
 split at h
 ·rename_i q i;obtain ⟨ti,ht,J⟩:=cP h;clear h;have h:=J;clear J;obtain ⟨d,hu,hd⟩:=(hT _ _ ht).under
  split at h
  ·rename_i hk;rw [hk] at hd;have hd:d=.string:=hd;subst hd
   split at h
   ·rename_i s;obtain ⟨⟨h0,h1⟩,h⟩:=h;have al:i.toNat < s.size:=by omega
    obtain ⟨J,h3⟩:=SZ s i.toNat al;refine .value (by simp) h fun o ν a w ho ha hH=>⟨_,.int _ _,?_⟩
    have hi:=(hi ν a (ha ix (by simp [Op.operands]))).fZ
    have hx:=(hx ν a (ha x (by simp [Op.operands]))).r8
    simp [execOp,ho,Instr.index,hi,asIntOf,dC hu,hx,h0,J,h3]
   ·exact h.elim
  ·exact h.elim
 ·exact h.elim
def Cv (op:BinOp) (q:IntKind) (a b:Int):Sem Value :=
 match op with
 | .add | .sub | .mul=>Op.intArith op q a b
 | .quo | .rem=>Op.intDiv op q a b
 | .and | .or | .xor | .andNot=>Op.intBits op q a b
 | _=>Op.intCmp op a b
theorem Uq (op:BinOp) (t:TypeId) (q:IntKind) (a b:Int) (h1:op≠.shl) (J:op≠.shr):binOp op t (.int q a) (.int q b)=Cv op q a b:=by
 cases op <;> first | exact absurd rfl h1 | exact absurd rfl J | (cases q <;> rfl)
theorem binOp_shl (t:TypeId) (q q':IntKind) (a b:Int):binOp .shl t (.int q a) (.int q' b)=Op.shift .shl q a q' b:=rfl
theorem binOp_shr (t:TypeId) (q q':IntKind) (a b:Int):binOp .shr t (.int q a) (.int q' b)=Op.shift .shr q a q' b:=rfl
theorem Ur (op:BinOp) (t:TypeId) (x y:Operand) (q q':IntKind) (a b:Int) (w:World):(eqGuard op t x y (.int q a) (.int q' b)).run P w=.ok () w:=by cases op <;> rfl
theorem Us (op:BinOp) (t:TypeId) (x y:Operand) (a b:ByteArray) (w:World):(eqGuard op t x y (.string a) (.string b)).run P w=.ok () w:=by cases op <;> rfl
theorem S0 (op:BinOp) (t:TypeId) (x y:Operand) (a b:Bool) (w:World):(eqGuard op t x y (.bool a) (.bool b)).run P w=.ok () w:=by cases op <;> rfl
theorem yT {op:BinOp} {t ty:TypeId} {x y:Operand} (ho:o.op=.binOp op t x y ty) {u v z:Value} (hx:a.eval x=u) (hy:a.eval y=v) (hg:(eqGuard op t x y u v).run P w=.ok () w)
  (hb:(binOp op t u v).run P w=.ok z w):(execOp a.eval o).run P w=.ok (.value z) w:=by
 simp only [execOp,ho,hx,hy,Sem.run_bind,hg,hb,Result.andThen_ok,Sem.run_pure]
theorem Cw {op:BinOp} {t:TypeId} {q:IntKind} {x y:Int} (h:O8 op q x y k):∃ z,k z none∧cH z=true∧∀ w,(Cv op q x y).run P w=.ok z w:=by
 cases op <;> first | exact h.elim | skip
 case and=>exact ⟨.int q (q.wrap (BitVec.ofInt q.bits x &&& BitVec.ofInt q.bits y).toNat),h,rfl,fun w=>rfl⟩
 case or=>exact ⟨.int q (q.wrap (BitVec.ofInt q.bits x ||| BitVec.ofInt q.bits y).toNat),h,rfl,fun w=>rfl⟩
 case xor=>exact ⟨.int q (q.wrap (BitVec.ofInt q.bits x ^^^ BitVec.ofInt q.bits y).toNat),h,rfl,fun w=>rfl⟩
 case andNot=>exact ⟨.int q (q.wrap (BitVec.ofInt q.bits x &&& ~~~(BitVec.ofInt q.bits y)).toNat),h,rfl,fun w=>rfl⟩
theorem Vw {op:BinOp} {t:TypeId} {q q':IntKind} {x y:Int} (h:B8 op q q' x y k):∃ z,k z none∧cH z=true∧∀ w,(binOp op t (.int q x) (.int q' y)).run P w=.ok z w:=by
 by_cases qZ:op=.shl
 ·subst qZ;obtain ⟨h0,h⟩:=Bs h;exact ⟨_,h,rfl,fun w=>by rw [binOp_shl]; simp [Op.shift,show ¬ y < 0 by omega]⟩
 by_cases DF:op=.shr
 ·subst DF;obtain ⟨h0,h⟩:=Bs h;exact ⟨_,h,rfl,fun w=>by rw [binOp_shr]; simp [Op.shift,show ¬ y < 0 by omega]⟩
 by_cases hq:q=q'
 ·subst hq;have e:=Uq op t q x y qZ DF;rw [e];have hd:decide (q=q)=true:=by simp
  cases op <;> first | exact absurd rfl qZ | exact absurd rfl DF | skip
  all_goals (unfold B8 at h; rw [hd] at h; dsimp only at h)
  case quo=>obtain ⟨h0,h⟩:=Bs h; exact ⟨_,h,rfl,fun w=>by simp [Cv,Op.intDiv,h0]⟩
  case rem=>obtain ⟨h0,h⟩:=Bs h; exact ⟨_,h,rfl,fun w=>by simp [Cv,Op.intDiv,h0]⟩
  case and=>exact Cw (t:=t) h
  case or=>exact Cw (t:=t) h
  case xor=>exact Cw (t:=t) h
  case andNot=>exact Cw (t:=t) h
  all_goals exact ⟨_,h,rfl,fun w=>rfl⟩
 ·have hd:decide (q=q')=false:=by simp [hq]
  cases op <;> first | exact absurd rfl qZ | exact absurd rfl DF | (unfold B8 at h; rw [hd] at h; exact h.elim)
theorem Vx {op:BinOp} {t:TypeId} {x y:ByteArray} (h:NG op x y k):∃ z,k z none∧cH z=true∧∀ w,(binOp op t (.string x) (.string y)).run P w=.ok z w:=by
 cases op <;> first | exact h.elim | exact ⟨_,h,rfl,fun w=>rfl⟩ | skip
 obtain ⟨h0,h⟩:=h;refine ⟨_,h,rfl,fun w=>?_⟩
 have:¬ (((x.size+y.size:Nat):Int) > IntKind.i64.max):=by
  have:IntKind.i64.max=9223372036854775807:=by decide
  rw [this]; omega
 show (Op.stringOp .add x y).run P w=_
 unfold Op.stringOp
 dsimp only
 rw [if_neg this]
 rfl
theorem rX {t:TypeId} {x y:Value} {b:Bool} (hs:∀ q a,x≠.int q a) (aw:∀ s,x≠.string s) (hf:∀ q a,x≠.float q a) (hc:∀ q a b,x≠.complex q a b) (hp:∀ a,x≠.pointer a)
  (h:(Op.equal t x y).run P w=.ok b w):(binOp .eql t x y).run P w=.ok (.bool b) w∧(binOp .neq t x y).run P w=.ok (.bool !b) w:=by
 have e1:binOp .eql t x y=(do pure (.bool (← Op.equal t x y)):Sem Value):=by
  cases x <;> first | exact absurd rfl (hs _ _) | exact absurd rfl (aw _) | exact absurd rfl (hf _ _) | exact absurd rfl (hc _ _ _) | exact absurd rfl (hp _) | rfl
 have e2:binOp .neq t x y=(do pure (.bool (!(← Op.equal t x y))):Sem Value):=by
  cases x <;> first | exact absurd rfl (hs _ _) | exact absurd rfl (aw _) | exact absurd rfl (hf _ _) | exact absurd rfl (hc _ _ _) | exact absurd rfl (hp _) | rfl
 rw [e1,e2];simp only [Sem.run_bind,h,Result.andThen_ok];exact ⟨rfl,rfl⟩
theorem run_equal_bool {t:TypeId} (hu:P.underlying t=some .bool) (b b':Bool) (w:World):(Op.equal t (.bool b) (.bool b')).run P w=.ok (b == b') w:=by
 show (Op.equalIn (9999+1) t (.bool b) (.bool b')).run P w=_
 rw [Op.equalIn];simp only [Sem.run_bind,dC hu,Result.andThen_ok]
 rfl
theorem Ut {ti:TI} {op:BinOp} {t:TypeId} {x y:Bool} (hu:ti.kind=.bool→P.underlying t=some .bool) (h:FR ti.kind op x y k):∃ z,k z none∧cH z=true∧∀ w,(binOp op t (.bool x) (.bool y)).run P w=.ok z w:=by
 unfold FR at h
 split at h
 ·rename_i hk;exact ⟨_,h,rfl,fun w=>(rX (by simp) (by simp) (by simp) (by simp) (by simp) (run_equal_bool (hu hk) x y w)).1⟩
 ·rename_i hk;exact ⟨_,h,rfl,fun w=>(rX (by simp) (by simp) (by simp) (by simp) (by simp) (run_equal_bool (hu hk) x y w)).2⟩
 ·exact h.elim
theorem tN:∀ {l m:List Value},e9 l m=true→∀ v∈l,cH v=true
 | [],[],_=>fun v hv=>by simp at hv
 | .bool _::l,.bool _::m,h=>fun v hv=>by
  rcases List.mem_cons.1 hv with e | e
  ·rw [e]; rfl
  ·exact tN (l:=l) (m:=m) h v e
 | .int q _::l,.int q' _::m,h=>fun v hv=>by
  rcases List.mem_cons.1 hv with e | e
  ·rw [e]; rfl
  ·exact tN (l:=l) (m:=m) (by simp only [e9,Bool.and_eq_true] at h; exact h.2) v e
 | .string _::l,.string _::m,h=>fun v hv=>by
  rcases List.mem_cons.1 hv with e | e
  ·rw [e]; rfl
  ·exact tN (l:=l) (m:=m) h v e
theorem bg.kf {ν:Nu}:∀ {l m:List Value},(∀ v∈l,cH v=true)→bg ν l m→m=l
 | [],m,_,h=>h.ja
 | v::l,m,hs,h=>by
  obtain ⟨y,ys,rfl,h1,J⟩:=h.js;rw [h1.kf (hs v (by simp)),bg.kf (fun u hu=>hs u (by simp [hu])) J]
theorem Vy {eqs:List TypeId} {zero:List Value} {op:BinOp} {t:TypeId} {xs ys:List Value} (hE:∀ t∈eqs,∀ ti,tt t=some ti→xJ P t ti.zero) {ti:TI} (ht:tt t=some ti) (h:Gq eqs t ti.zero op xs ys k) :
  ∃ z,k z none∧cH z=true∧(∀ v∈xs,cH v=true)∧(∀ v∈ys,cH v=true)∧∀ w,(binOp op t (.agg ⟨xs⟩) (.agg ⟨ys⟩)).run P w=.ok z w∧∀ x y,(eqGuard op t x y (.agg ⟨xs⟩) (.agg ⟨ys⟩)).run P w=.ok () w:=by
 unfold Gq at h
 split at h
 ·rename_i hb;simp only [Bool.and_eq_true] at hb;obtain ⟨⟨h1,J⟩,h3⟩:=hb;have hq:=hE t (by simpa using h1) ti ht
  exact ⟨_,h,rfl,tN J,tN h3,fun w=>⟨(rX (by simp) (by simp) (by simp) (by simp) (by simp) (hq xs ys w J h3).1).1,fun x y=>(hq xs ys w J h3).2 x y _⟩⟩
 ·rename_i hb;simp only [Bool.and_eq_true] at hb;obtain ⟨⟨h1,J⟩,h3⟩:=hb;have hq:=hE t (by simpa using h1) ti ht
  exact ⟨_,h,rfl,tN J,tN h3,fun w=>⟨(rX (by simp) (by simp) (by simp) (by simp) (by simp) (hq xs ys w J h3).1).2,fun x y=>(hq xs ys w J h3).2 x y _⟩⟩
 ·exact h.elim
theorem Sw (op:BinOp) (t:TypeId) (x y:Operand) (a b:Option Addr) (n c n' c':Nat) (w:World):(eqGuard op t x y (.slice a n c) (.slice b n' c')).run P w=.ok () w:=by cases op <;> rfl
theorem ar.Uu {ν:Nu} {a:Option Addr} {n c:Nat} {z:Value} (h:ar ν (.slice a n c) z):∃ a' n' c',z=.slice a' n' c'∧a'.isNone=a.isNone:=by
 cases h with
 | iP=>exact ⟨none,0,0,rfl,rfl⟩
 | slice id row n c c' l h hc hn hr=>exact ⟨_,_,_,rfl,rfl⟩
 | void id row c a hc=>exact ⟨_,_,_,rfl,rfl⟩
 | lY id row m n c' l h hm hn hr=>exact ⟨_,_,_,rfl,rfl⟩
 | kV id row a=>exact ⟨_,_,_,rfl,rfl⟩
theorem AY {t e:TypeId} (hu:P.underlying t=some (.slice e)) (a:Option Addr) (n c:Nat) (w:World):(Op.equal t (.slice a n c) (.slice none 0 0)).run P w=.ok a.isNone w:=by
 show (Op.equalIn (9999+1) t (.slice a n c) (.slice none 0 0)).run P w=_
 rw [Op.equalIn];simp only [Sem.run_bind,dC hu,Result.andThen_ok];cases a <;> rfl
theorem Vz {ti:TI} {op:BinOp} {t:TypeId} {a:Option Addr} (hu:∀ e,ti.kind=.slice e→P.underlying t=some (.slice e)) (h:Gr ti.kind op a k) :
  ∃ z,k z none∧cH z=true∧∀ (a':Option Addr) (n c:Nat) w,a'.isNone=a.isNone→(binOp op t (.slice a' n c) (.slice none 0 0)).run P w=.ok z w:=by
 unfold Gr at h
 split at h
 ·rename_i e hk;refine ⟨_,h,rfl,fun a' n c w ha=>?_⟩
  rw [(rX (by simp) (by simp) (by simp) (by simp) (by simp) (AY (hu _ hk) a' n c w)).1,ha]; rfl
 ·rename_i e b hk;refine ⟨_,h,rfl,fun a' n c w ha=>?_⟩
  rw [(rX (by simp) (by simp) (by simp) (by simp) (by simp) (AY (hu _ hk) a' n c w)).1,ha]; rfl
 ·rename_i e hk;refine ⟨_,h,rfl,fun a' n c w ha=>?_⟩
  rw [(rX (by simp) (by simp) (by simp) (by simp) (by simp) (AY (hu _ hk) a' n c w)).2,ha]; rfl
 ·rename_i e b hk;refine ⟨_,h,rfl,fun a' n c w ha=>?_⟩
  rw [(rX (by simp) (by simp) (by simp) (by simp) (by simp) (AY (hu _ hk) a' n c w)).2,ha]; rfl
 ·exact h.elim
theorem Ld (hT:∀ t ti,tt t=some ti→aC P t ti) {eqs:List TypeId} (hE:∀ t∈eqs,∀ ti,tt t=some ti→xJ P t ti.zero) {op:BinOp} {t ty:TypeId} {x y:Operand} (h:De tt eqs tmps op t x y k):∃ v,k v none∧∀ bt,qD P bt (.binOp op t x y ty) tmps v:=by
 obtain ⟨xv,J,hx⟩:=cS h;clear h;obtain ⟨yv,h,hy⟩:=cS J;clear J
 split at h
 ·obtain ⟨z,hk,hs,hr⟩:=Vw (P:=P) (t:=t) h;refine ⟨_,hk,fun bt=>⟨by simp,fun o ν a w hle ho ha=>⟨_,ar.ke hs,?_⟩⟩⟩
  exact yT ho (hx ν a (ha x (by simp [Op.operands]))).fZ (hy ν a (ha y (by simp [Op.operands]))).fZ (Ur ..) (hr w)
 ·obtain ⟨z,hk,hs,hr⟩:=Vx (P:=P) (t:=t) h;refine ⟨_,hk,fun bt=>⟨by simp,fun o ν a w hle ho ha=>⟨_,ar.ke hs,?_⟩⟩⟩
  exact yT ho (hx ν a (ha x (by simp [Op.operands]))).r8 (hy ν a (ha y (by simp [Op.operands]))).r8 (Us ..) (hr w)
 ·obtain ⟨ti,ht,h⟩:=cP h;obtain ⟨d,hu,hd⟩:=(hT _ _ ht).under;obtain ⟨z,hk,hs,hr⟩:=Ut (P:=P) (t:=t) (fun hk=>by rw [hk] at hd; have hd:d=.bool:=hd; rw [hu,hd]) h
  refine ⟨_,hk,fun bt=>⟨by simp,fun o ν a w hle ho ha=>⟨_,ar.ke hs,?_⟩⟩⟩
  exact yT ho (hx ν a (ha x (by simp [Op.operands]))).kg (hy ν a (ha y (by simp [Op.operands]))).kg (S0 ..) (hr w)
 ·rename_i xs ys;obtain ⟨ti,ht,h⟩:=cP h;obtain ⟨z,hk,hs,h1,J,hr⟩:=Vy (xs:=xs.toList) (ys:=ys.toList) (zero:=[]) hE ht h;refine ⟨_,hk,fun bt=>⟨by simp,fun o ν a w hle ho ha=>⟨_,ar.ke hs,?_⟩⟩⟩
  obtain ⟨nv,og,lZ⟩:=ar.uE (xs:=xs.toList) (hx ν a (ha x (by simp [Op.operands])))
  obtain ⟨dg,nw,oh⟩:=ar.uE (xs:=ys.toList) (hy ν a (ha y (by simp [Op.operands])))
  rw [bg.kf h1 lZ] at og;rw [bg.kf J oh] at nw;exact yT ho og nw ((hr w).2 x y) (hr w).1
 ·rename_i b n c;obtain ⟨ti,ht,h⟩:=cP h;obtain ⟨d,hu,hd⟩:=(hT _ _ ht).under;obtain ⟨z,hk,hs,hr⟩:=Vz (P:=P) (t:=t) (fun e hk=>by rw [hk] at hd; have hd:d=.slice e:=hd; rw [hu,hd]) h
  refine ⟨_,hk,fun bt=>⟨by simp,fun o ν a w hle ho ha=>⟨_,ar.ke hs,?_⟩⟩⟩
  obtain ⟨a1,n1,c1,e1,h1⟩:=(hx ν a (ha x (by simp [Op.operands]))).Uu
  have e2:a.eval y=.slice none 0 0:=by
   have J:=hy ν a (ha y (by simp [Op.operands]))
   generalize a.eval y=z at J;cases J
   rfl
  exact yT ho e1 e2 (Sw ..) (hr a1 n1 c1 w h1)
 ·exact h.elim
theorem ace (hT:∀ t ti,tt t=some ti→aC P t ti) {eqs:List TypeId} (hE:∀ t∈eqs,∀ ti,tt t=some ti→xJ P t ti.zero) {op:BinOp} {t ty:TypeId} {x y:Operand} (h:De tt eqs tmps op t x y k):eX P (.binOp op t x y ty) tmps H aK k:=by
 obtain ⟨v,hk,hp⟩:=Ld hT hE (ty:=ty) h;exact .value (by simp) hk fun o ν a w ho ha hH=>(hp ν).2 o ν a w ν.le_refl ho ha
theorem NI {P:Program} {t:TypeId} {ty:TypeId} {d:TypeDesc} (hu:P.underlying t=some d) {x:Value} {m:Int} (w:World)
  (h:(∃ s,d=.string∧x=.string s∧m=s.size)∨(∃ e b n c,d=.slice e∧x=.slice b n c∧m=(n:Int))) :
  (Builtin.len_ #[t] ty #[x]).run P w=.ok (.int .i64 m) w:=by
 rcases h with ⟨s,rfl,rfl,rfl⟩ | ⟨e,b,n,c,rfl,rfl,rfl⟩ <;> simp [Builtin.len_,dC hu,goInt]
theorem OA (hT:∀ t ti,tt t=some ti→aC P t ti) {c:Call} (hc:c.callee=.builtin .len) {t:TypeId} {x:Operand} (hx:c.args=#[x]) (ht:c.argTypes=#[t]) (h:HW tmps tt t x k):sM P (.call c) tmps H k:=by
 obtain ⟨xv,J,hv⟩:=cS h;clear h;obtain ⟨ti,IP,h⟩:=cP J;clear J;obtain ⟨d,hu,hd⟩:=(hT _ _ IP).under
 split at h
 ·rename_i s hk;rw [hk] at hd;refine .value (by simp) h fun o ν a w ho ha hH=>⟨_,.int _ _,?_⟩
  have hv:=hv ν a (ha x (by simp [Op.operands,Call.operands,hc,hx]))
  have hr:=NI (P:=P) (ty:=o.type) hu w (.inl ⟨_,hd,hv.r8,rfl⟩);simp [execOp,ho,resolve,hc,hx,ht,invoke,builtin,hr]
 ·rename_i e b m c hk;rw [hk] at hd;refine .value (by simp) h fun o ν a w ho ha hH=>⟨_,.int _ _,?_⟩
  obtain ⟨b',c',he⟩:=(hv ν a (ha x (by simp [Op.operands,Call.operands,hc,hx]))).acd
  have hr:=NI (P:=P) (ty:=o.type) hu w (.inr ⟨_,_,_,_,hd,he,rfl⟩);simp [execOp,ho,resolve,hc,hx,ht,invoke,builtin,hr]
 ·exact h.elim
theorem acf (hT:∀ t ti,tt t=some ti→aC P t ti) {c:Call} (hc:c.callee=.builtin .len) {t:TypeId} {x:Operand} (hx:c.args=#[x]) (ht:c.argTypes=#[t]) (h:HW tmps tt t x k):eX P (.call c) tmps H aK k:=(OA hT hc hx ht h).ok
theorem acg {c:Call} (hc:c.callee=.builtin .max) {x y:Operand} (hx:c.args=#[x,y]) (h:PK tmps x y k):eX P (.call c) tmps H aK k:=by
 obtain ⟨xv,J,h1⟩:=cS h;clear h;obtain ⟨yv,h,J⟩:=cS J
 split at h
 ·refine .value (by simp) h fun o ν a w ho ha hH=>⟨_,.int _ _,?_⟩
  have h1:=(h1 ν a (ha x (by simp [Op.operands,Call.operands,hc,hx]))).fZ
  have J:=(J ν a (ha y (by simp [Op.operands,Call.operands,hc,hx]))).fZ
  simp [execOp,ho,resolve,hc,hx,invoke,builtin,Builtin.max_,h1,J,Builtin.max2]
 ·exact h.elim
theorem ach {c:Call} (hc:c.callee=.builtin .min) {x y:Operand} (hx:c.args=#[x,y]) (h:PM tmps x y k):eX P (.call c) tmps H aK k:=by
 obtain ⟨xv,J,h1⟩:=cS h;clear h;obtain ⟨yv,h,J⟩:=cS J
 split at h
 ·refine .value (by simp) h fun o ν a w ho ha hH=>⟨_,.int _ _,?_⟩
  have h1:=(h1 ν a (ha x (by simp [Op.operands,Call.operands,hc,hx]))).fZ
  have J:=(J ν a (ha y (by simp [Op.operands,Call.operands,hc,hx]))).fZ
  simp [execOp,ho,resolve,hc,hx,invoke,builtin,Builtin.min_,h1,J,Builtin.min2]
 ·exact h.elim
theorem Fm {fs:List (Nat × Nat × Bool)}
  {Cx:Nat→Option (Nat × Nat)} (hp:∀ (i:Nat) x,fs[i]?=some x→Cx i=some (x.1,x.2.1)) :
  ∀ {ps:List (Nat × Operand)} {cs:List Value} {k:List Value→Prop},CP tmps fs ps cs k →
  ∃ ds,k ds∧∀ (ν:Nu) (a:Act),(∀ p∈ps,fk ν tmps a p.2)→∀ (eO:List Value),bg ν cs eO→∃ s6,bg ν ds s6∧Instr.fill Cx ⟨eO⟩ (ps.map fun p=>(p.1,a.eval p.2))=some ⟨s6⟩
 | [],cs,k,h=>⟨cs,h,fun ν a _ eO hc=>⟨eO,hc,rfl⟩⟩
 | p::ps,cs,k,h=>by
  obtain ⟨v,J,hv⟩:=cS h;clear h;have h:=A7 J;clear J;obtain ⟨x,hx,J⟩:=A8 h;clear h
  split at J
  ·rename_i bf;obtain ⟨hl,h1⟩:=yh bf;obtain ⟨cs2,h3,gy,hle,pF,xK⟩:=yx J;obtain ⟨ds,k1,k0⟩:=Fm hp h3;refine ⟨ds,k1,fun ν a ha eO hc=>?_⟩
   have vy:=(hv ν a (ha p (by simp))).cells
   -- the same cells written over in the real struct
   have Ht:∀ (us:List Value) (o:Nat) (acc:List Value) (m:Nat),((us.zipIdx m).foldl (fun cs (c,j)=>cs.setIfInBounds (o+j) c) (⟨acc⟩:Array Value)).size=acc.length ∧
     ∀ j,((us.zipIdx m).foldl (fun cs (c,j)=>cs.setIfInBounds (o+j) c) (⟨acc⟩:Array Value))[j]?=if j < acc.length∧o+m≤j∧j < o+m+us.length then us[j - (o+m)]? else acc[j]?:=by
    intro us
    induction us with
    | nil =>
     intro o acc m;refine ⟨by simp,fun j=>?_⟩
     simp
     intros
     omega
    | cons u us ih =>
     intro o acc m;simp only [List.zipIdx_cons,List.foldl_cons];have e:(⟨acc⟩:Array Value).setIfInBounds (o+m) u=⟨acc.set (o+m) u⟩:=by apply Array.ext'; simp
     rw [e];obtain ⟨i1,i2⟩:=ih o (acc.set (o+m) u) (m+1);refine ⟨by rw [i1]; simp,fun j=>?_⟩
     rw [i2 j];simp only [List.length_set,List.length_cons];by_cases hj:j < acc.length
     ·by_cases h1:o+(m+1)≤j∧j < o+(m+1)+us.length
      ·rw [if_pos ⟨hj,h1⟩,if_pos ⟨hj,by omega,by omega⟩]
       rw [show j - (o+m)=(j - (o+(m+1)))+1 by omega]; simp
      ·rw [if_neg (by omega)]
       by_cases J:j=o+m
       ·subst J;rw [if_pos ⟨hj,by omega,by omega⟩]
        simp [List.getElem?_set,hj]
       ·rw [if_neg (by omega),List.getElem?_set_ne (by omega)]
     ·rw [if_neg (by omega),if_neg (by omega)]
      rw [List.getElem?_eq_none (by simp; omega),List.getElem?_eq_none (by omega)]
   obtain ⟨f1,f2⟩:=Ht (a.eval p.2).cells.toList x.1 eO 0;generalize HY:(((a.eval p.2).cells.toList.zipIdx 0).foldl (fun cs (c,j)=>cs.setIfInBounds (x.1+j) c) (⟨eO⟩:Array Value))=G at f1 f2
   have HZ:bg ν cs2 G.toList:=by
    refine ⟨by rw [gy,hc.1]; simpa using f1.symm,fun j y z hy hz=>?_⟩
    rw [Array.getElem?_toList,f2 j] at hz
    split at hz
    ·rename_i hj;have al:j - (x.1+0) < v.cells.toList.length:=by rw [vy.1]; omega
     have:=pF (j - (x.1+0)) _ (List.getElem?_eq_getElem al);rw [show x.1+(j - (x.1+0))=j by omega] at this
     rw [this] at hy; cases hy;exact vy.2 _ _ _ (List.getElem?_eq_getElem al) hz
    ·rename_i hj;have aci:=xK j (by
      have IQ:j < eO.length:=(List.getElem?_eq_some_iff.1 hz).1;have:=vy.1;omega)
     rw [aci] at hy;exact hc.2 _ _ _ hy hz
   obtain ⟨s6,k2,k3⟩:=k0 ν a (fun q hq=>ha q (by simp [hq])) _ HZ
   refine ⟨s6,k2,?_⟩;have uP:(a.eval p.2).cells.size=x.2.1:=by rw [← Array.length_toList,← vy.1,hl]
   simp only [List.map_cons,Instr.fill,hp p.1 x hx];rw [if_neg]
   ·have:(((a.eval p.2).cells.zipIdx).foldl (fun cs (c,j)=>cs.setIfInBounds (x.1+j) c) (⟨eO⟩:Array Value))=⟨G.toList⟩:=by
     rw [← HY,← Array.foldl_toList];simp
    rw [this];exact k3
   ·have:((⟨eO⟩:Array Value).size)=cs.length:=by simp [hc.1]
    simp only [uP,this];simp;omega
  ·exact J.elim
theorem L6 {sz:Nat}:∀ {n off i:Nat} {x:Nat × Nat × Bool},(xp sz off n)[i]?=some x→x.1=off+i*sz∧x.2.1=sz
 | 0,off,i,x,h=>by simp [xp] at h
 | n+1,off,0,x,h=>by simp [xp] at h; subst h; simp
 | n+1,off,i+1,x,h=>by
  obtain ⟨h1,J⟩:=L6 (n:=n) (off:=off+sz) (i:=i) (by simpa [xp] using h)
  exact ⟨by rw [h1,Nat.succ_mul]; omega,J⟩
theorem Xb (hT:∀ t ti,tt t=some ti→aC P t ti) {t:TypeId} {ps:Array (Nat × Operand)} (h:Oy tt tmps t ps.toList k):eX P (.build t ps) tmps H aK k:=by
 obtain ⟨ti,ht,J⟩:=cP h;clear h;have bf:=hT _ _ ht;obtain ⟨d,hu,hd⟩:=bf.under;obtain ⟨i,hi,_,_,z,hz,iF⟩:=bf.info
 split at J
 ·rename_i fs hk;rw [hk] at hd;obtain ⟨fields,rfl,bm,hf⟩:=hd
  -- the places that the model reckons
  have adR:∀ (w:World) (l:List Field) (m:List (Nat × Nat × Bool)),l.length=m.length→(∀ (i:Nat) f x,l[i]?=some f→m[i]?=some x→yS P f x) →
    (l.mapM (m:=Sem) fun f=>do pure (f.offset,← sizeOf f.type)).run P w=.ok (m.map fun x=>(x.1,x.2.1)) w:=by
   intro w l
   induction l with
   | nil=>intro m hl _; cases m with
    | nil=>rfl
    | cons=>simp at hl
   | cons f l ih =>
    intro m hl hf;cases m with
    | nil=>simp at hl
    | cons x m =>
     obtain ⟨h1,J,⟨i,h3,h4⟩,_⟩:=hf 0 f x rfl rfl;have ih:=ih m (by simpa using hl) (fun i f' x' h h'=>hf (i+1) f' x' (by simpa using h) (by simpa using h'))
     simp only [List.mapM_cons,Sem.run_bind,gC h3,Result.andThen_ok,Sem.run_pure,ih,List.map_cons,h1,h4]
  obtain ⟨ds,k1,k0⟩:=Fm (Cx:=((fs.map fun x=>(x.1,x.2.1)).toArray[·]?)) (fun i x hx=>by simp [hx]) J
  refine .value (by simp) k1 fun o ν a w ho ha hH=>?_
  have hm:=adR w fields.toList fs (by simpa using bm) (fun i f x h h'=>hf i f x (by simpa using h) h')
  obtain ⟨s6,k2,k3⟩:=k0 ν a (fun p hp=>ha p.2 (by simp [Op.operands]; exact ⟨p.1,by simpa using hp⟩)) _ (bf.self ν)
  refine ⟨.agg ⟨s6⟩,.agg _ _ k2.1 k2.2,?_⟩;simp only [execOp,ho,Instr.build,Sem.run_bind,v8 hi hz,Result.andThen_ok,dC hu,iF];have IS:(fields.mapM (m:=Sem) fun f=>do pure (f.offset,← sizeOf f.type)).run P w=.ok (fs.map fun x=>(x.1,x.2.1)).toArray w:=by
   rw [Array.mapM_eq_mapM_toList];simp only [Sem.run_map,hm,Result.andThen_ok]
  simp only [IS,Sem.run_bind,Result.andThen_ok];have e:(ps.map fun x=>(x.1,a.eval x.2)).toList=ps.toList.map fun p=>(p.1,a.eval p.2):=by simp
  have e2:(ps.map fun (x:Nat × Operand)=>match x with | (i,x)=>(i,a.eval x))=(ps.map fun x=>(x.1,a.eval x.2)):=rfl
  rw [e2,e,k3]
  rfl
 ·rename_i n e hk;rw [hk] at hd;have hd:d=.array n e:=hd;subst hd;obtain ⟨te,he,h⟩:=cP J;obtain ⟨ei,fH,jl,_⟩:=(hT _ _ he).info;obtain ⟨ds,k1,k0⟩:=Fm (Cx:=fun i=>some (i*ei.size,ei.size)) (fun i x hx=>by
   obtain ⟨h1,J⟩:=L6 hx;rw [h1,J,jl,Nat.zero_add]) h
  refine .value (by simp) k1 fun o ν a w ho ha hH=>?_
  obtain ⟨s6,k2,k3⟩:=k0 ν a (fun p hp=>ha p.2 (by simp [Op.operands]; exact ⟨p.1,by simpa using hp⟩)) _ (bf.self ν)
  refine ⟨.agg ⟨s6⟩,.agg _ _ k2.1 k2.2,?_⟩;simp only [execOp,ho,Instr.build,Sem.run_bind,v8 hi hz,Result.andThen_ok,dC hu,iF,gC fH];have e:(ps.map fun x=>(x.1,a.eval x.2)).toList=ps.toList.map fun p=>(p.1,a.eval p.2):=by simp
  have e2:(ps.map fun (x:Nat × Operand)=>match x with | (i,x)=>(i,a.eval x))=(ps.map fun x=>(x.1,a.eval x.2)):=rfl
  rw [e2,e,k3]
  rfl
 ·exact J.elim
end
open Go Go.RowKit
section
variable {P:Program} {tt:TT} {w:World} {ν:Nu} {aK:Nat} {k:QK} {tmps:List Value} {H:ay}
theorem Kj (z:Array Value) (n j:Nat) (h:j < n) (hz:0 < z.size):(madeCells z n)[j]?=z[j % z.size]?:=by
 unfold madeCells;rw [Array.getElem?_map,Array.getElem?_range,if_pos h];simp only [Option.map_some];have:j % z.size < z.size:=Nat.mod_lt _ hz;rw [Array.getElem?_eq_getElem this];simp [this]
theorem Gs (r e j:Nat) (h:j < e):(r*e+j) % e=j:=by
 rw [Nat.add_comm,Nat.add_mul_mod_self_right,Nat.mod_eq_of_lt h]
theorem Sx (hT:∀ t ti,tt t=some ti→aC P t ti) {t:TypeId} {x y:Operand} (h:La tt tmps t x y aK k):eX P (.makeSlice t x y) tmps H aK k:=by
 obtain ⟨xv,J,hx⟩:=cS h;clear h;obtain ⟨yv,h,hy⟩:=cS J;clear J;obtain ⟨ti,ht,J⟩:=cP h;clear h;obtain ⟨d,hu,hd⟩:=(hT _ _ ht).under
 split at J
 ·rename_i e hk;rw [hk] at hd;have hd:d=.slice e:=hd;subst hd;obtain ⟨te,he,h⟩:=cP J;clear J;have bf:=hT _ _ he;obtain ⟨i,hi,gJ,ny,z,hz,iF⟩:=bf.info
  split at h
  ·rename_i q n q' m cZ;obtain ⟨⟨b0,b1,b2⟩,h⟩:=h;refine ⟨_,_,h,fun o ν a w r nn ho ha hH hn next Q hN=>?_⟩
   have hx:=(hx ν a (ha x (by simp [Op.operands]))).fZ
   have hy:=(hy ν a (ha y (by simp [Op.operands]))).fZ
   have lP:=bf.bit;have QD:m≤m*te.bytes:=by
    have:m*1≤m*(te.bytes:Int):=Int.mul_le_mul_of_nonneg_left (by omega) (by omega)
    omega
   have bE:=run_make (P:=P) w t e i z hu hi hz q q' n m b0 b1 (by rw [ny,Int.mul_comm]; omega) (by omega)
   refine jK (w':=w.alloc (.cells (madeCells z.cells (m.toNat*i.size)) e)) (v':=.slice (some ⟨w.heap.size,0,none⟩) n.toNat m.toNat) (by simp [ho]) (by simp [execOp,ho,hx,hy,bE]) next Q
    (hN _ _ (ν.add aK ⟨w.heap.size,0,te.size,m.toNat⟩) (mY hn ?_ (yq _ _) (Nat.le_refl _) ?_))
   ·have dA:(w.alloc (.cells (madeCells z.cells (m.toNat*i.size)) e)).heap[w.heap.size]?=some (.cells (madeCells z.cells (m.toNat*i.size)) e (0,0)):=by show (w.heap.push _)[w.heap.size]?=_; simp
    have jB:z.cells.size=te.size:=by rw [iF]; simpa using bf.len
    refine ⟨rfl,fun r hr=>bf.len,fun r hr j v hv=>⟨v,?_,ar.ke (dE cZ v (List.mem_of_getElem? hv))⟩,fun _ r hr v hv=>dE cZ v hv,fun r hr v hv=>bf.one v hv,fun _ _=>⟨_,_,dA,?_,?_⟩,(fun r h=>nomatch h),?_⟩
    ·have hr:r < n.toNat:=hr;have hv:te.zero[j]?=some v:=hv;have hj:j < te.size:=by rw [← bf.len]; exact (List.getElem?_eq_some_iff.1 hv).1
     simp only [Loc.at,World.cell?,Nat.zero_add];rw [dA];have al:r*te.size+j < m.toNat*i.size:=by
      rw [gJ];have:(r+1)*te.size≤m.toNat*te.size:=Nat.mul_le_mul_right _ (by omega)
      rw [Nat.add_mul] at this; omega
     simp only [Option.isSome_none,Bool.false_eq_true,if_false];rw [Kj _ _ _ al (by omega),jB,Gs _ _ _ hj,iF]
     simpa using hv
    ·simp [size_madeCells,gJ]
    ·simp only [ai.n]; omega
    ·show w.heap.size < (w.alloc _).heap.size
     simp
   ·have:=ar.slice (ν:=ν.add aK ⟨w.heap.size,0,te.size,m.toNat⟩) aK 0 n.toNat m.toNat m.toNat _ Nu.add_same (.inl rfl) (by omega) (by simp)
    simpa [Loc.at] using this
  ·exact h.elim
 ·exact J.elim
theorem L7:∀ {n:Nat} {r:List Value} {k:List (List Value)→Prop},HX n r k→k (List.replicate n r)
 | 0,_,_,h=>h
 | n+1,r,k,h=>by have:=L7 (n:=n) h; simpa [List.replicate_succ] using this
theorem KO:∀ {rs:List (List Value)} {n:Nat} {r:List Value} {k:List (List Value)→Prop},setRow rs n r k→n < rs.length∧k (rs.set n r)
 | [],_,_,_,h=>h.elim
 | _::rs,0,_,_,h=>⟨by simp,h⟩
 | q::rs,n+1,r,k,h=>by obtain ⟨h1,J⟩:=KO (rs:=rs) h; exact ⟨by simpa using h1,by simpa using J⟩
def B9 (ν:Nu) (sz:Nat) (rows:List (List Value)) (C:Array Value):Prop :=
 C.size=rows.length*sz∧(∀ row∈rows,row.length=sz)∧∀ r j row v,rows[r]?=some row→row[j]?=some v→∃ v',C[r*sz+j]?=some v'∧ar ν v v'
theorem KP {sz n:Nat}:∀ {ps:List (Nat × Operand)} {rows:List (List Value)} {k:List (List Value)→Prop},rowsOf tmps sz ps rows k→rows.length=n →
  ∃ jf,k jf∧jf.length=n∧((∀ row∈rows,∀ v∈row,v.oneCell'=true)→∀ row∈jf,∀ v∈row,v.oneCell'=true) ∧
   ∀ (ν:Nu) (a:Act),(∀ p∈ps,fk ν tmps a p.2)→∀ C,B9 ν sz rows C→∃ C',B9 ν sz jf C'∧Instr.fill (fun i=>some (i*sz,sz)) C (ps.map fun p=>(p.1,a.eval p.2))=some C'
 | [],rows,k,h,hl=>⟨rows,h,hl,fun h=>h,fun ν a _ C hC=>⟨C,hC,rfl⟩⟩
 | p::ps,rows,k,h,hl=>by
  obtain ⟨v,J,hv⟩:=cS h;clear h;have h:=A7 J;clear J
  split at h
  ·rename_i bf;obtain ⟨hlen,qP⟩:=yh bf;obtain ⟨al,J⟩:=KO h;obtain ⟨jf,k1,k2,k3,k4⟩:=KP (n:=n) (ps:=ps) J (by rw [List.length_set]; exact hl)
   refine ⟨jf,k1,k2,fun h0=>k3 (fun row a8 u hu=>?_),fun ν a ha C hC=>?_⟩
   ·rcases List.mem_or_eq_of_mem_set a8 with h | h
    ·exact h0 row h u hu
    ·rw [h] at hu; exact qP u hu
   ·obtain ⟨c1,c2,c3⟩:=hC;have vy:=(hv ν a (ha p (by simp))).cells
    have uP:(a.eval p.2).cells.size=sz:=by rw [← Array.length_toList,← vy.1,hlen]
    have Ht:∀ (us:List Value) (o:Nat) (acc:Array Value) (m:Nat),((us.zipIdx m).foldl (fun cs (c,j)=>cs.setIfInBounds (o+j) c) acc).size=acc.size ∧
      ∀ j,((us.zipIdx m).foldl (fun cs (c,j)=>cs.setIfInBounds (o+j) c) acc)[j]?=if j < acc.size∧o+m≤j∧j < o+m+us.length then us[j - (o+m)]? else acc[j]?:=by
     intro us
     induction us with
     | nil =>
      intro o acc m;refine ⟨by simp,fun j=>?_⟩
      simp
      intros
      omega
     | cons u us ih =>
      intro o acc m;simp only [List.zipIdx_cons,List.foldl_cons];obtain ⟨i1,i2⟩:=ih o (acc.setIfInBounds (o+m) u) (m+1);refine ⟨by rw [i1]; simp,fun j=>?_⟩
      rw [i2 j];simp only [Array.size_setIfInBounds,List.length_cons];by_cases hj:j < acc.size
      ·by_cases h1:o+(m+1)≤j∧j < o+(m+1)+us.length
       ·rw [if_pos ⟨hj,h1⟩,if_pos ⟨hj,by omega,by omega⟩]
        rw [show j - (o+m)=(j - (o+(m+1)))+1 by omega]; simp
       ·rw [if_neg (by omega)]
        by_cases J:j=o+m
        ·subst J;rw [if_pos ⟨hj,by omega,by omega⟩]
         simp [hj]
        ·rw [if_neg (by omega),Array.getElem?_setIfInBounds_ne (by omega)]
      ·rw [if_neg (by omega),if_neg (by omega)]
       rw [Array.getElem?_eq_none (by simp; omega),Array.getElem?_eq_none (by omega)]
    obtain ⟨f1,f2⟩:=Ht (a.eval p.2).cells.toList (p.1*sz) C 0;have eY:(a.eval p.2).cells.toList.length=sz:=by simpa using uP
    have hbound:(p.1+1)*sz≤rows.length*sz:=Nat.mul_le_mul_right _ al;rw [Nat.add_mul] at hbound;have HY:(((a.eval p.2).cells.toList.zipIdx 0).foldl (fun cs (c,j)=>cs.setIfInBounds (p.1*sz+j) c) C)=((a.eval p.2).cells.zipIdx.foldl (fun cs (c,j)=>cs.setIfInBounds (p.1*sz+j) c) C):=by
     rw [← Array.foldl_toList]; simp
    have HZ:B9 ν sz (rows.set p.1 v.cells.toList) ((a.eval p.2).cells.zipIdx.foldl (fun cs (c,j)=>cs.setIfInBounds (p.1*sz+j) c) C):=by
     rw [← HY];refine ⟨by rw [f1,c1,List.length_set],fun row a8=>?_,fun r j row u hr hj=>?_⟩
     ·rcases List.mem_or_eq_of_mem_set a8 with h | h
      ·exact c2 row h
      ·rw [h]; exact hlen
     ·rw [f2];have aeN:j < sz:=by
       have gV:=List.mem_of_getElem? hr;have:row.length=sz:=by
        rcases List.mem_or_eq_of_mem_set gV with h | h
        ·exact c2 row h
        ·rw [h]; exact hlen
       rw [← this]; exact (List.getElem?_eq_some_iff.1 hj).1
      by_cases e:r=p.1
      ·subst e;rw [List.getElem?_set_self al] at hr;cases hr;rw [if_pos ⟨by omega,by omega,by omega⟩]
       rw [show p.1*sz+j - (p.1*sz+0)=j by omega]
       exact vy.get hj
      ·rw [List.getElem?_set_ne (Ne.symm e)] at hr;have aJ:¬ (p.1*sz+0≤r*sz+j∧r*sz+j < p.1*sz+0+(a.eval p.2).cells.toList.length):=by
        rw [eY];rcases Nat.lt_or_ge r p.1 with h | h
        ·have:(r+1)*sz≤p.1*sz:=Nat.mul_le_mul_right _ h;rw [Nat.add_mul] at this; omega
        ·have:(p.1+1)*sz≤r*sz:=Nat.mul_le_mul_right _ (by omega)
         rw [Nat.add_mul] at this; omega
       rw [if_neg (fun h=>aJ h.2)]
       exact c3 r j row u hr hj
    obtain ⟨C',q1,q2⟩:=k4 ν a (fun q hq=>ha q (by simp [hq])) _ HZ
    refine ⟨C',q1,?_⟩;simp only [List.map_cons,Instr.fill];rw [if_neg]
    ·exact q2
    ·simp only [uP];simp;omega
  ·exact h.elim
theorem Sy {ae:Nat} {rows:List (List Value)} {k:ai→Prop} (h:GZ ae rows k):∃ b,k b∧∀ (ν:Nu) (l:Loc) (w:World),bQ ν l (.aS true ae rows) w→bQ ν l b w:=by
 unfold GZ at h
 split at h
 ·refine ⟨_,h,fun ν l w hB=>⟨hB.ae,fun r hr=>absurd hr (Nat.not_lt_zero r),fun r hr=>absurd hr (Nat.not_lt_zero r),fun _ r hr=>absurd hr (Nat.not_lt_zero r),fun r hr=>absurd hr (Nat.not_lt_zero r),fun _ _=>?_,(fun r h=>nomatch h),hB.live⟩⟩
  obtain ⟨cur,t,h1,J,_⟩:=hB.own rfl rfl;exact ⟨cur,t,h1,J,Nat.zero_le _⟩
 ·exact ⟨_,h,fun ν l w hB=>hB⟩
theorem R8 (hT:∀ t ti,tt t=some ti→aC P t ti) {t:TypeId} {n:Nat} {ps:Array (Nat × Operand)} (h:KN tt tmps t n ps.toList aK k):eX P (.buildSlice t n ps) tmps H aK k:=by
 obtain ⟨ti,ht,J⟩:=cP h;clear h;obtain ⟨d,hu,hd⟩:=(hT _ _ ht).under
 split at J
 ·rename_i e hk;rw [hk] at hd;have hd:d=.slice e:=hd;subst hd;obtain ⟨te,he,h⟩:=cP J;clear J;have bf:=hT _ _ he;obtain ⟨i,hi,gJ,ny,z,hz,iF⟩:=bf.info
  split at h
  ·rename_i sN;have sN:=Nat.le_of_ble_eq_true sN;have h:=L7 h;obtain ⟨rows,k1,k2,k3,k4⟩:=KP (n:=n) h (by simp)
   obtain ⟨b,k1,kb⟩:=Sy k1;refine ⟨_,_,k1,fun o ν a w r nn ho ha hH hn next Q hN=>?_⟩
   have jB:z.cells.size=te.size:=by rw [iF]; simpa using bf.len
   -- the zero rows
   have z8:B9 ν te.size (List.replicate n te.zero) (madeCells z.cells (n*te.size)):=by
    refine ⟨by simp [size_madeCells],fun row a8=>by rw [(List.mem_replicate.1 a8).2]; exact bf.len,fun r j row v hr hj=>?_⟩
    have a8:=(List.mem_replicate.1 (List.mem_of_getElem? hr)).2;subst a8;have adS:r < n:=by have:=(List.getElem?_eq_some_iff.1 hr).1; simpa using this
    have gx:j < te.size:=by rw [← bf.len]; exact (List.getElem?_eq_some_iff.1 hj).1
    have al:r*te.size+j < n*te.size:=by
     have:(r+1)*te.size≤n*te.size:=Nat.mul_le_mul_right _ adS;rw [Nat.add_mul] at this; omega
    obtain ⟨v',h1,J⟩:=(bf.self ν).get hj;rw [hj] at h1; cases h1;exact ⟨v,by rw [Kj _ _ _ al (by have:=bf.bit.1; omega),jB,Gs _ _ _ gx,iF]; simpa using hj,J⟩
   obtain ⟨C',q1,q2⟩:=k4 ν a (fun p hp=>ha p.2 (by simp [Op.operands]; exact ⟨p.1,by simpa using hp⟩)) _ z8
   have bE:(execOp a.eval o).run P w=.ok (.value (.slice (some ⟨w.heap.size,0,none⟩) n n)) { w with heap:=w.heap.push (.cells C' e) }:=by
    have e1:(ps.map fun (x:Nat × Operand)=>match x with | (i,x)=>(i,a.eval x))=(ps.map fun x=>(x.1,a.eval x.2)):=rfl
    have e2:(ps.map fun x=>(x.1,a.eval x.2)).toList=ps.toList.map fun p=>(p.1,a.eval p.2):=by simp
    have QE:¬ (n*te.size > 2 ^ 24):=by omega
    have DG:Instr.fill (fun i=>some (i*te.size,te.size)) ((Array.range (n*te.size)).map (z.cells[· % z.cells.size]!)) (ps.map fun x=>(x.1,a.eval x.2)).toList=some C':=by rw [e2]; exact q2
    simp only [execOp,ho,Instr.buildSlice,Sem.run_bind,dC hu,Result.andThen_ok,gC hi,gJ,e1];rw [if_neg QE];by_cases h0:n*te.size=0
    ·have e0:(Array.range (n*te.size)).map (z.cells[· % z.cells.size]!)=(Array.range (n*te.size)).map ((#[]:Array Value)[· % (#[]:Array Value).size]!):=by rw [h0]; simp
     rw [e0] at DG;simp only [Sem.run_bind,Sem.run_ite,h0,if_true,Sem.run_pure,Result.andThen_ok,newRow,run_newObj];rw [h0] at DG;simp only [DG,Sem.run_bind,Sem.run_pure,Result.andThen_ok,newRow,run_newObj]
    ·simp only [Sem.run_bind,Sem.run_ite,h0,if_false,Sem.run_pure,v8 hi hz,Result.andThen_ok];simp only [DG,Sem.run_bind,Sem.run_pure,Result.andThen_ok,newRow,run_newObj]
   have dA:({ w with heap:=w.heap.push (.cells C' e) }:World).heap[w.heap.size]?=some (.cells C' e (0,0)):=by simp
   obtain ⟨c1,c2,c3⟩:=q1;refine jK (by simp [ho]) bE next Q (hN _ _ (ν.add aK ⟨w.heap.size,0,te.size,n⟩) (mY hn ?_ (yq _ _) (Nat.le_refl _) ?_))
   ·refine kb _ _ _ ⟨rfl,fun r hr=>?_,fun r hr j v hv=>?_,fun h=>by simp [ai.jc] at h,fun r hr v hv=>?_,fun _ _=>⟨_,_,dA,?_,?_⟩,(fun r h=>nomatch h),by simp⟩
    ·have hr:r < rows.length:=hr;simp only [ai.row,List.getD,List.getElem?_eq_getElem hr,Option.getD_some];exact c2 _ (List.getElem_mem _)
    ·have hr:r < rows.length:=hr;simp only [ai.row,List.getD,List.getElem?_eq_getElem hr,Option.getD_some] at hv;obtain ⟨v',h1,J⟩:=c3 r j _ v (List.getElem?_eq_getElem hr) hv;refine ⟨v',?_,J.mono (Nu.ki hn)⟩;simp only [Loc.at,World.cell?,Nat.zero_add];rw [dA]
     simpa using h1
    ·have hr:r < rows.length:=hr;simp only [ai.row,List.getD,List.getElem?_eq_getElem hr,Option.getD_some] at hv;exact k3 (fun row a8 u hu=>by rw [(List.mem_replicate.1 a8).2] at hu; exact bf.one u hu) _ (List.getElem_mem _) v hv
    ·simp [c1,k2]
    ·simp [ai.n,k2]
   ·have:=ar.slice (ν:=ν.add aK ⟨w.heap.size,0,te.size,n⟩) aK 0 n n n _ Nu.add_same (.inl rfl) (Nat.le_refl _) (by simp)
    simpa [Loc.at] using this
  ·exact h.elim
 ·exact J.elim
end
open Go Go.RowKit
section
variable {P:Program} {tt:TT} {w:World} {ν:Nu} {aK:Nat} {k:QK} {tmps:List Value} {H:ay}
theorem foldl_push (ns:List Int):∀ r:ByteArray,ns.foldl (fun r n=>r.push (UInt8.ofNat n.toNat)) r=⟨r.data++(ns.map fun n=>UInt8.ofNat n.toNat).toArray⟩:=by
 induction ns with
 | nil=>intro r; simp
 | cons n ns ih=>intro r; rw [List.foldl_cons,ih]; simp [ByteArray.push]
theorem S3 {a:Addr} {c:Nat} (w:World):(Conv.bytesToString (.slice (some a) 0 c)).run P w=.ok (.string ⟨#[]⟩) w:=by
 rw [run_bytesToString w a 0 c [] (by simpa using run_loadCells_list (P:=P) w a [] (fun j v h=>by simp at h))]
 rfl
theorem Uv (hT:∀ t ti,tt t=some ti→aC P t ti) {s d:TypeId} {x:Operand} (h:MT tt tmps H s d x aK k):eX P (.convert s d x) tmps H aK k:=by
 obtain ⟨xv,J,hx⟩:=cS h;clear h;obtain ⟨ts,hs,h⟩:=cP J;clear J;obtain ⟨td,hd,J⟩:=cP h;clear h;have h:=J;clear J;obtain ⟨ds,s7,eT⟩:=(hT _ _ hs).under;obtain ⟨dd,xV,dc⟩:=(hT _ _ hd).under
 split at h
 ·rename_i q q' m hk;rw [hk] at dc;have dc:dd=.int q:=dc;subst dc
  split at h
  ·rename_i qs jC;rw [jC] at eT;have eT:ds=.int qs:=eT;subst eT;refine .value (by simp) h fun o ν a w ho ha hH=>⟨_,.int _ _,?_⟩
   have hx:=(hx ν a (ha x (by simp [Op.operands]))).fZ
   simp [execOp,ho,hx,convert,dC s7,dC xV,Conv.intToInt]
  ·exact h.elim
 ·rename_i s hk;rw [hk] at dc;have dc:dd=.string:=dc;subst dc
  split at h
  ·rename_i jC;rw [jC] at eT;have eT:ds=.string:=eT;subst eT;refine .value (by simp) h fun o ν a w ho ha hH=>⟨_,.str _,?_⟩
   have hx:=(hx ν a (ha x (by simp [Op.operands]))).r8
   simp [execOp,ho,hx,convert,dC s7,dC xV]
  ·exact h.elim
 ·rename_i id row n c hk;rw [hk] at dc;have dc:dd=.string:=dc;subst dc
  split at h
  ·rename_i e jC;rw [jC] at eT;have eT:ds=.slice e:=eT;subst eT;obtain ⟨te,he,J⟩:=cP h;clear h;obtain ⟨de,xW,kE⟩:=(hT _ _ he).under
   split at J
   ·rename_i z9;rw [z9] at kE;have kE:de=.int .u8:=kE;subst kE;have O9:∀ (o:Oper) (ν:Nu) (a:Act) (w:World),o.op=.convert s d x→(∀ x'∈(Op.convert s d x).operands,fk ν tmps a x')→∃ ad c',a.eval x=.slice (some ad) n c'∧(0 < n→∃ l,ν id=some l∧ad=l.at row 0):=by
     intro o ν a w ho ha;rcases (hx ν a (ha x (by simp [Op.operands]))).ub with ⟨l,c',hl,hc,hn,hr,cA⟩ | ⟨hn,hc,bb,cA⟩
     ·exact ⟨_,_,cA,fun _=>⟨l,hl,rfl⟩⟩
     ·subst hn;exact ⟨_,_,cA,fun h=>absurd h (by omega)⟩
    split at J
    ·refine .value (by simp) J fun o ν a w ho ha hH=>⟨_,.str _,?_⟩
     obtain ⟨ad,c',cA,_⟩:=O9 o ν a w ho ha;have:=run_convert_bytes_string (P:=P) w s d e (some ad) 0 c' s7 xW xV;simp [execOp,ho,cA,this,S3]
    ·rename_i m;obtain ⟨b,hb,h⟩:=gK J;clear J
     split at h
     ·rename_i H0;obtain ⟨⟨hle,Pa⟩,h⟩:=h;refine .value (by simp) h fun o ν a w ho ha hH=>⟨_,.str _,?_⟩
      obtain ⟨ad,c',cA,hl⟩:=O9 o ν a w ho ha;obtain ⟨l,eP,rfl⟩:=hl (by omega)
      clear hl;obtain ⟨l',cE,hB⟩:=hH.aI id b hb;rw [eP] at cE; cases cE;have hc:=run_convert_bytes_string (P:=P) w s d e (some (l.at row 0)) (m+1) c' s7 xW xV
      let ns:List Int:=(List.range (m+1)).map fun r=>match b.row (row+r) with | .int _ x::_=>x | _=>0
      have ZZ:(loadCells (l.at row 0) (m+1)).run P w=.ok (ns.map (Value.int .u8)).toArray w:=by
       have:=run_loadCells_list (P:=P) w (l.at row 0) (ns.map (Value.int .u8)) (fun j v hj=>by
        have gx:j < m+1:=by
         have:=(List.getElem?_eq_some_iff.1 hj).1
         simpa [ns] using this
        obtain ⟨y,hy⟩:=Pa j gx;obtain ⟨v',h1,J⟩:=hB.cell (row+j) (by omega) 0 (.int .u8 y) (by rw [hy]; rfl)
        have J:=J.fZ;subst J;have hv:v=.int .u8 y:=by
         simp only [ns,List.map_map,List.getElem?_map,List.getElem?_range gx,Option.map_some,Function.comp,hy] at hj;exact (Option.some.inj hj).symm
        rw [Loc.jO,hv,← h1];simp only [Loc.at,hB.ae,H0]
        congr 2
        omega)
       simpa [ns] using this
      have bE:=run_bytesToString (P:=P) w (l.at row 0) (m+1) c' ns ZZ;rw [foldl_push] at bE;have e:(⟨ByteArray.empty.data++(ns.map fun n=>UInt8.ofNat n.toNat).toArray⟩:ByteArray)=⟨⟨bytesOf b.row row (m+1)⟩⟩:=by
       have e0:ByteArray.empty.data=#[]:=rfl;rw [e0]
       congr 1
       simp only [Array.empty_append,bytesOf,ns,List.map_map]
       congr 1
       apply List.map_congr_left;intro r hr;obtain ⟨y,hy⟩:=Pa r (List.mem_range.1 hr);simp [hy]
      rw [e] at bE;simp [execOp,ho,cA,hc,bE]
     ·exact h.elim
   ·exact J.elim
  ·exact h.elim
 ·rename_i hk;rw [hk] at dc;have dc:dd=.string:=dc;subst dc
  split at h
  ·rename_i e jC;rw [jC] at eT;have eT:ds=.slice e:=eT;subst eT;obtain ⟨te,he,J⟩:=cP h;clear h;obtain ⟨de,xW,kE⟩:=(hT _ _ he).under
   split at J
   ·rename_i z9;rw [z9] at kE;have kE:de=.int .u8:=kE;subst kE;refine .value (by simp) J fun o ν a w ho ha hH=>⟨_,.str _,?_⟩
    have hx:=(hx ν a (ha x (by simp [Op.operands]))).p7
    have:=run_convert_bytes_string (P:=P) w s d e none 0 0 s7 xW xV;simp [execOp,ho,hx,this,Conv.bytesToString]
    rfl
   ·exact J.elim
  ·exact h.elim
 ·rename_i e str hk;rw [hk] at dc;have dc:dd=.slice e:=dc;subst dc
  split at h
  ·rename_i jC;rw [jC] at eT;have eT:ds=.string:=eT;subst eT;obtain ⟨te,he,J⟩:=cP h;clear h;obtain ⟨de,xW,kE⟩:=(hT _ _ he).under
   split at J
   ·rename_i z9;rw [z9] at kE;have kE:de=.int .u8:=kE;subst kE;refine ⟨_,_,J,fun o ν a w r nn ho ha hH hn next Q hN=>?_⟩
    have hx:=(hx ν a (ha x (by simp [Op.operands]))).r8
    have bE:=run_bytes_of_string (P:=P) w s d e str s7 xV xW;have eH:=grownCap_ge w str.size 0 e;have hb:Below w.heap.size w (w.drew.alloc (.cells (bytesRow str (grownCap w str.size 0 e)) e ((bytesRow str (grownCap w str.size 0 e)).size,(bytesRow str (grownCap w str.size 0 e)).size+1))):=((Below.refl _ w).drew).alloc (Nat.le_refl _) _;have acj:(execOp a.eval o).run P w=.ok (.value (.slice (some ⟨w.heap.size,0,none⟩) str.size (grownCap w str.size 0 e))) (w.drew.alloc (.cells (bytesRow str (grownCap w str.size 0 e)) e ((bytesRow str (grownCap w str.size 0 e)).size,(bytesRow str (grownCap w str.size 0 e)).size+1))):=by
     simp [execOp,ho,hx,bE]
    refine jK (by simp [ho]) acj next Q
     (hN _ _ (ν.add aK ⟨w.heap.size,0,1,grownCap w str.size 0 e⟩) (mY hn ?_ hb (Nat.le_refl _) ?_))
    ·have dA:(w.drew.alloc (.cells (bytesRow str (grownCap w str.size 0 e)) e ((bytesRow str (grownCap w str.size 0 e)).size,(bytesRow str (grownCap w str.size 0 e)).size+1))).heap[w.heap.size]?=some (.cells (bytesRow str (grownCap w str.size 0 e)) e ((bytesRow str (grownCap w str.size 0 e)).size,(bytesRow str (grownCap w str.size 0 e)).size+1)):=by
      show (w.heap.push _)[w.heap.size]?=_; simp
     refine ⟨rfl,fun r hr=>rfl,fun r hr j v hv=>⟨v,?_,ar.ke ?_⟩,fun _ r hr v hv=>?_,fun r hr v hv=>?_,fun h _=>by simp [ai.own] at h,(fun r h=>nomatch h),?_⟩
     ·have hr:r < str.size:=hr;have hv:[Value.int .u8 (b9 str r)][j]?=some v:=hv;have hj:j=0:=by
       have:=(List.getElem?_eq_some_iff.1 hv).1
       simpa using this
      subst hj;simp only [Loc.at,World.cell?,Nat.zero_add];rw [dA];simp only [Option.isSome_none,Bool.false_eq_true,if_false];have al:r < str.data.size:=hr;simp [bytesRow,b9] at hv ⊢;rw [Array.getElem?_append_left (by simpa using al)]
      have hg:str.data[r]?=some (str.data[r]'al):=Array.getElem?_eq_getElem al;rw [hg] at hv;rw [Array.getElem?_map,hg,← hv]
      rfl
     ·have hv:[Value.int .u8 (b9 str r)][j]?=some v:=hv;have:=List.mem_of_getElem? hv;simp at this;rw [this]; rfl
     ·have hv:v∈[Value.int .u8 (b9 str r)]:=hv;simp at hv; rw [hv]; rfl
     ·have hv:v∈[Value.int .u8 (b9 str r)]:=hv;simp at hv; rw [hv]; rfl
     ·show w.heap.size < (w.drew.alloc _).heap.size
      simp
    ·have:=ar.slice (ν:=ν.add aK ⟨w.heap.size,0,1,grownCap w str.size 0 e⟩) aK 0 str.size aO (grownCap w str.size 0 e) _ Nu.add_same (.inr rfl) eH (by simp)
     simpa [Loc.at] using this
   ·exact J.elim
  ·exact h.elim
 ·exact h.elim
theorem ack (hT:∀ t ti,tt t=some ti→aC P t ti) {c:Call} (hc:c.callee=.builtin .cap) {t:TypeId} {x:Operand} (hx:c.args=#[x]) (ht:c.argTypes=#[t]) (h:PN tmps tt t x k):eX P (.call c) tmps H aK k:=by
 obtain ⟨xv,J,hv⟩:=cS h;clear h;obtain ⟨ti,IP,h⟩:=cP J;clear J;obtain ⟨d,hu,hd⟩:=(hT _ _ IP).under
 split at h
 ·rename_i e hk;rw [hk] at hd;have hd:d=.slice e:=hd;subst hd;refine .value (by simp) h fun o ν a w ho ha hH=>⟨_,.int _ _,?_⟩
  have he:=(hv ν a (ha x (by simp [Op.operands,Call.operands,hc,hx]))).p7
  simp [execOp,ho,resolve,hc,hx,ht,invoke,builtin,Builtin.cap_,run_underlying hu,he,goInt]
 ·exact h.elim
theorem wrap_small {m:Nat} (h:m≤140737488355328):IntKind.i64.wrap (m:Int)=(m:Int):=by
 have e:IntKind.i64.wrap (m:Int)=if (true && decide ((m:Int) % (2 ^ 64:Int) ≥ (2 ^ 63:Int)))=true then (m:Int) % (2 ^ 64:Int) - (2 ^ 64:Int) else (m:Int) % (2 ^ 64:Int):=rfl
 rw [e];simp only [Bool.true_and,decide_eq_true_eq]
 split <;> omega
theorem RQ {t u ty e:TypeId} {q:IntKind} {i:TypeInfo} {z:Value} (ht:P.underlying t=some (.slice e)) (hu:P.underlying u=some (.int q)) (hi:P.info? e=some i) (hz:i.zero=some z)
  {n:Int} (h0:0 < n) (QF:n*i.bytes≤140737488355328) (h63:n≤140737488355328) :
  (Builtin.append_ #[t,u] ty #[.slice none 0 0,.int .i64 n]).run P w =
   .ok (.slice (some ⟨w.heap.size,0,none⟩) n.toNat (grownCap w n.toNat 0 e))
    (w.drew.alloc (.cells ((if n.toNat*i.size=0 then #[] else Builtin.zeroCells z.cells n.toNat)++Builtin.zeroCells z.cells (grownCap w n.toNat 0 e - n.toNat)) e)):=by
 obtain ⟨m,rfl⟩:∃ m:Nat,n=m:=⟨n.toNat,by omega⟩
 have hw:IntKind.i64.wrap (m:Int)=(m:Int):=wrap_small (by omega)
 have hn:m≠0:=by omega
 have h1:¬ ((m:Int) < 0):=by omega
 have J:¬ (281474976710656 < (m:Int)*(i.bytes:Int)):=by omega
 have PO:¬ (9223372036854775807 < (m:Int)):=by omega
 have PQ:¬ (281474976710656 < Builtin.nextslicecap m 0*i.bytes):=by
  rw [nextslicecap_zero (by omega)]
  have QF:((m*i.bytes:Nat):Int)≤140737488355328:=by rw [Int.natCast_mul]; exact QF
  omega
 by_cases hs:m*i.size=0
 ·simp [Builtin.append_,run_underlying ht,run_underlying hu,sizeOf,typeInfo,zeroValue,hi,hz,asInt,asIntOf,hw,h1,J,hn,PO,PQ,Question.forced,newRow,grownCap,Builtin.firstCells,hs]
 ·simp [Builtin.append_,run_underlying ht,run_underlying hu,sizeOf,typeInfo,zeroValue,hi,hz,asInt,asIntOf,hw,h1,J,hn,PO,PQ,Question.forced,newRow,grownCap,Builtin.firstCells,hs]
theorem Kk (z:Array Value) (n j:Nat) (h:j < n*z.size) (hz:0 < z.size):(Builtin.zeroCells z n)[j]?=z[j % z.size]?:=by
 unfold Builtin.zeroCells;rw [Array.getElem?_map,Array.getElem?_range,if_pos h];simp only [Option.map_some];have:j % z.size < z.size:=Nat.mod_lt _ hz;rw [Array.getElem?_eq_getElem this];simp [this]
theorem S4 (hT:∀ t ti,tt t=some ti→aC P t ti) {c:Call} (hc:c.callee=.builtin .append) {t u:TypeId} {x y:Operand} (hx:c.args=#[x,y]) (Aa:c.argTypes=#[t,u]) (h:L4 tt tmps t u x y aK k):eX P (.call c) tmps H aK k:=by
 obtain ⟨xv,J,vz⟩:=cS h;clear h;obtain ⟨yv,h,vA⟩:=cS J;clear J;obtain ⟨ti,ht,J⟩:=cP h;clear h;obtain ⟨d,hu,hd⟩:=(hT _ _ ht).under
 split at J
 ·rename_i e hk;rw [hk] at hd;have hd:d=.slice e:=hd;subst hd;obtain ⟨te,he,h⟩:=cP J;clear J;obtain ⟨tu,htu,J⟩:=cP h;clear h;obtain ⟨du,huu,DH⟩:=(hT _ _ htu).under;have bf:=hT _ _ he;obtain ⟨i,hi,gJ,ny,z,hz,iF⟩:=bf.info
  split at J
  ·rename_i q n hku cZ;rw [hku] at DH;have DH:du=.int q:=DH;subst DH;obtain ⟨⟨b0,b1⟩,h⟩:=J;refine ⟨_,_,h,fun o ν a w r nn ho ha hH hn next Q hN=>?_⟩
   have qY:=(vz ν a (ha x (by simp [Op.operands,Call.operands,hc,hx]))).p7
   have Ab:=(vA ν a (ha y (by simp [Op.operands,Call.operands,hc,hx]))).fZ
   have lP:=bf.bit.2;have Ac:n≤n*te.bytes:=by
    have:n*1≤n*(te.bytes:Int):=Int.mul_le_mul_of_nonneg_left (by omega) (by omega)
    omega
   have bE:=RQ (P:=P) (w:=w) (ty:=o.type) hu huu hi hz b0 (by rw [ny]; exact b1) (by omega)
   have eH:=grownCap_ge w n.toNat 0 e;have oi:∀ C:Array Value,Below w.heap.size w (w.drew.alloc (.cells C e)):=fun C=>((Below.refl _ w).drew).alloc (Nat.le_refl _) _
   have hpz:0 < te.size:=bf.bit.1;have jB:z.cells.size=te.size:=by rw [iF]; simpa using bf.len
   have hm:¬ (n.toNat*i.size=0):=by
    rw [gJ];intro h0;rcases Nat.mul_eq_zero.1 h0 with h | h <;> omega
   rw [if_neg hm] at bE;generalize hC:Builtin.zeroCells z.cells n.toNat++Builtin.zeroCells z.cells (grownCap w n.toNat 0 e - n.toNat)=C at bE;refine jK (w':=w.drew.alloc (.cells C e)) (v':=.slice (some ⟨w.heap.size,0,none⟩) n.toNat (grownCap w n.toNat 0 e)) (by simp [ho]) (by simp [execOp,ho,resolve,hc,hx,Aa,invoke,builtin,qY,Ab,bE]) next Q
    (hN _ _ (ν.add aK ⟨w.heap.size,0,te.size,grownCap w n.toNat 0 e⟩) (mY hn ?_ (oi _) (Nat.le_refl _) ?_))
   ·have DJ:C.size=grownCap w n.toNat 0 e*te.size:=by
     rw [← hC,Array.size_append];simp only [Builtin.zeroCells,Array.size_map,Array.size_range,jB];rw [← Nat.add_mul]
     congr 1
     omega
    have dA:(w.drew.alloc (.cells C e)).heap[w.heap.size]?=some (.cells C e (0,0)):=by show (w.heap.push _)[w.heap.size]?=_; simp
    refine ⟨rfl,fun r hr=>bf.len,fun r hr j v hv=>⟨v,?_,ar.ke (dE cZ v (List.mem_of_getElem? hv))⟩,fun _ r hr v hv=>dE cZ v hv,fun r hr v hv=>bf.one v hv,fun _ _=>⟨_,_,dA,?_,?_⟩,(fun r h=>nomatch h),?_⟩
    ·have hr:r < n.toNat:=hr;have hv:te.zero[j]?=some v:=hv;have hj:j < te.size:=by rw [← bf.len]; exact (List.getElem?_eq_some_iff.1 hv).1
     simp only [Loc.at,World.cell?,Nat.zero_add];rw [dA];have al:r*te.size+j < n.toNat*te.size:=by
      have:(r+1)*te.size≤n.toNat*te.size:=Nat.mul_le_mul_right _ (by omega)
      rw [Nat.add_mul] at this; omega
     simp only [Option.isSome_none,Bool.false_eq_true,if_false];rw [← hC,Array.getElem?_append_left (by simp only [Builtin.zeroCells,Array.size_map,Array.size_range,jB]; exact al),Kk _ _ _ (by rw [jB]; exact al) (by omega),jB,Gs _ _ _ hj,iF]
     simpa using hv
    ·rw [DJ]; simp
    ·simp only [ai.n]; omega
    ·show w.heap.size < (w.drew.alloc _).heap.size
     simp
   ·have:=ar.slice (ν:=ν.add aK ⟨w.heap.size,0,te.size,grownCap w n.toNat 0 e⟩) aK 0 n.toNat aO (grownCap w n.toNat 0 e) _ Nu.add_same (.inr rfl) eH (by simp)
    simpa [Loc.at] using this
  ·exact J.elim
 ·exact J.elim
end
open Go Go.RowKit
section
variable {P:Program} {tt:TT} {Φ:zk} {w:World} {ν:Nu} {aK:Nat} {k:QK} {tmps:List Value} {H:ay}
def Nu.comp (ν:Nu) (τ:List Nat):Nu:=fun j=>(τ[j]?).bind ν
theorem Fo {τ:List Nat} {m:Nat} {x:Value} {xs l:List Value} (h:mG τ m (x::xs)=some l):∃ y ys,l=y::ys∧cT τ m x=some y∧mG τ m xs=some ys:=by
 unfold mG at h;rw [List.foldr_cons] at h
 split at h
 ·rename_i y ys h1 J;exact ⟨y,ys,(Option.some.inj h).symm,h1,J⟩
 ·cases h
theorem FW {τ:List Nat} {m:Nat} {l:List Value} (h:mG τ m []=some l):l=[]:=by
 simp [mG] at h; exact h
theorem uc {τ:List Nat} {m:Nat} (h:∀ v v2 r,cT τ m v=some v2→ar ν v2 r→ar (ν.comp τ) v r):∀ {xs l rs:List Value},mG τ m xs=some l→bg ν l rs→bg (ν.comp τ) xs rs
 | [],l,rs,h1,J=>by rw [FW h1] at J; rw [J.ja]; exact .nil _
 | x::xs,l,rs,h1,J=>by
  obtain ⟨y,ys,rfl,e1,e2⟩:=Fo h1;obtain ⟨r,cg,rfl,k1,k2⟩:=J.js;exact .cons (h _ _ _ e1 k1) (uc h e2 k2)
theorem yE {τ:List Nat} {m:Nat} (h:∀ v v2 r,cT τ m v=some v2→ar (ν.comp τ) v r→ar ν v2 r):∀ {xs l rs:List Value},mG τ m xs=some l→bg (ν.comp τ) xs rs→bg ν l rs
 | [],l,rs,h1,J=>by rw [FW h1]; rw [J.ja]; exact .nil _
 | x::xs,l,rs,h1,J=>by
  obtain ⟨y,ys,rfl,e1,e2⟩:=Fo h1;obtain ⟨r,cg,rfl,k1,k2⟩:=J.js;exact .cons (h _ _ _ e1 k1) (yE h e2 k2)
theorem wG {τ:List Nat}:∀ (m:Nat) (v v2 r:Value),cT τ m v=some v2→ar ν v2 r→ar (ν.comp τ) v r:=by
 intro m
 induction m with
 | zero=>intro v v2 r h; simp [cT] at h
 | succ m ih =>
  intro v v2 r h hr;unfold cT at h
  split at h
  ·cases h; rw [hr.kf rfl]; exact .bool _
  ·cases h; rw [hr.kf rfl]; exact .int _ _
  ·cases h; rw [hr.kf rfl]; exact .str _
  ·cases h; cases hr; exact .mE
  ·split at h
   ·rename_i vx e;cases h;obtain ⟨l,h1,rfl⟩:=hr.oV;exact .ptr _ _ _ l (by simp [Nu.comp,e,h1])
   ·cases h
  ·cases h; cases hr; exact .iP
  ·split at h
   ·rename_i vx e;cases h;rcases hr.ub with ⟨l,c',h1,J,h3,h4,rfl⟩ | ⟨rfl,J,b,rfl⟩
    ·exact .slice _ _ _ _ _ l (by simp [Nu.comp,e,h1]) J h3 h4
    ·exact .void _ _ _ _ J
   ·cases h
  ·cases h; cases hr; exact .mF
  ·split at h
   ·rename_i l l' e;cases h;obtain ⟨ys,rfl,hy⟩:=hr.uE;have:=uc ih e hy;exact .agg _ _ this.1 this.2
   ·cases h
  ·split at h
   ·rename_i l l' e;cases h;obtain ⟨ys,rfl,hy⟩:=hr.nN;have:=uc ih e hy;exact .tuple _ _ this.1 this.2
   ·cases h
  ·split at h
   ·rename_i l1 l2 l1' l2' e1 e2;cases h;obtain ⟨ys,dg,rfl,hy,Ab⟩:=hr.rW;have t1:=uc ih e1 hy;have t2:=uc ih e2 Ab;exact .func _ _ _ _ _ t1.1 t1.2 t2.1 t2.2
   ·cases h
  ·cases h
theorem FX {τ:List Nat}:∀ (m:Nat) (v v2 r:Value),cT τ m v=some v2→ar (ν.comp τ) v r→ar ν v2 r:=by
 intro m
 induction m with
 | zero=>intro v v2 r h; simp [cT] at h
 | succ m ih =>
  intro v v2 r h hr;unfold cT at h
  split at h
  ·cases h; rw [hr.kf rfl]; exact .bool _
  ·cases h; rw [hr.kf rfl]; exact .int _ _
  ·cases h; rw [hr.kf rfl]; exact .str _
  ·cases h; cases hr; exact .mE
  ·split at h
   ·rename_i vx e;cases h;obtain ⟨l,h1,rfl⟩:=hr.oV;simp [Nu.comp,e] at h1;exact .ptr _ _ _ l h1
   ·cases h
  ·cases h; cases hr; exact .iP
  ·split at h
   ·rename_i vx e;cases h;rcases hr.ub with ⟨l,c',h1,J,h3,h4,rfl⟩ | ⟨rfl,J,b,rfl⟩
    ·simp [Nu.comp,e] at h1;exact .slice _ _ _ _ _ l h1 J h3 h4
    ·exact .void _ _ _ _ J
   ·cases h
  ·cases h; cases hr; exact .mF
  ·split at h
   ·rename_i l l' e;cases h;obtain ⟨ys,rfl,hy⟩:=hr.uE;have:=yE ih e hy;exact .agg _ _ this.1 this.2
   ·cases h
  ·split at h
   ·rename_i l l' e;cases h;obtain ⟨ys,rfl,hy⟩:=hr.nN;have:=yE ih e hy;exact .tuple _ _ this.1 this.2
   ·cases h
  ·split at h
   ·rename_i l1 l2 l1' l2' e1 e2;cases h;obtain ⟨ys,dg,rfl,hy,Ab⟩:=hr.rW;have t1:=yE ih e1 hy;have t2:=yE ih e2 Ab;exact .func _ _ _ _ _ t1.1 t1.2 t2.1 t2.2
   ·cases h
  ·cases h
structure Cy (b c:ai):Prop extends aD b c where
 rc:b.rc=none
theorem E2 {k:Prop}:∀ {σ:List Nat} {bs:List ai},zm H σ bs k→σ.length=bs.length∧(∀ (j s:Nat) (b:ai),σ[j]?=some s→bs[j]?=some b→∃ c,H[s]?=some (some c)∧Cy b c)∧k
 | [],[],h=>⟨rfl,fun j s b h=>by simp at h,h⟩
 | s::σ,b::bs,h=>by
  have jm:b.rc=none∧gR H s fun c=>aD b c∧zm H σ bs k:=by
   cases b with
   | aS o e r=>exact ⟨rfl,h⟩
   | flat o n e g=>exact ⟨rfl,h⟩
   | cj r=>exact h.elim
  obtain ⟨jm,h⟩:=jm;obtain ⟨c,h1,J,h3⟩:=gK h;obtain ⟨e1,e2,e3⟩:=E2 h3;refine ⟨by simp [e1],fun j s' b' hs hb=>?_,e3⟩
  cases j with
  | zero=>simp at hs hb; subst hs; subst hb; exact ⟨c,h1,J,jm⟩
  | succ j=>exact e2 j s' b' (by simpa using hs) (by simpa using hb)
 | [],_::_,h=>h.elim
 | _::_,[],h=>h.elim
theorem bQ.FY {ν aj:Nu} {l:Loc} {b:ai} {w:World} (h:bQ ν l b w) (hs:∀ r,r < b.n→∀ v∈b.row r,cH v=true):bQ aj l b w :=
 ⟨h.ae,h.len,fun r hr j v hv=>by
  obtain ⟨v',h1,J⟩:=h.cell r hr j v hv;have Ad:=hs r hr v (List.mem_of_getElem? hv);rw [J.kf Ad] at h1;exact ⟨v,h1,ar.ke Ad⟩,h.plain,h.one,h.own,h.lr,h.live⟩
theorem bQ.le {ν aj:Nu} {l:Loc} {b c:ai} {w:World} (h:bQ ν l c w) (hle:Cy b c):bQ aj l b w:=by
 refine ⟨h.ae.trans hle.ae,fun r hr=>?_,fun r hr j v hv=>?_,fun _ r hr v hv=>hle.flat r hr v hv,fun r hr v hv=>?_,fun ho _=>?_,(fun r h=>by rw [hle.rc] at h; cases h),h.live⟩
 ·rw [hle.row r hr,h.len r (Nat.lt_of_lt_of_le hr hle.n),hle.ae]
 ·rw [hle.row r hr] at hv;obtain ⟨v',h1,J⟩:=h.cell r (Nat.lt_of_lt_of_le hr hle.n) j v hv;have Ad:=hle.flat r hr v (by rw [hle.row r hr]; exact List.mem_of_getElem? hv)
  rw [J.kf Ad] at h1;exact ⟨v,h1,ar.ke Ad⟩
 ·rw [hle.row r hr] at hv;exact h.one r (Nat.lt_of_lt_of_le hr hle.n) v hv
 ·obtain ⟨h1,J⟩:=hle.own ho;obtain ⟨cur,t,q1,q2,q3⟩:=h.own (ai.cY h1).1 (ai.cY h1).2;exact ⟨cur,t,q1,q2,by omega⟩
theorem NJ {σ:List Nat}:(ν.comp σ).le (ν.comp (σ++[aK])):=by
 intro j l h;unfold Nu.comp at h ⊢;cases e:σ[j]? with
 | none=>rw [e] at h; cases h
 | some s =>
  rw [List.getElem?_append_left (List.getElem?_eq_some_iff.1 e).1,e]
  rwa [e] at h
theorem KQ {k:Prop} {τ:List Nat}:∀ {σ:List Nat} {bs:List ai},Ct H τ σ bs k→σ.length=bs.length∧(∀ (j s:Nat) (b:ai),σ[j]?=some s→bs[j]?=some b→∃ c,H[s]?=some (some c)∧Df τ b c∧b.rc=none)∧k
 | [],[],h=>⟨rfl,fun j s b h=>by simp at h,h⟩
 | s::σ,b::bs,h=>by
  have jm:b.rc=none∧gR H s fun c=>Df τ b c∧Ct H τ σ bs k:=by
   cases b with
   | aS o e r=>exact ⟨rfl,h⟩
   | flat o n e g=>exact ⟨rfl,h⟩
   | cj r=>exact h.elim
  obtain ⟨jm,h⟩:=jm;obtain ⟨c,h1,J,h3⟩:=gK h;obtain ⟨e1,e2,e3⟩:=KQ h3;refine ⟨by simp [e1],fun j s' b' hs hb=>?_,e3⟩
  cases j with
  | zero=>simp at hs hb; subst hs; subst hb; exact ⟨c,h1,J,jm⟩
  | succ j=>exact e2 j s' b' (by simpa using hs) (by simpa using hb)
 | [],_::_,h=>h.elim
 | _::_,[],h=>h.elim
theorem MV {τ:List Nat} {m:Nat}:∀ {xs l:List Value},mG τ m xs=some l→xs.length=l.length∧∀ (j:Nat) v,xs[j]?=some v→∃ v2,l[j]?=some v2∧cT τ m v=some v2
 | [],l,h=>by rw [FW h]; exact ⟨rfl,fun j v h=>by simp at h⟩
 | x::xs,l,h=>by
  obtain ⟨y,ys,rfl,h1,J⟩:=Fo h;obtain ⟨h3,h4⟩:=MV J;refine ⟨by simp [h3],fun j v hj=>?_⟩
  cases j with
  | zero=>simp at hj; subst hj; exact ⟨y,rfl,h1⟩
  | succ j=>exact h4 j v (by simpa using hj)
theorem VA {τ:List Nat} {m:Nat} {v v2:Value} (h:cT τ m v=some v2) (J:v2.oneCell'=true):v.oneCell'=true:=by
 cases m with
 | zero=>simp [cT] at h
 | succ m =>
  unfold cT at h
  split at h <;> first | rfl | (cases h; exact J) | (split at h <;> cases h <;> exact J) | (cases h)
theorem bQ.ler {ν:Nu} {σ:List Nat} {l:Loc} {b c:ai} {w:World} (h:bQ ν l c w) (hle:Df σ b c) (IT:b.rc=none):bQ (ν.comp σ) l b w:=by
 rcases hle with hle | ⟨o,e,r,r',rfl,rfl,hr⟩
 ·exact h.le ⟨hle,IT⟩
 ·obtain ⟨h1,J⟩:=MV hr;have one:∀ q,q < 1→q=0:=fun q hq=>by omega
  refine ⟨h.ae,fun q hq=>?_,fun q hq j v hv=>?_,(fun h=>nomatch h),fun q hq v hv=>?_,(fun h=>nomatch h),(fun r h=>nomatch h),h.live⟩
  ·obtain rfl:=one q hq;exact h1.trans (h.len 0 hq)
  ·obtain rfl:=one q hq;obtain ⟨v2,h3,h4⟩:=J j v hv;obtain ⟨v',h5,h6⟩:=h.cell 0 hq j v2 h3;exact ⟨v',h5,wG 3 _ _ _ h4 h6⟩
  ·obtain rfl:=one q hq;obtain ⟨j,hj⟩:=List.getElem?_of_mem (show v∈r from hv)
   obtain ⟨v2,h3,h4⟩:=J j v hj;exact VA h4 (h.one 0 hq v2 (List.mem_of_getElem? h3))
theorem Z0 {c:Call} {f:Operand} (hc:c.callee=.value f) (IU:∀ g S,Φ g=some S→Dc P g S)
  (h:bZ tmps f fun fv=>match fv with
   | .func (.func g) x y=>qm tmps c.args.toList fun vs=>qO x.toList vs fun l=>qO l y.toList fun args=>Hs Φ g args H aK k
   | _=>False):eX P (.call c) tmps H aK k:=by
 obtain ⟨fv,J,hf⟩:=cS h;clear h
 split at J
 ·rename_i g x y;obtain ⟨vs,h,fG⟩:=Bm J;clear J;have J:=wq (wq h);clear h;have OB:∀ (o:Oper) (ν:Nu) (a:Act),(∀ z∈(Op.call c).operands,fk ν tmps a z)→∃ ys dg,a.eval f=.func (.func g) ⟨ys⟩ ⟨dg⟩∧bg ν (x.toList++vs++y.toList) ((ys++c.args.toList.map a.eval)++dg):=by
   intro o ν a ha;have fG:=fG ν a (fun z hz=>ha z (by simp [Op.operands,Call.operands,hc]; exact .inr (by simpa using hz)))
   obtain ⟨ys,dg,j5,h1,J⟩:=(hf ν a (ha f (by simp [Op.operands,Call.operands,hc]))).rW
   exact ⟨ys,dg,j5,(h1.append fG).append J⟩
  have Pb:∀ (o:Oper) (a:Act) (w:World) (ys dg:List Value),(∀ args w,(callFunc g args).run P w=.ok (.enter g args) w)→o.op=.call c→a.eval f=.func (.func g) ⟨ys⟩ ⟨dg⟩ →
    (execOp a.eval o).run P w=.ok (.enter g ⟨(ys++c.args.toList.map a.eval)++dg⟩) w:=by
   intro o a w ys dg oj ho j5;simp only [execOp,ho,resolve,hc,j5,Deferred.ofValue,Sem.run_bind,Sem.run_pure,Result.andThen_ok,invoke,oj]
   congr 2
   apply Array.ext';simp
  have core:∀ (S:aY) (i:S.ι) (σ:List Nat) (v:Value),dq P g S→mG σ 3 (S.args i)=some (x.toList++vs++y.toList)→S.pre i→σ.length=(S.ah i).length →
    (∀ (ν:Nu) (w:World),bS ν H w→∀ id b,(S.ah i)[id]?=some b→∃ l,(ν.comp σ) id=some l∧bQ (ν.comp σ) l b w)→cT (σ++[aK]) 3 (S.val i)=some v→k v (S.new i)→eX P (.call c) tmps H aK k:=by
   intro S i σ v hs n6 hp hlen H6 hv h;refine ⟨_,_,h,fun o ν a w r n ho ha hH hn next Q hN=>⟨fun _ _=>trivial,?_⟩⟩
   obtain ⟨ys,dg,j5,nX⟩:=OB o ν a ha;have Z1:=uc (wG (ν:=ν) 3) n6 nX;rw [Oper.semAt_eq _ _ _ (by simp [ho]),Pb o a w ys dg hs.enters ho j5]
   refine ⟨fun h=>by simp [WF,Fence.wide] at h,?_⟩
   have kF:bS (ν.comp σ) ((S.ah i).map some) w:=by
    have kX:∀ (id:Nat) (b:ai),((S.ah i).map some)[id]?=some (some b)→(S.ah i)[id]?=some b:=by
     intro id b bo;rw [List.getElem?_map] at bo;cases e:(S.ah i)[id]? with
     | none=>rw [e] at bo; cases bo
     | some b'=>rw [e] at bo; simp at bo; rw [bo]
    refine ⟨fun id b bo=>H6 ν w hH id b (kX id b bo),fun p q bp bq lp lq IW _ _ ho=>?_⟩
    have:=hs.ro i bp (List.mem_of_getElem? (kX p bp IW));rw [this] at ho; cases ho
   have gz:∀ id,(S.ah i).length≤id→(ν.comp σ) id=none:=by
    intro id bo;simp [Nu.comp,List.getElem?_eq_none (show σ.length≤id by omega)]
   have zn:=hs.calls i hp (ν.comp σ) _ w (n - 1) Z1 kF gz;have yY:CallsIn (WF r) (n - 1) P g ⟨(ys++c.args.toList.map a.eval)++dg⟩ w fun e w'=>∃ v' aj,e=.returned v'∧nc (ν.comp σ) aj (S.ah i).length w w' (S.val i) v' (S.new i):=zn
   refine yY.mono ?_
   rintro e w' ⟨v',dR,rfl,hq⟩
   cases dA:S.new i with
   | none =>
    have e1:=hq.z6 dA;refine hN _ _ ν ⟨ν.le_refl,fun _ _=>rfl,?_,hq.below,fun _=>rfl,(fun b hb=>by rw [dA] at hb; cases hb)⟩
    refine FX 3 _ _ _ hv (hq.val.mono ?_);rw [e1]; exact NJ
   | some b =>
    obtain ⟨l,h1,J,h3⟩:=hq.ig b dA;have hle:dR.le ((ν.add aK l).comp (σ++[aK])):=by
     intro j lj hj;by_cases e:j=(S.ah i).length
     ·subst e;rw [h1] at hj; cases hj;simp [Nu.comp,← hlen,Nu.add_same]
     ·rw [hq.only j e] at hj;have:=NJ (aK:=aK) j lj hj;unfold Nu.comp at this ⊢;cases e2:(σ++[aK])[j]? with
      | none=>rw [e2] at this; cases this
      | some s =>
       rw [e2] at this;exact Nu.ki hn s lj this
    have s8:=hs.fl i b dA;refine hN _ _ (ν.add aK l) ⟨Nu.ki hn,fun id bo=>Nu.jb bo,FX 3 _ _ _ hv (hq.val.mono hle),hq.below,(fun h=>by rw [dA] at h; cases h),(fun b' bB=>?_)⟩
    rw [dA] at bB; cases bB;exact ⟨l,Nu.add_same,J.FY (J.plain s8),h3⟩
  unfold Hs at J
  split at J
  ·rename_i S hS;obtain ⟨i,hi,hp,h⟩:=J;have h:=v9 h;have hs:bk P g S:=IU g _ hS;refine ⟨_,none,h,fun o ν a w r n ho ha hH hn next Q hN=>⟨fun _ _=>trivial,?_⟩⟩
   obtain ⟨ys,dg,j5,nX⟩:=OB o ν a ha;rw [← hi] at nX;rw [Oper.semAt_eq _ _ _ (by simp [ho]),Pb o a w ys dg hs.enters ho j5]
   refine ⟨fun h=>by simp [WF,Fence.wide] at h,?_⟩
   have zn:=hs.calls i hp ν _ w (n - 1) nX;have yY:CallsIn (WF r) (n - 1) P g ⟨(ys++c.args.toList.map a.eval)++dg⟩ w fun e w'=>∃ v',e=.returned v'∧ar ν (S.val i) v'∧Below w.heap.size w w':=zn
   refine yY.mono ?_
   rintro e w' ⟨v',rfl,hv,hb⟩
   exact hN _ _ ν ⟨ν.le_refl,fun _ _=>rfl,hv,hb,fun _=>rfl,(fun b hb=>by cases hb)⟩
  ·rename_i S hS;obtain ⟨i,σ,n6,hp,h⟩:=J;obtain ⟨hlen,oi,v,hv,h⟩:=E2 h;refine core S i σ v (IU g _ hS) n6 hp hlen (fun ν w hH id b bo=>?_) hv (v9 h)
   have al:id < σ.length:=by rw [hlen]; exact (List.getElem?_eq_some_iff.1 bo).1
   obtain ⟨cb,h1,J⟩:=oi id _ b (List.getElem?_eq_getElem al) bo;obtain ⟨l,h3,h4⟩:=hH.aI _ _ h1;exact ⟨l,by simp [Nu.comp,List.getElem?_eq_getElem al,h3],h4.le J⟩
  ·rename_i S hS;obtain ⟨i,σ,n6,hp,h⟩:=J;obtain ⟨hlen,oi,v,hv,h⟩:=KQ h;refine core S i σ v (IU g _ hS) n6 hp hlen (fun ν w hH id b bo=>?_) hv (v9 h)
   have al:id < σ.length:=by rw [hlen]; exact (List.getElem?_eq_some_iff.1 bo).1
   obtain ⟨cb,h1,J,h5⟩:=oi id _ b (List.getElem?_eq_getElem al) bo;obtain ⟨l,h3,h4⟩:=hH.aI _ _ h1;exact ⟨l,by simp [Nu.comp,List.getElem?_eq_getElem al,h3],h4.ler J h5⟩
  ·exact J.elim
 ·exact J.elim
structure Kept (O:Nat→Prop) (w w':World):Prop where
 os:w'.os=w.os
 tape:w'.tape=w.tape
 output:w'.output=w.output
 size:w.heap.size≤w'.heap.size
 aI:∀ b,b < w.heap.size→¬ O b→w'.heap[b]?=w.heap[b]?
theorem Kept.refl {O:Nat→Prop} (w:World):Kept O w w:=⟨rfl,rfl,rfl,Nat.le_refl _,fun _ _ _=>rfl⟩
theorem Kept.below {O:Nat→Prop} {W w w':World} (h:Kept O W w) (hb:Below w.heap.size w w'):Kept O W w' :=
 ⟨hb.os.trans h.os,hb.tape.trans h.tape,hb.output.trans h.output,Nat.le_trans h.size hb.size,fun b h1 J=>(hb.block b (Nat.lt_of_lt_of_le h1 h.size)).trans (h.aI b h1 J)⟩
theorem Kept.then {O O':Nat→Prop} {W w w':World} (h:Kept O W w) (h':Kept O' w w') (hO:∀ b,O' b→O b∨W.heap.size≤b):Kept O W w' :=
 ⟨h'.os.trans h.os,h'.tape.trans h.tape,h'.output.trans h.output,Nat.le_trans h.size h'.size,fun b h1 J =>
  (h'.aI b (Nat.lt_of_lt_of_le h1 h.size) (fun h3=>(hO b h3).elim J (fun h4=>by omega))).trans (h.aI b h1 J)⟩
structure gu (P:Program) (f:FuncId) (F:FT):Prop where
 enters:∀ args w,(callFunc f args).run P w=.ok (.enter f args) w
 calls:∀ (args:List Value) (H:ay) (K:Value→ay→Prop),F args H K→∀ (ν:Nu) (as:List Value) (w:World) (n:Nat) (O:Nat→Prop),bg ν args as→bS ν H w→(∀ id,H.length≤id→ν id=none) →
  (∀ id b l,H[id]?=some (some b)→b.own=true→ν id=some l→O l.aI) →
  CallsIn Fence.wide n P f ⟨as⟩ w fun e w'=>∃ v v' aj H',e=.returned v'∧K v H'∧ar aj v v'∧ν.le aj∧bS aj H' w'∧(∀ id,H'.length≤id→aj id=none)∧Kept O w w' ∧
   ∀ id b l,H'[id]?=some (some b)→b.own=true→aj id=some l→O l.aI∨w.heap.size≤l.aI
structure EnvOk (P:Program) (E:Env):Prop where
 ty:∀ t ti,E.tt t=some ti→aC P t ti
 eq:∀ t∈E.eqs,∀ ti,E.tt t=some ti→xJ P t ti.zero
 fn:∀ g S,E.Φ g=some S→Dc P g S
 ft:∀ g F,E.Ψ g=some F→gu P g F:=by intro g F h; cases h
def G1 (K:Value→ay→Prop) (ν:Nu) (O:Nat→Prop) (w:World) (e:Ending) (w':World):Prop :=
 ∃ v v' aj H',e=.returned v'∧K v H'∧ar aj v v'∧ν.le aj∧bS aj H' w'∧(∀ id,H'.length≤id→aj id=none)∧Kept O w w' ∧
   ∀ id b l,H'[id]?=some (some b)→b.own=true→aj id=some l→O l.aI∨w.heap.size≤l.aI
def QG (P:Program) (l:Nat) (G:FT) (bt:Nu):Prop :=
 ∀ (args:List Value) (H:ay) (K:Value→ay→Prop),G args H K→∀ (ν:Nu) (as:List Value) (w:World) (n:Nat) (O:Nat→Prop),bt.le ν→bg ν args as→bS ν H w→(∀ id,H.length≤id→ν id=none) →
  (∀ id b l,H[id]?=some (some b)→b.own=true→ν id=some l→O l.aI)→YieldAt Fence.wide n P l ⟨as⟩ w (G1 K ν O w)
structure zN (P:Program) (f:FuncId) (I:Nat→FT→Nu→FT):Prop where
 enters:∀ args w,(callFunc f args).run P w=.ok (.enter f args) w
 calls:∀ l G bt,QG P l G bt→∀ (args:List Value) (H:ay) (K:Value→ay→Prop),I l G bt args H K→∀ (ν:Nu) (as:List Value) (w:World) (n:Nat) (O:Nat→Prop),bt.le ν→bg ν args as→bS ν H w→(∀ id,H.length≤id→ν id=none) →
  (∀ id b l,H[id]?=some (some b)→b.own=true→ν id=some l→O l.aI)→CallsIn Fence.wide n P f ⟨as⟩ w (G1 K ν O w)
def iC (P:Program) (E:Env):Prop:=∀ f I,E.It f=some I→zN P f I
theorem iC.none {P:Program} {E:Env} (h:E.It=fun _=>none):iC P E:=fun f I hI=>by rw [h] at hI; cases hI
structure jX (P:Program) (E:Env):Prop extends EnvOk P E where
 IX:iC P E
 ys:∀ l G r,E.ys=(l,G)::r→QG P l G E.nu
theorem EnvOk.x {P:Program} {E:Env} (h:EnvOk P E) (hI:iC P E) (hy:E.ys=[]):jX P E:=⟨h,hI,fun l G r e=>by rw [hy] at e; cases e⟩
def qE {α:Type _}:List (Nat × α)→Nat→Option α
 | [],_=>none
 | c::l,g=>match Nat.beq c.1 g with
  | true=>some c.2
  | false=>qE l g
def vh {α:Type _} (Q:Nat→α→Prop):List (Nat × α)→Prop
 | []=>True
 | c::l=>Q c.1 c.2∧vh Q l
theorem wH {α:Type _} {Q:Nat→α→Prop}:∀ {l:List (Nat × α)} {g:Nat} {S:α},vh Q l→qE l g=some S→Q g S
 | c::l,g,S,hq,h=>by
  unfold qE at h
  split at h
  ·rename_i e; cases h; rw [← Nat.eq_of_beq_eq_true e]; exact hq.1
  ·exact wH hq.2 h
theorem Bt {E:Env} (hE:EnvOk P E) {op:Op} (h:ld E op tmps H aK k):eX P op tmps H aK k:=by
 cases op
 case move=>exact ZW h
 case assign=>exact Vv h
 case pick=>exact ZX h
 case alloc=>exact W6 hE.ty h
 case box=>exact acb hE.ty h
 case build=>exact Xb hE.ty h
 case load=>exact ZY hE.ty h
 case fieldAddr=>exact Su hE.ty h
 case field=>exact W7 hE.ty h
 case indexAddr=>exact Sv hE.ty h
 case index=>exact Xa hE.ty h
 case extract=>exact Up h
 case makeFunc=>exact SY h
 case unOp=>exact adQ h
 case binOp=>exact ace hE.ty hE.eq h
 case convert=>exact Uv hE.ty h
 case buildSlice=>exact R8 hE.ty h
 case makeSlice=>exact Sx hE.ty h
 case slice=>exact W9 hE.ty h
 case call c =>
  unfold ld at h
  dsimp only at h
  split at h
  ·rename_i f hc;exact Z0 hc hE.fn h
  ·rename_i hc
   split at h
   ·rename_i x t hx ht;exact acf hE.ty hc (Array.ext' hx) (Array.ext' ht) h
   ·exact h.elim
  ·rename_i hc
   split at h
   ·rename_i x y hx;exact acg hc (Array.ext' hx) h
   ·exact h.elim
  ·rename_i hc
   split at h
   ·rename_i x t hx ht;exact ack hE.ty hc (Array.ext' hx) (Array.ext' ht) h
   ·exact h.elim
  ·rename_i hc
   split at h
   ·rename_i x y t u hx ht;exact S4 hE.ty hc (Array.ext' hx) (Array.ext' ht) h
   ·exact h.elim
  ·rename_i hc
   split at h
   ·rename_i x y hx;exact ach hc (Array.ext' hx) h
   ·exact h.elim
  ·exact h.elim
 all_goals exact h.elim
end
open Go Go.RowKit
abbrev SK:=List Value→ay→Prop
def Gt:List (List Value)→Nat→Nat→List Value→(List (List Value)→Prop)→Prop
 | [],_,_,_,_=>False
 | r::rs,0,c,vs,k=>vf r c vs fun r'=>k (r'::rs)
 | r::rs,n+1,c,vs,k=>Gt rs n c vs fun cg=>k (r::cg)
theorem Kr:∀ {rs:List (List Value)} {n c:Nat} {vs:List Value} {k:List (List Value)→Prop},Gt rs n c vs k →
  ∃ r r',rs[n]?=some r∧(r'.length=r.length∧c+vs.length≤r.length∧(∀ (j:Nat) v,vs[j]?=some v→r'[c+j]?=some v)∧∀ (j:Nat),(j < c∨c+vs.length≤j)→r'[j]?=r[j]?)∧k (rs.set n r')
 | [],_,_,_,_,h=>h.elim
 | r::rs,0,c,vs,k,h=>by
  obtain ⟨l',h0,h1⟩:=yx h;exact ⟨r,l',rfl,h1,by simpa using h0⟩
 | r::rs,n+1,c,vs,k,h=>by
  obtain ⟨q,q',h1,J,h3⟩:=Kr (rs:=rs) h;exact ⟨q,q',by simpa using h1,J,by simpa using h3⟩
def jM:List Value→Bool
 | []=>true
 | v::l=>cH v && jM l
theorem yi:∀ {l:List Value},jM l=true→∀ v∈l,cH v=true
 | [],_,v,hv=>by simp at hv
 | v::l,h,u,hu=>by
  simp only [jM,Bool.and_eq_true] at h;rcases List.mem_cons.1 hu with e | e
  ·rw [e]; exact h.1
  ·exact yi h.2 u e
def MW (b:ai) (row cf:Nat) (cs:List Value) (k:ai→Prop):Prop :=
 match b with
 | .aS true ae rows=>Gt rows row cf cs fun jf=>k (.aS true ae jf)
 | .flat true n ae get=>row < n∧match jM cs with
  | true=>vf (get row) cf cs fun r'=>k (.flat true n ae fun j=>if j=row then r' else get j)
  | false=>False
 | _=>False
def Cz (E:Env) (tmps:List Value) (H:ay) (t:TypeId) (x y:Operand) (k:SK):Prop :=
 bZ tmps x fun av=>match av with
  | .pointer (some ⟨id,row,sp⟩)=>bZ tmps y fun v=>xe v fun cs=>cK E.tt t fun ti=>match p6 cs ti.size with
   | true=>gR H id fun b=>MW b row (sp.getD 0) cs fun b'=>jy H id (some b') fun H'=>k tmps H'
   | false=>False
  | _=>False
def dr (tmps:List Value) (d:Option Tmp) (v:Value) (k:List Value→Prop):Prop :=
 match d with
 | none=>k tmps
 | some d=>xH tmps d v k
def vi (H:ay) (nb:Option ai) (k:ay→Prop):Prop :=
 match nb with
 | none=>k H
 | some b=>o5 H (some b) k
structure Fr where
 W:World
 O:Nat→Prop
 ν:Nu
 n0:Nat
 fresh:∀ id,n0≤id→ν id=none
structure lf (F:Fr) (E:Env):Prop where
 n0:F.n0≤E.base
 nu:E.nu.le F.ν
def Marks (n:Nat) (ds:List Deferred) (w:World):Prop :=
 ds.Nodup∧∀ d∈ds,∃ D,d={ target:=.collected D,args:=#[] }∧n≤D∧w.heap[D]?=some (.deferred (some []))
theorem Marks.nil (n:Nat) (w:World):Marks n [] w:=⟨.nil,fun d hd=>by cases hd⟩
theorem Bu {n:Nat} {ds:List Deferred} {w w':World} (h:Marks n ds w) (hk:∀ D:Nat,w.heap[D]?=some (Obj.deferred (some []))→w'.heap[D]?=some (Obj.deferred (some []))):Marks n ds w' :=
 ⟨h.1,fun d hd=>let ⟨D,h1,J,h3⟩:=h.2 d hd; ⟨D,h1,J,hk D h3⟩⟩
theorem Marks.below {n:Nat} {ds:List Deferred} {w w':World} (h:Marks n ds w) (hb:Below w.heap.size w w'):Marks n ds w' :=
 Bu h fun D hD=>(hb.block D (Array.getElem?_eq_some_iff.1 hD).1).trans hD
theorem Marks.eh {n:Nat} {ds:List Deferred} {w w':World} (h:Marks n ds w) {b:Nat} {cur:Array Value} {t:TypeId} {z:Nat × Nat} (hb:w.heap[b]?=some (Obj.cells cur t z)) (hk:∀ q:Nat,q≠b→w'.heap[q]?=w.heap[q]?):Marks n ds w' :=
 Bu h fun D hD=>(hk D (fun e=>by rw [e,hb] at hD; cases hD)).trans hD
structure bz (F:Fr) (ν:Nu) (tmps:List Value) (H:ay) (a:Act) (w:World):Prop where
 tm:bg ν tmps a.tmps.toList
 df:Marks F.W.heap.size a.defers w
 hp:bS ν H w
 fr:∀ id,H.length≤id→ν id=none
 kp:Kept F.O F.W w
 own:∀ id b l,H[id]?=some (some b)→b.own=true→ν id=some l→F.O l.aI∨F.W.heap.size≤l.aI
 mono:F.ν.le ν
section
variable {P:Program} {E:Env} {r:Option Nat} {n:Nat} {F:Fr}
theorem bz.mA {ν:Nu} {tmps:List Value} {H:ay} {a:Act} {w:World} (h:bz F ν tmps H a w) (x:Operand):fk ν tmps a x:=by
 intro t ht v hv;obtain ⟨v',h1,J⟩:=h.tm.get hv;exact ⟨v',by simpa using h1,J⟩
theorem rT (a:Act) (d:Tmp) (v:Value):(a.put (some d) v).tmps.toList=a.tmps.toList.set d v:=by simp [Act.put]
theorem bz.dst {ν:Nu} {tmps:List Value} {H:ay} {a:Act} {w:World} (h:bz F ν tmps H a w) {d:Option Tmp} {v v':Value} (hv:ar ν v v') {k:List Value→Prop} (hk:dr tmps d v k) :
  ∃ t',k t'∧bz F ν t' H (a.put d v') w:=by
 cases d with
 | none=>exact ⟨tmps,hk,h⟩
 | some d =>
  obtain ⟨h1,J⟩:=oN hk;exact ⟨_,J,⟨by rw [rT]; exact h.tm.set hv d,h.df,h.hp,h.fr,h.kp,h.own,h.mono⟩⟩
theorem bz.quiet {ν aj:Nu} {tmps:List Value} {H:ay} {a:Act} {w w':World} (h:bz F ν tmps H a w) {v v':Value} {nb:Option ai} (hq:nc ν aj H.length w w' v v' nb)
  {k:ay→Prop} (hk:vi H nb k):∃ H',k H'∧bz F aj tmps H' a w':=by
 have hb:=hq.below;cases nb with
 | none =>
  have:=hq.z6 rfl;subst this;exact ⟨H,hk,⟨h.tm,h.df.below hb,h.hp.below hb,h.fr,h.kp.below hb,h.own,h.mono⟩⟩
 | some b =>
  obtain ⟨l,hl,hB,hle⟩:=hq.ig b rfl;refine ⟨_,yp hk,⟨h.tm.mono hq.le,h.df.below hb,?_,fun id bo=>?_,h.kp.below hb,fun id c lc hc ho dI=>?_,Nu.le_trans h.mono hq.le⟩⟩
  ·have kW:aj=ν.add H.length l:=by
    funext id
    by_cases e:id=H.length
    ·subst e; rw [hl,Nu.add_same]
    ·rw [hq.only id e,Nu.jb e]
   subst kW;refine h.hp.push hb (h.fr _ (Nat.le_refl _)) _ (fun j c hj=>?_) hle hB
   rw [List.getElem?_append] at hj
   split at hj
   ·rename_i al; exact .inr ⟨by omega,hj⟩
   ·rename_i eH;have:j - H.length=0:=by
     have:=(List.getElem?_eq_some_iff.1 hj).1;simp at this; omega
    rw [this] at hj;simp at hj;exact .inl ⟨by omega,hj.symm⟩
  ·rw [List.length_append,List.length_singleton] at bo;rw [hq.only id (by omega)]
   exact h.fr id (by omega)
  ·rw [List.getElem?_append] at hc
   split at hc
   ·rename_i al;have aJ:id≠H.length:=by omega
    rw [hq.only id aJ] at dI;exact h.own id c lc hc ho dI
   ·rename_i eH;have:id - H.length=0:=by
     have:=(List.getElem?_eq_some_iff.1 hc).1;simp at this; omega
    have:id=H.length:=by omega
    subst this;rw [hl] at dI; cases dI;exact .inr (Nat.le_trans h.kp.size hle)
structure xX (b b':ai) (row cf:Nat) (cs:List Value):Prop where
 own:b.n5=true
 PR:b'.n5=true
 n:b'.n=b.n
 ae:b'.ae=b.ae
 flat:b'.jc=b.jc
 lt:row < b.n
 len:(b'.row row).length=(b.row row).length
 fit:cf+cs.length≤(b.row row).length
 DK:∀ j v,cs[j]?=some v→(b'.row row)[cf+j]?=some v
 out:∀ j,(j < cf∨cf+cs.length≤j)→(b'.row row)[j]?=(b.row row)[j]?
 DL:∀ q,q≠row→b'.row q=b.row q
 pl:b.jc=true→∀ v∈cs,cH v=true
theorem RY {b:ai} {row cf:Nat} {cs:List Value} {k:ai→Prop} (h:MW b row cf cs k):∃ b',xX b b' row cf cs∧k b':=by
 cases b with
 | aS o ae rows =>
  cases o with
  | false=>exact h.elim
  | true =>
   obtain ⟨q,l',h1,⟨k1,k2,k3,k4⟩,h3⟩:=Kr h;have al:row < rows.length:=(List.getElem?_eq_some_iff.1 h1).1;have e1:(ai.aS true ae (rows.set row l')).row row=l':=by simp [ai.row,List.getD,al]
   have e2:(ai.aS true ae rows).row row=q:=by simp [ai.row,List.getD,h1]
   refine ⟨.aS true ae (rows.set row l'),⟨rfl,rfl,by simp [ai.n],rfl,rfl,al,by rw [e1,e2]; exact k1,by rw [e2]; exact k2,by rw [e1]; exact k3,by rw [e1,e2]; exact k4,fun p hp=>?_,fun h=>by simp [ai.jc] at h⟩,h3⟩
   simp [ai.row,List.getD,List.getElem?_set,Ne.symm hp]
 | flat o n ae get =>
  cases o with
  | false=>exact h.elim
  | true =>
   obtain ⟨al,h⟩:=h
   split at h
   ·rename_i hs;obtain ⟨l',h0,k1,k2,k3,k4⟩:=yx h;have e1:(ai.flat true n ae fun j=>if j=row then l' else get j).row row=l':=by simp [ai.row]
    exact ⟨.flat true n ae fun j=>if j=row then l' else get j,⟨rfl,rfl,rfl,rfl,rfl,al,by rw [e1]; exact k1,k2,by rw [e1]; exact k3,by rw [e1]; exact k4,fun p hp=>by simp [ai.row,hp],fun _=>yi hs⟩,h0⟩
   ·exact h.elim
 | cj r=>exact h.elim
theorem xX.o {b b':ai} {row cf:Nat} {cs:List Value} (h:xX b b' row cf cs):b.own=true:=(ai.cY h.own).1
theorem xX.o' {b b':ai} {row cf:Nat} {cs:List Value} (h:xX b b' row cf cs):b'.own=true:=(ai.cY h.PR).1
theorem oJ (b:Nat):∀ (vs:List Value) (o:Nat) (w:World),(w.setCells b o vs).heap.size=w.heap.size
 | [],_,_=>rfl
 | v::r,o,w=>by rw [World.setCells,oJ b r]; simp [World.setCell]
theorem rK (b:Nat):∀ (vs:List Value) (o:Nat) (w:World) (k:Nat),k≠b→(w.setCells b o vs).heap[k]?=w.heap[k]?
 | [],_,_,_,_=>rfl
 | v::r,o,w,k,hk=>by rw [World.setCells,rK b r _ _ k hk]; exact Below.heap_setCell _ _ _ _ hk
theorem AZ (b:Nat):∀ (vs:List Value) (o:Nat) (w:World) (cur:Array Value) (t:TypeId),w.heap[b]?=some (.cells cur t (0,0)) →
  ∃ ph,(w.setCells b o vs).heap[b]?=some (.cells ph t (0,0))∧ph.size=cur.size
 | [],_,w,cur,t,h=>⟨cur,h,rfl⟩
 | v::r,o,w,cur,t,h=>by
  rw [World.setCells];have h1:(w.setCell ⟨b,o,none⟩ v).heap[b]?=some (.cells (cur.setIfInBounds o v) t (0,0)):=by
   simp [World.setCell,Array.getElem?_modify,h]
  obtain ⟨ph,J,h3⟩:=AZ b r (o+1) _ _ t h1;exact ⟨ph,J,by rw [h3]; simp⟩
theorem wa (b:Nat):∀ (vs:List Value) (o:Nat) (w:World),(w.setCells b o vs).os=w.os∧(w.setCells b o vs).tape=w.tape∧(w.setCells b o vs).output=w.output
 | [],_,_=>⟨rfl,rfl,rfl⟩
 | v::r,o,w=>by rw [World.setCells]; exact wa b r _ _
theorem bS.store {ν:Nu} {H:ay} {w:World} (h:bS ν H w) {id:Nat} {b b':ai} {l:Loc} (hb:H[id]?=some (some b)) (hl:ν id=some l) {row cf:Nat} {cs eO:List Value}
  (hu:xX b b' row cf cs) (hr:bg ν cs eO) (h1:∀ v∈cs,v.oneCell'=true) :
  bS ν (H.set id (some b')) (w.setCells l.aI (l.base+row*l.ae+cf) eO):=by
 obtain ⟨l',cE,hB⟩:=h.aI id b hb;rw [hl] at cE; cases cE;have bo:id < H.length:=(List.getElem?_eq_some_iff.1 hb).1;have kX:∀ j c,(H.set id (some b'))[j]?=some (some c)→(j=id∧c=b')∨(j≠id∧H[j]?=some (some c)):=by
  intro j c hj;by_cases e:j=id
  ·subst e; rw [List.getElem?_set_self bo] at hj; cases hj; exact .inl ⟨rfl,rfl⟩
  ·rw [List.getElem?_set_ne (Ne.symm e)] at hj; exact .inr ⟨e,hj⟩
 have H0:=hB.ae;have hlen:=hB.len row hu.lt;obtain ⟨cur,t,jY,gg,Pc⟩:=hB.own hu.o (ai.cY hu.own).2;have eY:eO.length=cs.length:=hr.1.symm
 -- the cells of other places
 have xK:∀ r j,r < b.n→j < b.ae→(r≠row∨j < cf∨cf+cs.length≤j)→(w.setCells l.aI (l.base+row*l.ae+cf) eO).cell? (l.at r j)=w.cell? (l.at r j):=by
  intro r j iS hj aJ;refine World.cell?_setCells_out l.aI _ _ _ _ (fun _ _=>?_)
  have xL:=hu.fit;rw [hlen] at xL;simp only [Loc.at,H0,eY];rcases Nat.lt_trichotomy r row with h | h | h
  ·left
   have:(r+1)*b.ae≤row*b.ae:=Nat.mul_le_mul_right _ h;rw [Nat.add_mul] at this;omega
  ·subst h;rcases aJ with aJ | aJ | aJ
   ·exact absurd rfl aJ
   ·left; omega
   ·right; omega
  ·right
   have:(row+1)*b.ae≤r*b.ae:=Nat.mul_le_mul_right _ h;rw [Nat.add_mul] at this;omega
 have pF:∀ j v,eO[j]?=some v→(w.setCells l.aI (l.base+row*l.ae+cf) eO).cell? (l.at row (cf+j))=some v:=by
  intro j v hv;have hj:j < eO.length:=(List.getElem?_eq_some_iff.1 hv).1;have xL:=hu.fit;have:=World.cell?_setCells_in l.aI eO (l.base+row*l.ae+cf) w (fun m hm=>by
   have IS:cf+m < (b.row row).length:=by omega
   obtain ⟨u,q7,_⟩:=hB.cell row hu.lt (cf+m) _ (List.getElem?_eq_getElem IS);simp only [Loc.at] at q7;rw [show l.base+row*l.ae+cf+m=l.base+row*l.ae+(cf+m) by omega,q7]; rfl) j hj
  simp only [Loc.at];rw [show l.base+row*l.ae+(cf+j)=l.base+row*l.ae+cf+j by omega,this]
  rw [← hv];simp
 refine ⟨fun j c hj=>?_,fun i j bi bj li lj hi hj aJ ho e1 e2=>?_⟩
 ·rcases kX j c hj with ⟨rfl,rfl⟩ | ⟨aJ,gx⟩
  ·refine ⟨l,hl,⟨by rw [hu.ae]; exact hB.ae,fun q hq=>?_,fun q hq j v hv=>?_,fun hf q hq v hv=>?_,fun q hq v hv=>?_,fun _ _=>?_,(fun r h=>by rw [(ai.cY hu.PR).2] at h; cases h),?_⟩⟩
   ·rw [hu.n] at hq;by_cases e:q=row
    ·subst e; rw [hu.len,hu.ae]; exact hlen
    ·rw [hu.DL q e,hu.ae]; exact hB.len q hq
   ·rw [hu.n] at hq;by_cases e:q=row
    ·subst e;by_cases hj:cf≤j∧j < cf+cs.length
     ·have DM:j - cf < cs.length:=by omega
      have:=hu.DK (j - cf) _ (List.getElem?_eq_getElem DM);rw [show cf+(j - cf)=j by omega,hv] at this
      cases this;obtain ⟨v',J,h3⟩:=hr.get (List.getElem?_eq_getElem DM);have:=pF (j - cf) v' J;rw [show cf+(j - cf)=j by omega] at this
      exact ⟨v',this,h3⟩
     ·have om:=hu.out j (by omega)
      rw [om] at hv;obtain ⟨v',J,h3⟩:=hB.cell q hq j v hv;have gx:j < b.ae:=by rw [← hlen]; exact (List.getElem?_eq_some_iff.1 hv).1
      exact ⟨v',by rw [xK q j hq gx (.inr (by omega))]; exact J,h3⟩
    ·rw [hu.DL q e] at hv;obtain ⟨v',J,h3⟩:=hB.cell q hq j v hv;have gx:j < b.ae:=by rw [← hB.len q hq]; exact (List.getElem?_eq_some_iff.1 hv).1
     exact ⟨v',by rw [xK q j hq gx (.inl e)]; exact J,h3⟩
   ·rw [hu.n] at hq; rw [hu.flat] at hf;by_cases e:q=row
    ·subst e;obtain ⟨j,hj,rfl⟩:=List.getElem_of_mem hv;by_cases DM:cf≤j∧j < cf+cs.length
     ·have:=hu.DK (j - cf) _ (List.getElem?_eq_getElem (by omega:j - cf < cs.length))
      rw [show cf+(j - cf)=j by omega,List.getElem?_eq_getElem hj] at this
      injection this with this
      rw [this];exact hu.pl hf _ (List.getElem_mem _)
     ·have:=hu.out j (by omega)
      rw [List.getElem?_eq_getElem hj] at this;exact hB.plain hf q hq _ (List.mem_of_getElem? this.symm)
    ·rw [hu.DL q e] at hv; exact hB.plain hf q hq v hv
   ·rw [hu.n] at hq;by_cases e:q=row
    ·subst e;obtain ⟨j,hj,rfl⟩:=List.getElem_of_mem hv;by_cases DM:cf≤j∧j < cf+cs.length
     ·have:=hu.DK (j - cf) _ (List.getElem?_eq_getElem (by omega:j - cf < cs.length))
      rw [show cf+(j - cf)=j by omega,List.getElem?_eq_getElem hj] at this
      injection this with this
      rw [this];exact h1 _ (List.getElem_mem _)
     ·have:=hu.out j (by omega)
      rw [List.getElem?_eq_getElem hj] at this;exact hB.one q hq _ (List.mem_of_getElem? this.symm)
    ·rw [hu.DL q e] at hv; exact hB.one q hq v hv
   ·obtain ⟨ph,J,h3⟩:=AZ l.aI eO (l.base+row*l.ae+cf) w cur t jY;exact ⟨ph,t,J,by rw [h3]; exact gg,by rw [hu.n]; exact Pc⟩
   ·rw [oJ]; exact hB.live
  ·obtain ⟨lj,c5,q8⟩:=h.aI j c gx;have H8:=h.sep id j b c l lj hb gx (Ne.symm aJ) hu.o hl c5;exact ⟨lj,c5,q8.same (rK _ _ _ _ _ (Ne.symm H8)) (by rw [oJ]; exact Nat.le_refl _)⟩
 ·rcases kX i bi hi with ⟨rfl,rfl⟩ | ⟨hni,aR⟩ <;> rcases kX j bj hj with ⟨rfl,rfl⟩ | ⟨hnj,gx⟩
  ·exact absurd rfl aJ
  ·exact h.sep _ j b bj li lj hb gx aJ hu.o e1 e2
  ·exact h.sep i _ bi b li lj aR hb aJ ho e1 e2
  ·exact h.sep i j bi bj li lj aR gx aJ ho e1 e2
theorem Le (hE:EnvOk P E) {o:Oper} {t:TypeId} {x y:Operand} (ho:o.op=.store t x y) {ν:Nu} {tmps ts:List Value} {H:ay} {a b:Act} {w:World} (hi:bz F ν ts H b w) {k:SK}
  (hx:fk ν tmps a x) (hy:fk ν tmps a y) (h:Cz E tmps H t x y k):∃ w' H',(execOp a.eval o).run P w=.ok .skip w'∧bz F ν ts H' b w'∧k tmps H':=by
 obtain ⟨av,J,hv⟩:=kN h hx;clear h
 split at J
 ·rename_i id row sp;obtain ⟨v,h,hvv⟩:=kN J hy;clear J;have J:=A7 h;clear h;obtain ⟨ti,ht,h⟩:=cP J;clear J
  split at h
  ·rename_i bf;obtain ⟨hlen,qP⟩:=yh bf;obtain ⟨bl,hb,J⟩:=gK h;clear h;obtain ⟨b',hu,h⟩:=RY J;clear J;obtain ⟨al,J⟩:=ml h;clear h;obtain ⟨l,hl,he⟩:=hv.oV;obtain ⟨l',cE,hB⟩:=hi.hp.aI id bl hb;rw [hl] at cE; cases cE;have hc:=hvv.cells;obtain ⟨cur,tt',jY,gg,Pc⟩:=hB.own hu.o (ai.cY hu.own).2;obtain ⟨i,iQ,gJ,_⟩:=(hE.ty _ _ ht).info;have acm:∀ u∈(a.eval y).cells.toList,u.oneCell'=true:=by
    intro u s9;obtain ⟨j,hj,rfl⟩:=List.getElem_of_mem s9;have gx:j < v.cells.toList.length:=by rw [hc.1]; exact hj
    have:=hc.2 j _ _ (List.getElem?_eq_getElem gx) (List.getElem?_eq_getElem hj);rw [this.B6]; exact qP _ (List.getElem_mem _)
   have aw:(storeCells (l.at row (sp.getD 0)) (a.eval y).cells.toList).run P w=.ok () (w.setCells l.aI (l.base+row*l.ae+sp.getD 0) (a.eval y).cells.toList):=by
    have:=run_storeCells_cells (P:=P) l.aI (l.base+row*l.ae+sp.getD 0) (a.eval y).cells.toList 0 w (fun j hj=>by
     have xL:=hu.fit;rw [hc.1] at xL;obtain ⟨u,q7,_⟩:=hB.cell row hu.lt (sp.getD 0+j) _ (List.getElem?_eq_getElem (by omega))
     simp only [Loc.at] at q7;rw [show l.base+row*l.ae+sp.getD 0+0+j=l.base+row*l.ae+(sp.getD 0+j) by omega,q7]; rfl) (fun j hj=>by
     simp [World.frozen?,jY]) acm
    simpa [Loc.at] using this
   have bm:(a.eval y).cells.size=i.size:=by rw [gJ,← hlen,hc.1]; simp
   have bE:(execOp a.eval o).run P w=.ok .skip (w.setCells l.aI (l.base+row*l.ae+sp.getD 0) (a.eval y).cells.toList):=by
    simp [execOp,ho,Instr.storeAt,he,Instr.sureAddr,storeVar,gC iQ,bm,aw]
   have aR:bz F ν ts (H.set id (some b')) b (w.setCells l.aI (l.base+row*l.ae+sp.getD 0) (a.eval y).cells.toList):=by
    obtain ⟨o1,o2,o3⟩:=wa l.aI (a.eval y).cells.toList (l.base+row*l.ae+sp.getD 0) w;refine ⟨hi.tm,hi.df.eh jY (fun q hq=>rK _ _ _ _ _ hq),hi.hp.store hb hl hu hc qP,fun j hj=>hi.fr j (by simpa using hj),⟨o1.trans hi.kp.os,o2.trans hi.kp.tape,o3.trans hi.kp.output,by rw [oJ]; exact hi.kp.size,fun q h1 J=>?_⟩,fun j c lc hj oo dI=>?_,hi.mono⟩
    ·rw [rK]
     ·exact hi.kp.aI q h1 J
     ·intro e;subst e;rcases hi.own id bl l hb hu.o hl with h | h
      ·exact J h
      ·omega
    ·by_cases e:j=id
     ·subst e;rw [hl] at dI; cases dI;exact hi.own j bl l hb hu.o hl
     ·rw [List.getElem?_set_ne (Ne.symm e)] at hj;exact hi.own j c lc hj oo dI
   exact ⟨_,_,bE,aR,J⟩
  ·exact h.elim
 ·exact J.elim
theorem Sz (hE:EnvOk P E) {o:Oper} {t:TypeId} {x y:Operand} (ho:o.op=.store t x y) {ν:Nu} {tmps:List Value} {H:ay} {a:Act} {w:World} (hi:bz F ν tmps H a w) {k:SK}
  (h:Cz E tmps H t x y fun t' H'=>dr t' o.dst undef fun vB=>k vB H') {next:Act→World→Prop} {Q:Exit→Act→World→Prop}
  (hk:∀ ν t' H' a' w',bz F ν t' H' a' w'→k t' H'→next a' w'):o.wpIn (WF r) n P a w next Q:=by
 obtain ⟨w',H',bE,aR,J⟩:=Le hE ho hi (hi.mA x) (hi.mA y) h;obtain ⟨t',IY,adT⟩:=aR.dst (.undef ν) J;refine ⟨fun _ _=>trivial,?_⟩
 rw [Oper.semAt_eq _ _ _ (by simp [ho]),bE]
 exact hk _ _ _ _ _ adT IY
end
open Go Go.RowKit
def o6 (id:Nat):Nat→Value→Bool
 | 0,_=>true
 | k+1,v=>match v with
  | .bool _ | .int _ _ | .string _ | .pointer none | .slice none _ _ | .nilFunc | .chan none=>false
  | .pointer (some ⟨j,_,_⟩)=>Nat.beq j id
  | .slice (some ⟨j,_,_⟩) _ _=>Nat.beq j id
  | .func _ ⟨l⟩ ⟨m⟩=>l.foldr (fun v acc=>o6 id k v || acc) false || m.foldr (fun v acc=>o6 id k v || acc) false
  | .agg ⟨l⟩=>l.foldr (fun v acc=>o6 id k v || acc) false
  | .tuple ⟨l⟩=>l.foldr (fun v acc=>o6 id k v || acc) false
  | _=>true
def sC (id k:Nat) (l:List Value):Bool:=l.foldr (fun v acc=>o6 id k v || acc) false
theorem wg {id k:Nat}:∀ {l:List Value},sC id k l=false→∀ v∈l,o6 id k v=false
 | [],_,v,hv=>by simp at hv
 | x::l,h,v,hv=>by
  simp only [sC,List.foldr_cons,Bool.or_eq_false_iff] at h;rcases List.mem_cons.1 hv with e | e
  ·rw [e]; exact h.1
  ·exact wg (l:=l) h.2 v e
def Nu.off (ν aj:Nu) (id:Nat):Prop:=∀ j,j≠id→aj j=ν j
theorem bg.map {ν aj:Nu} {xs ys:List Value} (h:bg ν xs ys) (hm:∀ v∈xs,∀ r,ar ν v r→ar aj v r):bg aj xs ys :=
 ⟨h.1,fun i x y hx hy=>hm x (List.mem_of_getElem? hx) y (h.2 i x y hx hy)⟩
theorem EN {id:Nat} {ν aj:Nu} (g8:ν.off aj id):∀ (k:Nat) (v r:Value),o6 id k v=false→ar ν v r→ar aj v r:=by
 intro k
 induction k with
 | zero=>intro v r h; simp [o6] at h
 | succ k ih =>
  intro v r h hr;cases hr with
  | bool b=>exact .bool b
  | int q n=>exact .int q n
  | str s=>exact .str s
  | mE=>exact .mE
  | ptr j row sp l hl=>exact .ptr j row sp l (by rw [g8 j (Nat.ne_of_beq_eq_false h)]; exact hl)
  | iP=>exact .iP
  | slice j row n c c' l hl hc hn hr=>exact .slice j row n c c' l (by rw [g8 j (Nat.ne_of_beq_eq_false h)]; exact hl) hc hn hr
  | void j row c a hc=>exact .void j row c a hc
  | lY j row m n c' l hl hm hn hr=>exact .lY j row m n c' l (by rw [g8 j (Nat.ne_of_beq_eq_false h)]; exact hl) hm hn hr
  | kV j row a=>exact .kV j row a
  | mF=>exact .mF
  | func fn xs ys nv dg h1 J h3 h4 =>
   have h:(sC id k xs || sC id k nv)=false:=h;rw [Bool.or_eq_false_iff] at h;have a1:=bg.map (aj:=aj) ⟨h1,J⟩ (fun v hv r hr=>ih v r (wg h.1 v hv) hr)
   have a2:=bg.map (aj:=aj) ⟨h3,h4⟩ (fun v hv r hr=>ih v r (wg h.2 v hv) hr)
   exact .func fn _ _ _ _ a1.1 a1.2 a2.1 a2.2
  | agg xs ys h1 J =>
   have h:sC id k xs=false:=h;have a1:=bg.map (aj:=aj) ⟨h1,J⟩ (fun v hv r hr=>ih v r (wg h v hv) hr)
   exact .agg _ _ a1.1 a1.2
  | tuple xs ys h1 J =>
   have h:sC id k xs=false:=h;have a1:=bg.map (aj:=aj) ⟨h1,J⟩ (fun v hv r hr=>ih v r (wg h v hv) hr)
   exact .tuple _ _ a1.1 a1.2
  | dead=>exact .dead _ (by assumption)
def qF (id:Nat):Nat→Value→Option Value
 | 0,_=>none
 | k+1,v=>match o6 id 3 v with
  | false=>some v
  | true=>match v.oneCell' with
   | true=>some (.chan none)
   | false=>match v with
    | .agg ⟨l⟩=>match l.foldr (fun v acc=>match qF id k v,acc with | some x,some xs=>some (x::xs) | _,_=>none) (some []) with | some l'=>some (.agg ⟨l'⟩) | none=>none
    | .tuple ⟨l⟩=>match l.foldr (fun v acc=>match qF id k v,acc with | some x,some xs=>some (x::xs) | _,_=>none) (some []) with | some l'=>some (.tuple ⟨l'⟩) | none=>none
    | _=>none
def zo (id k:Nat) (l:List Value):Option (List Value):=l.foldr (fun v acc=>match qF id k v,acc with | some x,some xs=>some (x::xs) | _,_=>none) (some [])
theorem S5 {id m:Nat} {x:Value} {xs l:List Value} (h:zo id m (x::xs)=some l):∃ y ys,l=y::ys∧qF id m x=some y∧zo id m xs=some ys:=by
 unfold zo at h;rw [List.foldr_cons] at h
 split at h
 ·rename_i y ys h1 J;exact ⟨y,ys,(Option.some.inj h).symm,h1,J⟩
 ·cases h
theorem Fp {id m:Nat} {ν aj:Nu} (h:∀ v v2 r,qF id m v=some v2→ar ν v r→ar aj v2 r):∀ {xs l rs:List Value},zo id m xs=some l→bg ν xs rs→bg aj l rs
 | [],l,rs,h1,J=>by
  have:l=[]:=by simp [zo] at h1; exact h1
  rw [this,J.ja]; exact .nil _
 | x::xs,l,rs,h1,J=>by
  obtain ⟨y,ys,rfl,e1,e2⟩:=S5 h1;obtain ⟨r,cg,rfl,k1,k2⟩:=J.js;exact .cons (h _ _ _ e1 k1) (Fp h e2 k2)
theorem Uw {id:Nat} {ν aj:Nu} (g8:ν.off aj id):∀ (m:Nat) (v v2 r:Value),qF id m v=some v2→ar ν v r→ar aj v2 r:=by
 intro m
 induction m with
 | zero=>intro v v2 r h; simp [qF] at h
 | succ m ih =>
  intro v v2 r h hr;unfold qF at h
  split at h
  ·rename_i hm;cases h;exact EN g8 3 v r hm hr
  ·split at h
   ·rename_i h1;cases h;exact .dead _ (by rw [hr.B6]; exact h1)
   ·split at h
    ·split at h
     ·rename_i l l' e;cases h;obtain ⟨ys,rfl,hy⟩:=hr.uE;have:=Fp (ih) e hy;exact .agg _ _ this.1 this.2
     ·cases h
    ·split at h
     ·rename_i l l' e;cases h;obtain ⟨ys,rfl,hy⟩:=hr.nN;have:=Fp (ih) e hy;exact .tuple _ _ this.1 this.2
     ·cases h
    ·cases h
def zO {α:Type} (o:Option α) (k:α→Prop):Prop:=match o with | some a=>k a | none=>False
theorem Fq {α:Type} {o:Option α} {k:α→Prop} (h:zO o k):∃ a,o=some a∧k a:=by
 unfold zO at h; split at h
 ·exact ⟨_,rfl,h⟩
 ·exact h.elim
theorem EO {P:Value→Value→Prop}:∀ {ys:List Value},(∀ y∈ys,∃ x,P x y)→∃ xs:List Value,xs.length=ys.length∧∀ (i:Nat) x y,xs[i]?=some x→ys[i]?=some y→P x y
 | [],_=>⟨[],rfl,fun i x y hx=>by simp at hx⟩
 | y::ys,h=>by
  obtain ⟨x,hx⟩:=h y (by simp)
  obtain ⟨xs,h1,J⟩:=EO (ys:=ys) (fun z hz=>h z (by simp [hz]))
  refine ⟨x::xs,by simp [h1],fun i a b ha hb=>?_⟩
  cases i with
  | zero=>simp at ha hb; subst ha; subst hb; exact hx
  | succ i=>exact J i a b (by simpa using ha) (by simpa using hb)
theorem ar.any {ν:Nu} {v r:Value} (h:ar ν v r):∃ x,∀ aj,ar aj x r:=by
 induction h with
 | agg xs ys h1 _ ih =>
  obtain ⟨zs,e1,e2⟩:=EO (P:=fun x y=>∀ aj,ar aj x y) (ys:=ys) (fun y hy=>by
   obtain ⟨i,hi,rfl⟩:=List.getElem_of_mem hy;exact ih i _ _ (List.getElem?_eq_getElem (h1 ▸ hi)) (List.getElem?_eq_getElem hi))
  exact ⟨.agg ⟨zs⟩,fun aj=>.agg _ _ e1 (fun i x y hx hy=>e2 i x y hx hy aj)⟩
 | tuple xs ys h1 _ ih =>
  obtain ⟨zs,e1,e2⟩:=EO (P:=fun x y=>∀ aj,ar aj x y) (ys:=ys) (fun y hy=>by
   obtain ⟨i,hi,rfl⟩:=List.getElem_of_mem hy;exact ih i _ _ (List.getElem?_eq_getElem (h1 ▸ hi)) (List.getElem?_eq_getElem hi))
  exact ⟨.tuple ⟨zs⟩,fun aj=>.tuple _ _ e1 (fun i x y hx hy=>e2 i x y hx hy aj)⟩
 | dead w hw=>exact ⟨.chan none,fun aj=>.dead w hw⟩
 | _=>exact ⟨.chan none,fun aj=>.dead _ rfl⟩
def IZ (i:Nat):List Nat→Bool
 | []=>false
 | a::l=>match Nat.beq a i with
  | true=>true
  | false=>IZ i l
def uQ (a:Nat→Value) (id:Nat) (aa:List Nat):Nat→List Value→(List Value→Prop)→Prop
 | _,[],k=>k []
 | i,v::l,k=>match IZ i aa with
  | true=>zO (qF id 3 v) fun v'=>uQ a id aa (i+1) l fun l'=>k (v'::l')
  | false=>uQ a id aa (i+1) l fun l'=>k (a i::l')
theorem NK {ν:Nu} {t r:List Value} (h:bg ν t r):∃ a:Nat→Value,∀ (j:Nat) (y:Value),r[j]?=some y→∀ aj,ar aj (a j) y:=by
 have hx:∀ j:Nat,∃ x:Value,∀ y:Value,r[j]?=some y→∀ aj,ar aj x y:=by
  intro j;cases hj:r[j]? with
  | none=>exact ⟨undef,fun y hy=>by simp at hy⟩
  | some y =>
   have al:j < t.length:=by
    rw [h.1];exact (List.getElem?_eq_some_iff.1 hj).1
   obtain ⟨x,hx⟩:=(h.2 j t[j] y (List.getElem?_eq_getElem al) hj).any;exact ⟨x,fun y' hy=>by cases hy; exact hx⟩
 exact ⟨fun j=>Classical.choose (hx j),fun j y hy=>Classical.choose_spec (hx j) y hy⟩
theorem MX {a:Nat→Value} {i:Nat} {y:Value} {ys:List Value} (h:∀ (j:Nat) (z:Value),(y::ys)[j]?=some z→∀ aj:Nu,ar aj (a (i+j)) z) :
  (∀ aj:Nu,ar aj (a i) y)∧∀ (j:Nat) (z:Value),ys[j]?=some z→∀ aj:Nu,ar aj (a (i+1+j)) z:=by
 refine ⟨fun aj=>h 0 y rfl aj,fun j z hz aj=>?_⟩
 have:=h (j+1) z (by simpa using hz) aj
 rw [show i+1+j=i+(j+1) by omega]
 exact this
theorem E3 {a:Nat→Value} {id:Nat} {aa:List Nat}:∀ {t:List Value} {i:Nat} {k:List Value→Prop},uQ a id aa i t k→∀ (ν:Nu) r,bg ν t r→(∀ (j:Nat) (y:Value),r[j]?=some y→∀ aj:Nu,ar aj (a (i+j)) y)→∃ t',k t'∧∀ aj,ν.off aj id→bg aj t' r
 | [],i,k,h,ν,r,hr,ha=>⟨[],h,fun aj _=>by rw [hr.ja]; exact .nil _⟩
 | v::l,i,k,h,ν,r,hr,ha=>by
  obtain ⟨y,ys,rfl,h1,J⟩:=hr.js;obtain ⟨hx,ha⟩:=MX ha;unfold uQ at h
  split at h
  ·obtain ⟨v',e,h⟩:=Fq h;obtain ⟨l',h3,h4⟩:=E3 h ν ys J ha;exact ⟨_,h3,fun aj ho=>.cons (Uw ho 3 _ _ _ e h1) (h4 aj ho)⟩
  ·obtain ⟨l',h3,h4⟩:=E3 h ν ys J ha;exact ⟨_,h3,fun aj ho=>.cons (hx _) (h4 aj ho)⟩
def uR (id:Nat) (v:Value):Value:=match o6 id 3 v with | false=>v | true=>.chan none
def BK (id:Nat):List (List Value)→(List (List Value)→Prop)→Prop
 | [],k=>k []
 | r::l,k=>BK id l fun l'=>k (r.map (uR id)::l')
theorem Kl {id:Nat}:∀ {l:List (List Value)} {k:List (List Value)→Prop},BK id l k→k (l.map fun r=>r.map (uR id))
 | [],k,h=>h
 | r::l,k,h=>by have:=Kl (l:=l) h; simpa using this
def zt (id:Nat):List (List Value)→Bool
 | []=>false
 | r::l=>sC id 3 r || zt id l
theorem Lf {id:Nat}:∀ {l:List (List Value)},zt id l=false→∀ r∈l,sC id 3 r=false
 | [],_,v,hv=>by simp at hv
 | x::l,h,v,hv=>by
  simp only [zt,Bool.or_eq_false_iff] at h;rcases List.mem_cons.1 hv with e | e
  ·rw [e]; exact h.1
  ·exact Lf (l:=l) h.2 v e
def zu (id:Nat) (b:ai) (k:ai→Prop):Prop :=
 match b with
 | .flat o n e g=>k (.flat o n e g)
 | .aS o e rows=>match zt id rows with
  | false=>k (.aS o e rows)
  | true=>BK id rows fun jf=>k (.aS o e jf)
 | .cj r=>k (.cj r)
theorem Lg {id:Nat} {b:ai} {k:ai→Prop} (h:zu id b k):∃ b',k b'∧b'.own=b.own∧∀ (ν aj:Nu) (l:Loc) (w:World),ν.off aj id→bQ ν l b w→bQ aj l b' w:=by
 cases b with
 | flat o n e g =>
  exact ⟨_,h,rfl,fun ν aj l w ho hB=>⟨hB.ae,hB.len,fun r hr j v hv=>by
   obtain ⟨v',h1,J⟩:=hB.cell r hr j v hv;have:=hB.plain rfl r hr v (List.mem_of_getElem? hv);rw [J.kf this] at h1;exact ⟨v,h1,ar.ke this⟩,hB.plain,hB.one,hB.own,hB.lr,hB.live⟩⟩
 | cj r =>
  exact ⟨_,h,rfl,fun ν aj l w ho hB=>⟨hB.ae,fun r hr=>absurd hr (Nat.not_lt_zero r),fun r hr=>absurd hr (Nat.not_lt_zero r),(fun h=>nomatch h),fun r hr=>absurd hr (Nat.not_lt_zero r),fun _ h=>(nomatch h),hB.lr,hB.live⟩⟩
 | aS o e rows =>
  have h:(match zt id rows with
   | false=>k (.aS o e rows)
   | true=>BK id rows fun jf=>k (.aS o e jf)):=h
  split at h
  ·rename_i hm;exact ⟨_,h,rfl,fun ν aj l w ho hB=>⟨hB.ae,hB.len,fun r hr j v hv=>by
    obtain ⟨v',h1,J⟩:=hB.cell r hr j v hv;refine ⟨v',h1,EN ho 3 v v' ?_ J⟩;have iS:r < rows.length:=hr;simp only [ai.row,List.getD,List.getElem?_eq_getElem iS,Option.getD_some] at hv;exact wg (Lf hm _ (List.getElem_mem _)) v (List.mem_of_getElem? hv),hB.plain,hB.one,hB.own,hB.lr,hB.live⟩⟩
  ·rename_i hm;have h:=Kl h;have a8:∀ r,(ai.aS o e (rows.map fun r=>r.map (uR id))).row r=((ai.aS o e rows).row r).map (uR id):=by
    intro r;simp only [ai.row,List.getD,List.getElem?_map];cases rows[r]? <;> rfl
   have h1c:∀ v,v.oneCell'=true→(uR id v).oneCell'=true:=by
    intro v hv;unfold uR
    split
    ·exact hv
    ·rfl
   refine ⟨_,h,rfl,fun ν aj l w ho hB=>⟨hB.ae,fun r hr=>?_,fun r hr j v hv=>?_,fun h=>by simp [ai.jc] at h,fun r hr v hv=>?_,fun h _=>?_,(fun r h=>nomatch h),hB.live⟩⟩
   ·have hr:r < (ai.aS o e rows).n:=by simpa [ai.n] using hr
    rw [a8,List.length_map]; exact hB.len r hr
   ·have hr:r < (ai.aS o e rows).n:=by simpa [ai.n] using hr
    rw [a8,List.getElem?_map] at hv;cases hx:((ai.aS o e rows).row r)[j]? with
    | none=>rw [hx] at hv; cases hv
    | some x =>
     rw [hx] at hv;cases hv;obtain ⟨v',h1,J⟩:=hB.cell r hr j x hx;refine ⟨v',h1,?_⟩;unfold uR
     split
     ·rename_i ta; exact EN ho 3 x v' ta J
     ·exact .dead _ (by rw [J.B6]; exact hB.one r hr x (List.mem_of_getElem? hx))
   ·have hr:r < (ai.aS o e rows).n:=by simpa [ai.n] using hr
    rw [a8] at hv;obtain ⟨x,hx,rfl⟩:=List.mem_map.1 hv;exact h1c x (hB.one r hr x hx)
   ·obtain ⟨cur,t,q1,q2,q3⟩:=hB.own h rfl;exact ⟨cur,t,q1,q2,by simpa [ai.n] using q3⟩
def xq (id:Nat):ay→(ay→Prop)→Prop
 | [],k=>k []
 | none::H,k=>xq id H fun H'=>k (none::H')
 | some b::H,k=>zu id b fun b'=>xq id H fun H'=>k (some b'::H')
theorem E4 {id:Nat}:∀ {H:ay} {k:ay→Prop},xq id H k→∃ H',k H'∧H'.length=H.length∧∀ (j:Nat) (b':ai),H'[j]?=some (some b')→∃ b,H[j]?=some (some b)∧b'.own=b.own ∧
  ∀ (ν aj:Nu) (l:Loc) (w:World),ν.off aj id→bQ ν l b w→bQ aj l b' w
 | [],k,h=>⟨[],h,rfl,fun j b' hj=>by simp at hj⟩
 | none::H,k,h=>by
  obtain ⟨H',h1,J,h3⟩:=E4 (H:=H) h;refine ⟨_,h1,by simp [J],fun j b' hj=>?_⟩
  cases j with
  | zero=>simp at hj
  | succ j=>exact h3 j b' (by simpa using hj)
 | some b::H,k,h=>by
  obtain ⟨b1,h,hb⟩:=Lg h;obtain ⟨H',h1,J,h3⟩:=E4 (H:=H) h;refine ⟨_,h1,by simp [J],fun j b' hj=>?_⟩
  cases j with
  | zero=>simp at hj; subst hj; exact ⟨b,rfl,hb⟩
  | succ j=>exact h3 j b' (by simpa using hj)
open Go Go.RowKit
structure CR (ν:Nu) (ae:Nat) (g:Nat→List Value) (m:Nat) (L:List Value):Prop where
 len:L.length=m*ae
 row:∀ r,r < m→(g r).length=ae
 cell:∀ r,r < m→∀ (j:Nat) v,(g r)[j]?=some v→∃ v',L[r*ae+j]?=some v'∧ar ν v v'
 one:∀ u∈L,u.oneCell'=true
 sO:∀ r,r < m→∀ v∈g r,v.oneCell'=true
def iM (g:Nat→List Value) (n:Nat) (h:Nat→List Value):Nat→List Value:=fun j=>bif Nat.blt j n then g j else h (j - n)
theorem jo {g h:Nat→List Value} {n j:Nat} (hj:j < n):iM g n h j=g j:=by
 have:Nat.blt j n=true:=by rw [Nat.blt_eq]; exact hj
 simp [iM,this]
theorem gD {g h:Nat→List Value} {n j:Nat} (hj:n≤j):iM g n h j=h (j - n):=by
 have:Nat.blt j n=false:=by
  cases h:Nat.blt j n with
  | false=>rfl
  | true=>rw [Nat.blt_eq] at h; omega
 simp [iM,this]
theorem CR.append {ν:Nu} {ae n m:Nat} {g h:Nat→List Value} {L M:List Value} (a:CR ν ae g n L) (b:CR ν ae h m M):CR ν ae (iM g n h) (n+m) (L++M):=by
 refine ⟨by rw [List.length_append,a.len,b.len,Nat.add_mul],fun r hr=>?_,fun r hr j v hv=>?_,fun u hu=>?_,fun r hr v hv=>?_⟩
 ·by_cases h:r < n
  ·rw [jo h]; exact a.row r h
  ·rw [gD (by omega)]; exact b.row _ (by omega)
 ·by_cases h:r < n
  ·rw [jo h] at hv;obtain ⟨v',h1,J⟩:=a.cell r h j v hv;exact ⟨v',by rw [List.getElem?_append_left (List.getElem?_eq_some_iff.1 h1).1]; exact h1,J⟩
  ·rw [gD (by omega)] at hv
   obtain ⟨v',h1,J⟩:=b.cell (r - n) (by omega) j v hv
   refine ⟨v',?_,J⟩;have e:r*ae+j=L.length+((r - n)*ae+j):=by
    rw [a.len];have:r*ae=n*ae+(r - n)*ae:=by rw [← Nat.add_mul]; congr 1; omega
    omega
   rw [e,List.getElem?_append_right (by omega),Nat.add_sub_cancel_left]; exact h1
 ·rcases List.mem_append.1 hu with h | h
  ·exact a.one u h
  ·exact b.one u h
 ·by_cases h:r < n
  ·rw [jo h] at hv; exact a.sO r h v hv
  ·rw [gD (by omega)] at hv; exact b.sO _ (by omega) v hv
theorem CR.nil (ν:Nu) (ae:Nat) (g:Nat→List Value):CR ν ae g 0 [] :=
 ⟨by simp,fun r hr=>absurd hr (by omega),fun r hr=>absurd hr (by omega),fun u hu=>by simp at hu,fun r hr=>absurd hr (by omega)⟩
theorem CR.mono {ν aj:Nu} {ae m:Nat} {g:Nat→List Value} {L:List Value} (h:CR ν ae g m L) (hle:ν.le aj):CR aj ae g m L :=
 ⟨h.len,h.row,fun r hr j v hv=>let ⟨v',h1,J⟩:=h.cell r hr j v hv; ⟨v',h1,J.mono hle⟩,h.one,h.sO⟩
theorem CR.congr {ν:Nu} {ae m:Nat} {g g':Nat→List Value} {L:List Value} (h:CR ν ae g m L) (hg:∀ r,r < m→g' r=g r):CR ν ae g' m L :=
 ⟨h.len,fun r hr=>by rw [hg r hr]; exact h.row r hr,fun r hr j v hv=>h.cell r hr j v (by rw [← hg r hr]; exact hv),h.one,fun r hr v hv=>h.sO r hr v (by rw [← hg r hr]; exact hv)⟩
theorem CR.G3 {ν:Nu} {l:Loc} {b:ai} {w:World} (hB:bQ ν l b w) {row m:Nat} (hm:row+m≤b.n):∃ L,CR ν b.ae (fun j=>b.row (row+j)) m L∧∀ (j:Nat) u,L[j]?=some u→w.cell? ((l.at row 0).add j)=some u:=by
 have key:∀ q,q < m*b.ae→∃ r j v v',r < m∧j < b.ae∧q=r*b.ae+j∧(b.row (row+r))[j]?=some v∧w.cell? ((l.at row 0).add q)=some v'∧ar ν v v'∧v'.oneCell'=true:=by
  intro q hq;have he:0 < b.ae:=by
   rcases Nat.eq_zero_or_pos b.ae with h | h
   ·rw [h] at hq; omega
   ·exact h
  have hr:q / b.ae < m:=(Nat.div_lt_iff_lt_mul he).2 hq;have hj:q % b.ae < b.ae:=Nat.mod_lt _ he;have hlen:=hB.len (row+q / b.ae) (by omega)
  have hv:(b.row (row+q / b.ae))[q % b.ae]?=some _:=List.getElem?_eq_getElem (by omega)
  obtain ⟨v',h1,J⟩:=hB.cell (row+q / b.ae) (by omega) _ _ hv
  refine ⟨q / b.ae,q % b.ae,_,v',hr,hj,by rw [Nat.mul_comm,Nat.div_add_mod],hv,?_,J,by rw [J.B6]; exact hB.one _ (by omega) _ (List.getElem_mem _)⟩
  rw [Loc.jO,← h1];unfold Loc.at
  congr 2
  rw [hB.ae,Nat.add_mul];have:=Nat.div_add_mod q b.ae;rw [Nat.mul_comm] at this;omega
 let L:=(List.range (m*b.ae)).map fun q=>(w.cell? ((l.at row 0).add q)).getD undef
 have kX:∀ q,q < m*b.ae→L[q]?=some ((w.cell? ((l.at row 0).add q)).getD undef):=by
  intro q hq;simp only [L,List.getElem?_map,List.getElem?_range hq,Option.map_some]
 have hL:L.length=m*b.ae:=by simp [L]
 refine ⟨L,⟨hL,fun r hr=>hB.len _ (by omega),fun r hr j v hv=>?_,fun u hu=>?_,fun r hr v hv=>hB.one _ (by omega) v hv⟩,fun j u hu=>?_⟩
 ·have hj:j < b.ae:=by rw [← hB.len (row+r) (by omega)]; exact (List.getElem?_eq_some_iff.1 hv).1
  have hq:r*b.ae+j < m*b.ae:=by
   have:(r+1)*b.ae≤m*b.ae:=Nat.mul_le_mul_right _ hr;rw [Nat.add_mul] at this; omega
  obtain ⟨v',h1,J⟩:=hB.cell (row+r) (by omega) j v hv
  refine ⟨v',?_,J⟩;have e:(l.at row 0).add (r*b.ae+j)=l.at (row+r) j:=by
   rw [Loc.jO]; unfold Loc.at; congr 1; rw [hB.ae,Nat.add_mul]; omega
  rw [kX _ hq,e,h1]; rfl
 ·obtain ⟨q,hq,rfl⟩:=List.getElem_of_mem hu;rw [hL] at hq;obtain ⟨r,j,v,v',_,_,_,_,h1,_,J⟩:=key q hq;have:=kX q hq;rw [h1] at this;have e:=List.getElem?_eq_getElem (l:=L) (i:=q) (by omega)
  rw [this] at e;rw [← Option.some.inj e]; exact J
 ·have hj:j < m*b.ae:=by rw [← hL]; exact (List.getElem?_eq_some_iff.1 hu).1
  obtain ⟨r,q,v,v',_,_,_,_,h1,_,J⟩:=key j hj;rw [kX j hj,h1] at hu;rw [h1,← hu]; rfl
theorem Xc {ν:Nu} {ae N cap aI:Nat} {g:Nat→List Value} {L:List Value} {b':ai} (hC:CR ν ae g N L) (a8:∀ r,r < N→b'.row r=g r) (hn:b'.n=N) (he:b'.ae=ae)
  (hf:b'.jc=true→∀ r,r < N→∀ v∈g r,cH v=true) {w':World} {C:Array Value} {t:TypeId} (hw:w'.heap[aI]?=some (.cells C t (0,0))) (hCL:∀ q,q < L.length→C[q]?=L[q]?)
  (gg:N≤cap) (bm:cap*ae≤C.size) (IT:b'.rc=none):bQ ν ⟨aI,0,ae,cap⟩ b' w':=by
 have Hu:aI < w'.heap.size:=(Array.getElem?_eq_some_iff.1 hw).1;refine ⟨he.symm,fun r hr=>?_,fun r hr j v hv=>?_,fun h r hr v hv=>?_,fun r hr v hv=>?_,fun _ _=>⟨C,t,hw,by simpa using bm,by rw [hn]; exact gg⟩,(fun r h=>by rw [IT] at h; cases h),Hu⟩
 ·rw [hn] at hr; rw [a8 r hr,he]; exact hC.row r hr
 ·rw [hn] at hr; rw [a8 r hr] at hv;obtain ⟨v',h1,J⟩:=hC.cell r hr j v hv;refine ⟨v',?_,J⟩;simp only [Loc.at,World.cell?,Nat.zero_add];rw [hw];simp only [Option.isSome_none,Bool.false_eq_true,if_false];rw [hCL _ (List.getElem?_eq_some_iff.1 h1).1]; exact h1
 ·rw [hn] at hr; rw [a8 r hr] at hv; exact hf h r hr v hv
 ·rw [hn] at hr; rw [a8 r hr] at hv; exact hC.sO r hr v hv
theorem bS.eh {ν aj:Nu} {H H':ay} {w w':World} (h:bS ν H w) {id:Nat} (g8:ν.off aj id)
  (ho:∀ (j:Nat) (b':ai),H'[j]?=some (some b')→j≠id→∃ b,H[j]?=some (some b)∧b'.own=b.own∧∀ l,ν j=some l→bQ ν l b w→bQ aj l b' w')
  (bo:∀ b',H'[id]?=some (some b')→∃ l,aj id=some l∧bQ aj l b' w'∧∀ j lj bj,j≠id→H[j]?=some (some bj)→ν j=some lj→lj.aI≠l.aI):bS aj H' w':=by
 refine ⟨fun j b' hj=>?_,fun i j bi bj li lj hi hj aJ I0 h1 J=>?_⟩
 ·by_cases e:j=id
  ·subst e; obtain ⟨l,h1,J,_⟩:=bo b' hj; exact ⟨l,h1,J⟩
  ·obtain ⟨b,h1,_,J⟩:=ho j b' hj e;obtain ⟨l,h3,h4⟩:=h.aI j b h1;exact ⟨l,by rw [g8 j e]; exact h3,J l h3 h4⟩
 ·by_cases ei:i=id
  ·subst ei;obtain ⟨l,e1,_,e2⟩:=bo bi hi;rw [h1] at e1; cases e1;obtain ⟨b,e3,_,_⟩:=ho j bj hj (Ne.symm aJ);rw [g8 j (Ne.symm aJ)] at J;exact Ne.symm (e2 j lj b (Ne.symm aJ) e3 J)
  ·obtain ⟨b,e3,e4,_⟩:=ho i bi hi ei;rw [g8 i ei] at h1;by_cases ej:j=id
   ·subst ej;obtain ⟨l,e1,_,e2⟩:=bo bj hj;rw [J] at e1; cases e1;exact e2 i li b ei e3 h1
   ·obtain ⟨c,e5,_,_⟩:=ho j bj hj ej;rw [g8 j ej] at J;exact h.sep i j b c li lj e3 e5 aJ (by rw [← e4]; exact I0) h1 J
section
variable {P:Program} {w:World}
theorem rN {t ty e:TypeId} {i:TypeInfo} (ht:P.underlying t=some (.slice e)) (hi:P.info? e=some i) {A oy:Option Addr} {n c m cy:Nat} {L:List Value} (hl:L.length=m*i.size)
  (hL:∀ a,oy=some a→∀ (j:Nat) u,L[j]?=some u→w.cell? (a.add j)=some u) (hn:oy=none→m=0) (cQ:n+m≤c) {w2:World}
  (aw:∀ a,A=some a→(storeCells (a.add (n*i.size)) L).run P w=.ok () w2) (nf:A=none→w2=w) :
  (Builtin.append_ #[t,t] ty #[.slice A n c,.slice oy m cy]).run P w=.ok (.slice A (n+m) c) w2:=by
 have hf:(Builtin.firstCells i.size m (.slice oy m cy)).run P w=.ok L.toArray w:=by
  cases oy with
  | none =>
   have:=hn rfl;subst this;have:L=[]:=List.eq_nil_of_length_eq_zero (by simpa using hl)
   rw [this];exact run_firstCells_none (P:=P) (w:=w) i.size 0 0 cy
  | some a=>exact run_firstCells_some (P:=P) w i.size m a m cy L hl (hL a rfl)
 cases A with
 | none =>
  have:=nf rfl;subst this;simp [Builtin.append_,run_underlying ht,sizeOf,typeInfo,hi,Builtin.lenOf,cQ,hf]
 | some a =>
  have:=aw a rfl;simp [Builtin.append_,run_underlying ht,sizeOf,typeInfo,hi,Builtin.lenOf,cQ,hf,this]
def ud (C:Array Value) (z:Value) (k:Nat) (e:TypeId):Obj:=.cells (C++Builtin.zeroCells z.cells k) e
theorem A2 {t ty e:TypeId} {i:TypeInfo} {z:Value} (ht:P.underlying t=some (.slice e)) (hi:P.info? e=some i) (hz:i.zero=some z) {A oy:Option Addr} {n c m cy:Nat} {O L:List Value}
  (ij:O.length=n*i.size) (hO:∀ a,A=some a→∀ (j:Nat) u,O[j]?=some u→w.cell? (a.add j)=some u) (hA:A=none→n=0∧c=0)
  (hl:L.length=m*i.size) (hL:∀ a,oy=some a→∀ (j:Nat) u,L[j]?=some u→w.cell? (a.add j)=some u) (hn:oy=none→m=0) (fo:n≤c) (cQ:c < n+m) (hB:(n+m)*i.bytes≤140737488355328) (hN:n+m≤140737488355328) :
  (Builtin.append_ #[t,t] ty #[.slice A n c,.slice oy m cy]).run P w=.ok (.slice (some ⟨w.heap.size,0,none⟩) (n+m) (grownCap w (n+m) c e)) (w.drew.alloc (ud (O++L).toArray z (grownCap w (n+m) c e - (n+m)) e)):=by
 cases oy with
 | none=>have:=hn rfl; omega
 | some a =>
  cases A with
  | none =>
   obtain ⟨rfl,rfl⟩:=hA rfl;have hO0:O=[]:=List.eq_nil_of_length_eq_zero (by simpa using ij)
   subst hO0;have:=run_append_nil (P:=P) (w:=w) t ty e i z ht hi hz a m cy L hl (hL a rfl) (by omega) (by omega) (by simp only [Nat.zero_add] at hB; omega)
   simp only [Nat.zero_add,List.nil_append];exact this
  | some b =>
   have:=run_append_grow (P:=P) (w:=w) t ty e i z ht hi hz b n c O ij (hO b rfl) a m cy L hl (hL a rfl) cQ (by omega) (growslice_fits cQ hB)
   rw [this];simp [ud]
end
inductive Src where
 | fl (m:Nat) (g:Nat→List Value)
 | ex (L:List (List Value))
def Src.m:Src→Nat
 | .fl m _=>m
 | .ex L=>L.length
def Src.get:Src→Nat→List Value
 | .fl _ g=>g
 | .ex L=>fun j=>L.getD j []
def Src.kv:Src→Bool
 | .fl _ _=>true
 | .ex _=>false
def sD:List (List Value)→Nat→Nat→(List (List Value)→Prop)→Prop
 | _,0,0,k=>k []
 | [],0,_+1,_=>False
 | v::l,0,n+1,k=>sD l 0 n fun vs=>k (v::vs)
 | [],_+1,_,_=>False
 | _::l,o+1,n,k=>sD l o n k
theorem yr:∀ {l:List (List Value)} {o n:Nat} {k:List (List Value)→Prop},sD l o n k→∃ vs,k vs∧(vs.length=n∧o+n≤l.length)∧∀ (j:Nat) v,vs[j]?=some v→l[o+j]?=some v
 | l,0,0,k,h=>⟨[],by cases l <;> exact h,⟨rfl,by simp⟩,fun j v hv=>by simp at hv⟩
 | [],0,_+1,_,h=>h.elim
 | v::l,0,n+1,k,h=>by
  obtain ⟨vs,h1,⟨J,h4⟩,h3⟩:=yr (l:=l) h;refine ⟨v::vs,h1,⟨by simp [J],by simp at h4 ⊢; omega⟩,fun j u hu=>?_⟩
  cases j with
  | zero=>simpa using hu
  | succ j=>have:=h3 j u (by simpa using hu); simpa using this
 | [],o+1,n,k,h=>by cases n <;> exact h.elim
 | x::l,o+1,n,k,h=>by
  have h':sD l o n k:=by cases n <;> exact h
  obtain ⟨vs,h1,⟨J,h4⟩,h3⟩:=yr (l:=l) h';exact ⟨vs,h1,⟨J,by simp; omega⟩,fun j v hv=>by have:=h3 j v hv; rwa [show o+1+j=(o+j)+1 by omega,List.getElem?_cons_succ]⟩
def CQ:List (List Value)→Bool
 | []=>true
 | r::l=>mH r && CQ l
theorem Lh:∀ {l:List (List Value)},CQ l=true→∀ r∈l,∀ v∈r,cH v=true
 | [],_,r,hr=>by simp at hr
 | q::l,h,r,hr=>by
  simp only [CQ,Bool.and_eq_true] at h;rcases List.mem_cons.1 hr with e | e
  ·rw [e]; exact dE h.1
  ·exact Lh h.2 r e
def sQ:List (List Value)→List (List Value)→(List (List Value)→Prop)→Prop
 | [],l,k=>k l
 | x::xs,l,k=>sQ xs l fun r=>k (x::r)
theorem yy:∀ {xs l:List (List Value)} {k:List (List Value)→Prop},sQ xs l k→k (xs++l)
 | [],_,_,h=>h
 | _::xs,l,k,h=>yy (xs:=xs) h
def xr (g:Nat→List Value):Nat→Nat→(List (List Value)→Prop)→Prop
 | _,0,k=>k []
 | i,m+1,k=>xr g (i+1) m fun l=>k (g i::l)
theorem E5 {g:Nat→List Value}:∀ {m i:Nat} {k:List (List Value)→Prop},xr g i m k→∃ l,k l∧l.length=m∧∀ j,j < m→l.getD j []=g (i+j)
 | 0,i,k,h=>⟨[],h,rfl,fun j hj=>absurd hj (by omega)⟩
 | m+1,i,k,h=>by
  obtain ⟨l,h1,J,h3⟩:=E5 (m:=m) h;refine ⟨_,h1,by simp [J],fun j hj=>?_⟩
  cases j with
  | zero=>simp [List.getD]
  | succ j =>
   have:=h3 j (by omega)
   simp only [List.getD,List.getElem?_cons_succ] at this ⊢;rw [this]; congr 1; omega
def zQ (H:ay) (ae:Nat) (yv:Value) (k:Src→Prop):Prop :=
 match yv with
 | .slice none 0 0=>k (.fl 0 fun _=>[])
 | .slice (some ⟨id,row,_⟩) m _=>gR H id fun b=>match Nat.beq b.ae ae with
  | true=>match b with
   | .flat _ n _ get=>row+m≤n∧k (.fl m fun j=>get (fa row j))
   | .aS _ _ rows=>sD rows row m fun L=>match CQ L with
    | true=>k (.fl m fun j=>L.getD j [])
    | false=>k (.ex L)
   | .cj _=>False
  | false=>False
 | _=>False
theorem Fs {H:ay} {ae:Nat} {yv:Value} {k:Src→Prop} (h:zQ H ae yv k):∃ s,k s∧(s.kv=true→∀ r,r < s.m→∀ (ν:Nu) w,bS ν H w→∀ v∈s.get r,cH v=true) ∧
  ∀ (ν:Nu) (w:World) (r:Value),bS ν H w→ar ν yv r→∃ oy cy L,r=.slice oy s.m cy∧(oy=none→s.m=0)∧CR ν ae s.get s.m L∧∀ a,oy=some a→∀ (j:Nat) u,L[j]?=some u→w.cell? (a.add j)=some u:=by
 unfold zQ at h
 split at h
 ·refine ⟨_,h,fun _ r hr=>absurd hr (by simp [Src.m]),fun ν w r hH hr=>?_⟩
  have:=hr.p7;subst this;exact ⟨none,0,[],rfl,fun _=>rfl,CR.nil _ _ _,fun a ha=>by cases ha⟩
 ·rename_i id row sp m c;obtain ⟨b,hb,h⟩:=gK h
  split at h
  ·rename_i he;have he:b.ae=ae:=Nat.eq_of_beq_eq_true he
   -- a source whose rows are the block's
   have gen:∀ (s:Src),s.m=m→row+m≤b.n→(∀ j,j < m→s.get j=b.row (row+j))→∀ (ν:Nu) (w:World) (r:Value),bS ν H w→ar ν (.slice (some ⟨id,row,sp⟩) m c) r →
     ∃ oy cy L,r=.slice oy s.m cy∧(oy=none→s.m=0)∧CR ν ae s.get s.m L∧∀ a,oy=some a→∀ (j:Nat) u,L[j]?=some u→w.cell? (a.add j)=some u:=by
    intro s hm hle a8 ν w r hH hr;obtain ⟨l,hl,hB⟩:=hH.aI id b hb;rcases hr.Cu with ⟨l',c',cE,_,_,rfl⟩ | ⟨kG,bb,rfl⟩
    ·rw [hl] at cE; cases cE;obtain ⟨L,h1,J⟩:=CR.G3 hB hle;rw [he] at h1;refine ⟨_,c',L,by rw [hm],(fun h=>by cases h),?_,(fun a ha=>by cases ha; exact J)⟩
     rw [hm];exact h1.congr a8
    ·refine ⟨some bb,0,[],by rw [hm,kG],(fun h=>by cases h),?_,fun a ha j u hu=>by simp at hu⟩
     rw [hm,kG];exact CR.nil _ _ _
   cases b with
   | flat o n e get =>
    obtain ⟨hle,h⟩:=h;have a8:∀ j,j < m→(Src.fl m fun j=>get (fa row j)).get j=(ai.flat o n e get).row (row+j):=fun j _=>by simp [Src.get,ai.row,aA]
    refine ⟨_,h,fun _ r hr ν w hH v hv=>?_,gen _ rfl hle a8⟩
    obtain ⟨l,hl,hB⟩:=hH.aI id _ hb;have hr:r < m:=hr;rw [a8 r hr] at hv;exact hB.plain rfl (row+r) (by simp only [ai.n]; omega) v hv
   | aS o e rows =>
    obtain ⟨L,h,⟨hlen,hle⟩,kX⟩:=yr h;have a8:∀ j,j < m→L.getD j []=(ai.aS o e rows).row (row+j):=fun j hj=>by
     have al:j < L.length:=by omega
     have:=kX j _ (List.getElem?_eq_getElem al);simp [ai.row,List.getD,this,List.getElem?_eq_getElem al]
    split at h
    ·rename_i hs;refine ⟨_,h,fun _ r hr ν w hH v hv=>?_,gen _ rfl hle a8⟩
     have hr:r < m:=hr;have al:r < L.length:=by omega
     have hv:v∈L.getD r []:=hv;simp only [List.getD,List.getElem?_eq_getElem al,Option.getD_some] at hv;exact Lh hs _ (List.getElem_mem _) v hv
    ·exact ⟨_,h,fun h=>by simp [Src.kv] at h,gen _ hlen hle a8⟩
   | cj r=>exact h.elim
  ·exact h.elim
 ·exact h.elim
end Go.Ae
