import Derived.WalkKit
import Derived.ProofKit
import Derived.OpenShut
import Derived.ShutString
import Derived.ChangeOld
import Derived.Below
import Derived.Deep.Slices
import Derived.Deep.Strs
import Derived.SizedLaws
import Derived.Test.YtppeponndkfbkaaGreatSD
set_option linter.unusedVariables false
set_option linter.unusedSimpArgs false
/- Lines: contracts over lists of points and of lines. -/
namespace Go.Ae
open Go
/-- Points over rationals as the program keeps them. -/
def pvs (L:List Q2):List PV:=L.map ptV
def rowsQ (L:List Q2):Nat→List Value:=rowsP (pvs L)
theorem pvs_length (L:List Q2):(pvs L).length=L.length:=List.length_map ..
theorem pvs_at {L:List Q2} {k:Nat} (h:k < L.length):(pvs L)[k]?=some (ptV (at2 L k)):=by
 unfold pvs
 rw [List.getElem?_map,at2_some h]; rfl
theorem rowsQ_at {L:List Q2} {k:Nat} (h:k < L.length):rowsQ L k=(ptV (at2 L k)).cells:=by
 unfold rowsQ rowsP
 rw [List.getD_eq_getElem?_getD,pvs_at h]; rfl
theorem rowsQ_allS (L:List Q2) (r:Nat):allS (rowsQ L r)=true:=rfl
/-- A point of a list, behind a variable. -/
theorem hideAt {L:List Q2} {m k:Nat} (h:k < L.length) (hs:∀ v∈L,Q2.sz m v):∃ u:PV,u=ptV (at2 L k)∧rowsQ L k=u.cells∧u.p=at2 L k∧u.sz m∧Q2.sz m u.p :=
 ⟨_,rfl,rowsQ_at h,ptV_p _,ptV_sz (hs _ (at2_mem h)) (Nat.le_refl _),by rw [ptV_p]; exact hs _ (at2_mem h)⟩
theorem ptV_inj {a b:Q2} (h:ptV a=ptV b):a=b:=by rw [← ptV_p a,← ptV_p b,h]
theorem canP_eq {u v:PV} {a b:Q2} (hu:u=ptV a) (hv:v=ptV b):u=v↔a=b:=by
 subst hu; subst hv
 exact ⟨ptV_inj,fun h=>by rw [h]⟩
def cleanS:QSpec:={ ι:=List Q2 × Nat,args:=fun i=>[.slice (some ⟨0,0,none⟩) i.1.length i.2],blks:=fun i=>[.flat false i.1.length 6 (rowsQ i.1)],pre:=fun i=>i.1≠[]∧i.1.length≤1099511627776∧∀ v∈i.1,Q2.sz 1048576 v,val:=fun i=>.slice (some ⟨1,0,none⟩) (cleanL i.1).length capU,new:=fun i=>some (.flat true (cleanL i.1).length 6 (rowsQ (rotR (cleanL i.1)))) }
theorem nxt_i {k n:Nat} (hk:k < n) (hn:n≤1099511627776):Int.tmod (IntKind.i64.wrap ((k:Int)+1)) (n:Int)=(nxt n k:Int):=by
 rw [wrapi64 (by omega) (by omega)]
 show Int.tmod ((k+1:Nat):Int) (n:Int)=(((k+1) % n:Nat):Int)
 rfl
theorem prv_i {k n:Nat} (hk:k < n) (hn:n≤1099511627776):Int.tmod (IntKind.i64.wrap (IntKind.i64.wrap ((k:Int)+(n:Int)) - 1)) (n:Int)=(prv n k:Int):=by
 rw [wrapi64 (x:=(k:Int)+n) (by omega) (by omega),wrapi64 (by omega) (by omega)]
 have:(k:Int)+n - 1=((k+n - 1:Nat):Int):=by omega
 rw [this]
 rfl
theorem rowsQ_congr {X Y:List Q2} {r s:Nat} (h:X[r]?=Y[s]?):rowsQ X r=rowsQ Y s:=by
 unfold rowsQ rowsP pvs
 rw [List.getD_eq_getElem?_getD,List.getD_eq_getElem?_getD,List.getElem?_map,List.getElem?_map,h]
theorem rot_rows {L:List Q2} {m a:Nat} {z:Nat→List Value} (ha:a=L.length - m) (hm:m≤L.length):∀ r,r < L.length →
  appGet (fun j=>appGet z 0 (fun j=>rowsQ L (rowAdd (0+m) j)) (rowAdd 0 j)) (0+a) (fun j=>rowsQ L (rowAdd 0 j)) r=rowsQ (L.drop m++L.take m) r:=fun r hr=>by
 by_cases h:r < a
 ·rw [appGet_lo (by omega),appGet_hi (Nat.zero_le _)]
  refine rowsQ_congr ?_
  rw [List.getElem?_append_left (by rw [List.length_drop]; omega),List.getElem?_drop]
  simp [rowAdd_eq]
 ·rw [appGet_hi (by omega)]
  refine rowsQ_congr ?_
  rw [List.getElem?_append_right (by rw [List.length_drop]; omega),List.length_drop,List.getElem?_take_of_lt (by omega)]
  simp [rowAdd_eq,ha]
theorem rot_rowsG {G:Nat→List Value} {L:List Q2} {m a:Nat} {z:Nat→List Value} (hG:∀ r,r < L.length→G r=rowsQ L r) (ha:a=L.length - m) (hm:m≤L.length):∀ r,r < L.length →
  appGet (fun j=>appGet z 0 (fun j=>G (rowAdd (0+m) j)) (rowAdd 0 j)) (0+a) (fun j=>G (rowAdd 0 j)) r=rowsQ (L.drop m++L.take m) r:=fun r hr=>by
 rw [← rot_rows (z:=z) ha hm r hr]
 by_cases h:r < a
 ·rw [appGet_lo (show r < 0+a by omega),appGet_lo (show r < 0+a by omega),appGet_hi (Nat.zero_le _),appGet_hi (Nat.zero_le _)]
  have e:rowAdd (0+m) (rowAdd 0 r - 0)=m+r:=by rw [rowAdd_eq,rowAdd_eq]; omega
  rw [e]
  exact hG _ (by omega)
 ·rw [appGet_hi (show 0+a≤r by omega),appGet_hi (show 0+a≤r by omega)]
  have e:rowAdd 0 (r - (0+a))=r - a:=by rw [rowAdd_eq]; omega
  rw [e]
  exact hG _ (by omega)
/-- A row taken out. -/
theorem del_rows {G z:Nat→List Value} {L:List Q2} {m k c d:Nat} (hG:∀ r,r < m→G r=rowsQ L r) (hm:m=L.length) (hk:k < m) (hc:c=m - (k+1)):∀ r,r < m - 1 →
  overGet (overGet G k (fun j=>G (rowAdd (k+1) j)) c) (k+c) z d r=rowsQ (L.eraseIdx k) r:=fun r hr=>by
 rw [overGet_lo (by omega)]
 by_cases h:r < k
 ·rw [overGet_lo h,hG r (by omega)]
  exact rowsQ_congr (by rw [List.getElem?_eraseIdx]; simp [h])
 ·rw [overGet_in (by omega) (by omega),rowAdd_eq,hG _ (by omega)]
  exact rowsQ_congr (by rw [List.getElem?_eraseIdx,if_neg h]; congr 1; omega)
/-! lists of lines -/
def XV.p (b:XV):Q4:=(b.1.p,b.2.p)
abbrev LL:=Option (List R3 × Nat)
def rowsLn (l:List R3):Nat→List Value:=fun r=>(l.getD r zeroL).cells
def LL.val:LL→Value
 | none=>.slice none 0 0
 | some i=>.slice (some ⟨0,0,none⟩) i.1.length i.2
def LL.blks:LL→List Blk
 | none=>[]
 | some i=>[.flat false i.1.length 9 (rowsLn i.1)]
def LL.list:LL→List R3
 | none=>[]
 | some i=>i.1
def qs (l:List R3):List Q3:=l.map R3.q
theorem rowsLn_get {l:List R3} {k:Nat} (h:k < l.length):∃ m:R3,l[k]?=some m∧m∈l∧rowsLn l k=m.cells:=by
 have e:=List.getElem?_eq_getElem h
 refine ⟨_,e,List.getElem_mem h,?_⟩
 unfold rowsLn
 rw [List.getD_eq_getElem?_getD,e]; rfl
theorem rowsLn_allS (l:List R3) (r:Nat):allS (rowsLn l r)=true:=rfl
instance (b:Q4):Decidable (okB b):=inferInstanceAs (Decidable (_∧_))
def badL (l:List Q3):Bool:=l.any fun m=>decide (¬ isL m)
/-- What Common answers: an error, or a ring. -/
def comE (b:Q4) (l:List Q3):Int:=if ¬ okB b∨badL l=true then 1 else if 60 < l.length then 4 else if partR b l=[] then 11 else if (cleanL (partR b l)).length < 3 then 12 else 0
def comP (b:Q4) (l:List Q3):List Q2:=rotR (cleanL (partR b l))
def comOk (b:XV) (l:List R3):Prop:=(b.1.sz 1048576∧b.2.sz 1048576)∧l.length≤1099511627776∧(∀ m∈l,m.sz 1048576)∧(l.length≤60→∀ k,k≤l.length→(partR b.p ((qs l).take k)).length≤274877906944∧∀ v∈partR b.p ((qs l).take k),Q2.sz 262144 v)
def commonS:QSpec:={ ι:=XV × LL,args:=fun i=>[i.1.v,i.2.val],blks:=fun i=>i.2.blks,pre:=fun i=>comOk i.1 i.2.list,val:=fun i=>if comE i.1.p (qs i.2.list)=0 then .tuple ⟨[.slice (some ⟨i.2.blks.length,0,none⟩) (comP i.1.p (qs i.2.list)).length capU,.int .i64 0]⟩ else .tuple ⟨[.slice none 0 0,.int .i64 (comE i.1.p (qs i.2.list))]⟩,new:=fun i=>if comE i.1.p (qs i.2.list)=0 then some (.flat true (comP i.1.p (qs i.2.list)).length 6 (rowsQ (comP i.1.p (qs i.2.list)))) else none }
def lnotS:PSpec:={ ι:=R3,args:=fun i=>[i.v],pre:=lsz,val:=fun i=>.bool (decide (¬ isL i.q)) }
/-- No line of the first i is bad. -/
def goodUp (l:List R3) (i:Nat):Prop:=∀ m∈l.take i,isL m.q
theorem goodUp_start (l:List R3):goodUp l 0:=fun m hm=>by simp at hm
theorem goodUp_step {l:List R3} {i:Nat} {m:R3} (h:goodUp l i) (hp:l[i]?=some m) (hg:isL m.q):goodUp l (i+1):=fun q hq=>by
 rw [List.take_add_one,hp] at hq
 simp only [Option.toList_some,List.mem_append,List.mem_singleton] at hq
 rcases hq with hq | rfl
 ·exact h q hq
 ·exact hg
theorem goodUp_end {l:List R3} (h:goodUp l l.length):badL (qs l)=false:=by
 cases e:badL (qs l)
 ·rfl
 ·obtain ⟨p,hp,hg⟩:=List.any_eq_true.1 e
  obtain ⟨m,hm,rfl⟩:=List.mem_map.1 hp
  rw [goodUp,List.take_length] at h
  exact absurd (h m hm) (of_decide_eq_true hg)
theorem bad_of {l:List R3} {m:R3} (h:m∈l) (hb:¬ isL m.q):badL (qs l)=true:=List.any_eq_true.2 ⟨m.q,List.mem_map_of_mem h,decide_eq_true hb⟩
/-- A list of points as a slice. -/
def pVal (P:List Q2) (d:Nat):Value:=match P with
 | []=>.slice none 0 0
 | _::r=>.slice (some ⟨1,0,none⟩) (r.length+1) d
def BlkP (P:List Q2) (W:Blk):Prop:=BlkLe (.flat true P.length 6 (rowsQ P)) W
def BlkP' (P:List Q2) (W:Blk):Prop:=∃ P',(P≠[]→P'=P)∧BlkP P' W
theorem box_blk {x1 y1 x2 y2:RV} {B:Q4} (h1:x1=RV.of B.1.1) (h2:y1=RV.of B.1.2) (h3:x2=RV.of B.2.1) (h4:y2=RV.of B.2.2):BlkP (boxR B) (.expl true 6 [PV.cells (x1,y1),PV.cells (x2,y1),PV.cells (x2,y2),PV.cells (x1,y2)]):=by
 subst h1; subst h2; subst h3; subst h4
 refine ⟨fun _=>⟨rfl,rfl⟩,rfl,Nat.le_refl _,fun r hr=>?_,fun r hr v hv=>allS_spec (rowsQ_allS _ r) v hv⟩
 have hr:r < 4:=hr
 have:r=0∨r=1∨r=2∨r=3:=by omega
 rcases this with rfl | rfl | rfl | rfl <;> rfl
theorem appQ_row {O:List Q2} {q:Nat} {F f:Nat→List Value} {p:PV} {x:Q2} (hq:q=O.length) (hF:∀ r,r < q→F r=rowsQ O r) (hp:p=ptV x) (hf:f 0=p.cells):∀ r,r < q+1→appGet F q f r=rowsQ (O++[x]) r:=fun r hr=>by
 by_cases h:r < q
 ·rw [appGet_lo h,hF r h]
  exact rowsQ_congr (by rw [List.getElem?_append_left (by omega)])
 ·rw [appGet_hi (by omega),show r - q=0 by omega,hf,hp]
  have:r=O.length:=by omega
  subst this
  unfold rowsQ rowsP pvs
  rw [List.getD_eq_getElem?_getD,List.getElem?_map]
  simp
theorem oneQ_row {f:Nat→List Value} {p:PV} {x:Q2} (hp:p=ptV x) (hf:f 0=p.cells):∀ r,r < 1→f r=rowsQ [x] r:=fun r hr=>by
 have:r=0:=by omega
 subst this
 rw [hf,hp]; rfl
theorem flat_step {α β:Type} {l:List α} {f:α→List β} {j:Nat} {e:α} (h:l[j]?=some e):(l.take (j+1)).flatMap f=(l.take j).flatMap f++f e:=by
 rw [List.take_add_one,h]
 simp
theorem cutF_len (m:Q3) (e:Q2 × Q2):(cutF m e).length≤2:=by
 unfold cutF keepP crossP
 rw [List.length_append]
 split <;> split <;> simp
theorem cutF_lens (m:Q3):∀ l:List (Q2 × Q2),(l.flatMap (cutF m)).length≤2*l.length
 | []=>by simp
 | e::l=>by
  have:=cutF_lens m l
  have:=cutF_len m e
  rw [List.flatMap_cons,List.length_append,List.length_cons]
  omega
theorem cutR_len (m:Q3) (l:List Q2):(cutR m l).length≤2*l.length:=by
 rw [cutF_eq]
 have:=cutF_lens m (edges l)
 rw [edges_length] at this
 exact this
theorem cut_rows {m:Q3} {a b w:Q2} {x y:Rat} (hx:x=valR m a) (hy:y=valR m b) (hw:w=atR a b (x / (x - y))) :
  cutF m (a,b)=(if cmpQ x 0 ≥ 0 then [a] else [])++if cmpQ x 0*cmpQ y 0 < 0 then [w] else []:=by
 subst hx; subst hy; subst hw; rfl
theorem common_new {b:XV} {i:LL} {P:List Q2} {M:Nat} {gs:Nat→List Value} (h:comE b.p (qs i.list)=0) (hP:comP b.p (qs i.list)=P) (hM:P.length=M) (hg:gs=rowsQ P) :
  commonS.new (b,i)=some (.flat true M 6 gs)∧commonS.val (b,i)=.tuple ⟨[.slice (some ⟨i.blks.length,0,none⟩) M capU,.int .i64 0]⟩:=by
 subst hM; subst hg; subst hP
 exact ⟨if_pos h,if_pos h⟩
theorem common_err {b:XV} {i:LL} {e:Int} (h:comE b.p (qs i.list)=e) (h0:e≠0):commonS.new (b,i)=none∧commonS.val (b,i)=.tuple ⟨[.slice none 0 0,.int .i64 e]⟩:=by
 subst h
 exact ⟨if_neg h0,if_neg h0⟩
end Go.Ae
/- Lines: what the laws call. -/
namespace Go.Ae
open Go
/-- Whether one of a list has a property. -/
def anyLS (g:FuncId) (f:R3→Bool):QSpec:={ ι:=LL,args:=fun i=>[i.val,.func (.func g) #[] #[]],blks:=fun i=>i.blks,pre:=fun i=>i.list.length≤1099511627776,val:=fun i=>.bool (i.list.any f),new:=fun _=>none }
def anyPS (g:FuncId) (f:PV→Bool):QSpec:={ ι:=PL,args:=fun i=>[i.val,.func (.func g) #[] #[]],blks:=fun i=>i.blks,pre:=fun i=>i.list.length≤1099511627776,val:=fun i=>.bool (i.list.any f),new:=fun _=>none }
def noneUp {α:Type} (f:α→Bool) (l:List α) (i:Nat):Prop:=(l.take i).any f=false
theorem noneUp_start {α:Type} (f:α→Bool) (l:List α):noneUp f l 0:=rfl
theorem noneUp_step {α:Type} {f:α→Bool} {l:List α} {i:Nat} {x:α} (h:noneUp f l i) (hx:l[i]?=some x) (hf:f x=false):noneUp f l (i+1):=by
 unfold noneUp at *
 rw [List.take_add_one,hx,List.any_append,h]
 simp [hf]
theorem noneUp_end {α:Type} {f:α→Bool} {l:List α} (h:noneUp f l l.length):l.any f=false:=by
 unfold noneUp at h
 rw [List.take_length] at h
 exact h
theorem any_of {α:Type} {f:α→Bool} {l:List α} {x:α} (h:x∈l) (hf:f x=true):l.any f=true:=List.any_eq_true.2 ⟨x,h,hf⟩
theorem rowsP_get2 {l:List PV} {k:Nat} (h:k < l.length):∃ m:PV,l[k]?=some m∧m∈l∧rowsP l k=m.cells:=by
 have e:=List.getElem?_eq_getElem h
 refine ⟨_,e,List.getElem_mem h,?_⟩
 unfold rowsP
 rw [List.getD_eq_getElem?_getD,e]; rfl
def longL (m:R3):Bool:=decide m.long
def longP (p:PV):Bool:=decide p.long
def greatL (l:List R3) (ps:List PV):Bool:=decide (8 < l.length) || l.any longL || ps.any longP
/-- Lines as the second argument, behind some blocks. -/
def greatLS:QSpec:={ ι:=LL × PL,args:=fun i=>[i.1.val,i.2.valAt i.1.blks.length],blks:=fun i=>i.1.blks++i.2.blks,pre:=fun i=>i.1.list.length≤9223372036854775807∧i.2.list.length≤1099511627776,val:=fun i=>.bool (greatL i.1.list i.2.list),new:=fun _=>none }
theorem lit_blkL (l:List R3):BlkLe (.flat false l.length 9 (rowsLn l)) (.expl true 9 (l.map R3.cells)) :=
 blk_rows (by simp) (fun r hr=>by
  unfold rowsLn
  rw [List.getD_eq_getElem?_getD,List.getD_eq_getElem?_getD,List.getElem?_map,List.getElem?_eq_getElem hr]
  rfl) (fun r hr=>rfl)
/-! the example of the chapter -/
def exL:Q3:=(-2,2,0)
def exB:Q4:=((0,0),(4,4))
def exR:List Q2:=[(0,0),(4,4),(0,4)]
theorem ex_thr:thrV (((0:Int):Rat),((0:Int):Rat)) (((2:Int):Rat),((2:Int):Rat))=(linV exL,0):=by
 unfold thrV
 rw [if_neg (by decide +kernel)]
 congr 2
 decide +kernel
theorem ex_sid:sidV exL (((0:Int):Rat),((1:Int):Rat))=(1,0):=by decide +kernel
theorem ex_foot:footV 1 exL (((0:Int):Rat),((2:Int):Rat))=(ptV (((1:Int):Rat),((1:Int):Rat)),0):=by
 unfold footV
 rw [if_pos (by decide +kernel)]
 congr 2
 decide +kernel
theorem ex_part:partR exB [exL]=exR:=by decide +kernel
theorem ex_nd:firstNd exR=none:=by decide +kernel
theorem ex_clean:cleanL exR=exR:=cleanL_stop ex_nd
theorem ex_rot:rotR exR=exR:=by decide +kernel
theorem ex_E:comE exB [exL]=0:=by
 unfold comE
 rw [if_neg (by decide +kernel),if_neg (by decide),ex_part,if_neg (by decide),ex_clean,if_neg (by decide)]
theorem ex_P:comP exB [exL]=exR:=by unfold comP; rw [ex_part,ex_clean,ex_rot]
theorem zeroP_p:zeroP.p=(0,0):=by
 show (zeroR.q,zeroR.q)=_
 rw [zeroR_q]
theorem ex_ok {m:PV} {l:R3} (hm:m.p=(((4:Int):Rat),((4:Int):Rat))) (sm:m.sz 1) (hl:l.q=exL) (sl:l.sz 1048576):comOk (zeroP,m) [l]:=by
 have hB:XV.p (zeroP,m)=exB:=by
  show (zeroP.p,m.p)=_
  rw [zeroP_p,hm]; rfl
 have hq:qs [l]=[exL]:=by show [l.q]=_; rw [hl]
 refine ⟨⟨zeroP_sz _,PV.sz_mono sm (by decide)⟩,by show 1≤1099511627776; decide,fun n hn=>by simp at hn; rw [hn]; exact sl,fun _ k hk=>?_⟩
 ·rw [hB,hq]
  have hk:k≤1:=hk
  have small:∀ P:List Q2,(∀ v∈P,Q2.sz 1 v)→P.length≤4→P.length≤274877906944∧∀ v∈P,Q2.sz 262144 v:=fun P h1 h2=>⟨by omega,fun v hv=>Q2.mono (h1 v hv) (by decide)⟩
  have e4:Q2.sz 1 ((4:Rat),(4:Rat)):=ofsz 4 4 (by decide) (by decide)
  have e0:Q2.sz 1 ((0:Rat),(0:Rat)):=ofsz 0 0 (by decide) (by decide)
  rcases (show k=0∨k=1 by omega) with rfl | rfl
  ·show (boxR exB).length≤_∧∀ v∈boxR exB,_
   refine small _ (fun v hv=>?_) (by decide)
   simp only [boxR,exB,List.mem_cons,List.mem_nil_iff,or_false] at hv
   rcases hv with rfl | rfl | rfl | rfl
   ·exact e0
   ·exact ⟨e4.1,e0.2⟩
   ·exact e4
   ·exact ⟨e0.1,e4.2⟩
  ·show (partR exB [exL]).length≤_∧∀ v∈partR exB [exL],_
   rw [ex_part]
   refine small _ (fun v hv=>?_) (by decide)
   simp only [exR,List.mem_cons,List.mem_nil_iff,or_false] at hv
   rcases hv with rfl | rfl | rfl
   ·exact e0
   ·exact e4
   ·exact ⟨e0.1,e4.2⟩
end Go.Ae
/- Rationals: the inverse, as the reference makes it. -/
namespace Go.Ae
open Go
def invV (b:RV):RV:=(decide (b.n < 0),nb b.d,nb b.n.natAbs)
theorem inv_q (b:RV) (h:b.n≠0):(invV b).q=b.q⁻¹:=by
 have e1:(invV b).n=if b.n < 0 then -(b.d:Int) else b.d:=by
  show valI (decide (b.n < 0)) (bnat (nb b.d))=_
  rw [bnat_nb]
  unfold valI
  by_cases hn:b.n < 0 <;> simp [hn]
 have e2:(invV b).d=b.n.natAbs:=by
  show (if bnat (nb b.n.natAbs)=0 then 1 else bnat (nb b.n.natAbs))=_
  rw [bnat_nb,if_neg (by omega)]
 have hd:=natCast_pos b.d_pos
 rw [divInt_q,divInt_q b,e1,e2]
 have hn0:(b.n:Rat)≠0:=fun e=>h (by exact_mod_cast e)
 have hinv:((b.n:Rat) / ((b.d:Nat):Rat))⁻¹=((b.d:Nat):Rat) / (b.n:Rat):=by grind
 rw [hinv]
 by_cases hn:b.n < 0
 ·rw [if_pos hn]
  have:((b.n.natAbs:Nat):Rat)=-(b.n:Rat):=by
   rw [← Rat.intCast_natCast,show ((b.n.natAbs:Nat):Int)=-b.n by omega,Rat.intCast_neg]
  rw [this,Rat.intCast_neg,Rat.intCast_natCast]
  grind
 ·rw [if_neg hn]
  have:((b.n.natAbs:Nat):Rat)=(b.n:Rat):=by
   rw [← Rat.intCast_natCast,show ((b.n.natAbs:Nat):Int)=b.n by omega]
  rw [this,Rat.intCast_natCast]
theorem inv_ok {b:RV} (h:b.ok):(invV b).ok:=by
 refine ⟨?_,?_⟩
 ·show (nb b.d).size≤_
  rw [nb_size]
  unfold RV.d
  split
  ·exact Nat.le_trans (nby_le (show 1 < C ^ 1 by decide)) (by decide)
  ·exact Nat.le_trans (nby_bnat_le _) h.2
 ·show (nb b.n.natAbs).size≤_
  rw [nb_size]
  unfold RV.n
  rw [valI_abs]
  exact Nat.le_trans (nby_bnat_le _) h.1
theorem enc0:encQ 0=zeroR.v:=by
 show Value.agg ⟨[.bool false,.string (nb 0),.string (denS 1)]⟩=_
 rw [nb_zero]; rfl
end Go.Ae
/- Lines: plain laws. -/
namespace Go.Ae
open Go
theorem great_false {l:List R3} {ps:List PV} (h:greatL l ps=false):(∀ m∈l,R3.sz 20 m)∧∀ p∈ps,PV.sz 20 p:=by
 unfold greatL at h
 rw [Bool.or_eq_false_iff,Bool.or_eq_false_iff] at h
 obtain ⟨⟨_,h1⟩,h2⟩:=h
 refine ⟨fun m hm=>R3.not_long fun e=>?_,fun p hp=>PV.not_long fun e=>?_⟩
 ·rw [any_of hm (decide_eq_true e:longL m=true)] at h1; cases h1
 ·rw [any_of hp (decide_eq_true e:longP p=true)] at h2; cases h2
theorem great_len {l:List R3} {ps:List PV} (h:greatL l ps=false):l.length≤8:=by
 unfold greatL at h
 rw [Bool.or_eq_false_iff,Bool.or_eq_false_iff] at h
 have:=of_decide_eq_false h.1.1
 omega
/-! feet -/
theorem chkV_ok {l:Q3} (h:isL l):chkV l=0:=if_neg h
theorem chkV_no {l:Q3} (h:¬ isL l):chkV l=12:=if_pos (Classical.byContradiction h)
/-! bisectors -/
/-! where lines meet -/
end Go.Ae
/- Lines: a box cut by lines, as the laws ask for it. -/
namespace Go.Ae
open Go
theorem cut_all {m:Q3} {P:List Q2} (h:∀ v∈P,0≤valR m v):cutR m P=P:=by
 rw [cutF_eq]
 have:∀ E:List (Q2 × Q2),(∀ e∈E,0≤valR m e.1∧0≤valR m e.2)→E.flatMap (cutF m)=E.map Prod.fst:=by
  intro E
  induction E with
  | nil=>intro _; rfl
  | cons e E ih =>
   intro hE
   have he:=hE e (List.mem_cons_self ..)
   rw [List.flatMap_cons,ih (fun x hx=>hE x (List.mem_cons_of_mem _ hx)),List.map_cons]
   show (keepP m e.1++crossP m e.1 e.2)++_=_
   rw [keep_pos he.1,cross_no (fun h=>by rcases h with ⟨_,h⟩ | ⟨h,_⟩ <;> grind)]
   rfl
 rw [this _ (fun e he=>⟨h _ (edges_mem he).1,h _ (edges_mem he).2⟩),edges_fst]
theorem cut_none {m:Q3} {P:List Q2} (h:∀ v∈P,valR m v < 0):cutR m P=[]:=by
 rw [cutF_eq,List.flatMap_eq_nil_iff]
 intro e he
 have h1:=h _ (edges_mem he).1
 have h2:=h _ (edges_mem he).2
 show keepP m e.1++crossP m e.1 e.2=[]
 rw [keep_neg h1,cross_no (fun h=>by rcases h with ⟨h,_⟩ | ⟨_,h⟩ <;> grind)]
 rfl
theorem cut_const {m:Q3} (h:¬ isL m) (P:List Q2):cutR m P=P∨cutR m P=[]:=by
 have h0:m.1=0∧m.2.1=0:=Classical.byContradiction fun e=>h e
 have hv:∀ v:Q2,valR m v=-m.2.2:=fun v=>by rw [valR_eq,h0.1,h0.2]; grind
 by_cases hc:0≤-m.2.2
 ·exact .inl (cut_all fun v _=>by rw [hv]; exact hc)
 ·exact .inr (cut_none fun v _=>by rw [hv]; grind)
theorem small_nil:Small []:=⟨fun v hv=>(by cases hv),fun e he=>(by cases he)⟩
theorem small_cut' {m:Q3} {P:List Q2} (hs:smallL m) (h:Small P):Small (cutR m P):=by
 by_cases hm:isL m
 ·exact small_cut hm hs h
 ·rcases cut_const hm P with e | e
  ·rw [e]; exact h
  ·rw [e]; exact small_nil
theorem small_cuts':∀ (l:List Q3) (P:List Q2),(∀ m∈l,smallL m)→Small P→Small (l.foldl (fun P m=>cutR m P) P):=by
 intro l
 induction l with
 | nil=>intro P _ h; exact h
 | cons m l ih =>
  intro P hl h
  exact ih _ (fun k hk=>hl k (List.mem_cons_of_mem _ hk)) (small_cut' (hl m (List.mem_cons_self ..)) h)
theorem part_len:∀ (l:List Q3) (P:List Q2),(l.foldl (fun P m=>cutR m P) P).length≤P.length*2 ^ l.length:=by
 intro l
 induction l with
 | nil=>intro P; simp
 | cons m l ih =>
  intro P
  refine Nat.le_trans (ih (cutR m P)) ?_
  have:=cutR_len m P
  rw [List.length_cons,Nat.pow_succ]
  refine Nat.le_trans (Nat.mul_le_mul_right _ this) ?_
  rw [Nat.mul_comm 2,Nat.mul_assoc,Nat.mul_comm 2]
  exact Nat.le_refl _
theorem com_ok {b:XV} {l:List R3} (h1:b.1.sz 20) (h2:b.2.sz 20) (hl:∀ m∈l,m.sz 20) (hb:l.length≤1099511627776) (hn:l.length≤36∨60 < l.length):comOk b l:=by
 refine ⟨⟨PV.sz_mono h1 (by decide),PV.sz_mono h2 (by decide)⟩,hb,fun m hm=>R3.sz_mono (hl m hm) (by decide),fun h60 k hk=>⟨?_,fun v hv=>?_⟩⟩
 ·have hn:l.length≤36:=by omega
  have:=part_len ((qs l).take k) (boxR b.p)
  refine Nat.le_trans this ?_
  have hk':((qs l).take k).length≤36:=by simp [qs]; omega
  refine Nat.le_trans (Nat.mul_le_mul_left _ (Nat.pow_le_pow_right (by decide) hk')) ?_
  show 4*2 ^ 36≤274877906944
  decide
 ·have:=small_cuts' ((qs l).take k) (boxR b.p) (fun m hm=>by
   obtain ⟨r,hr,rfl⟩:=List.mem_map.1 (List.mem_of_mem_take hm)
   exact R3.qsz (hl r hr) (by decide)) (box_small (b:=b.p) (PV.psz h1 (by decide)) (PV.psz h2 (by decide)))
  exact Q2.mono (this.1 v hv) (by decide)
/-! what Common answers -/
theorem com_eq {b:Q4} {l:List Q3} {e:Int} (h:comE b l=e):(e=1∧(¬ okB b∨badL l=true))∨(okB b∧badL l=false∧((e=4∧60 < l.length)∨(l.length≤60∧((e=11∧partR b l=[])∨(partR b l≠[]∧((e=12∧(cleanL (partR b l)).length < 3)∨(e=0∧3≤(cleanL (partR b l)).length))))))):=by
 subst h
 unfold comE
 split
 ·rename_i h; exact .inl ⟨rfl,h⟩
 ·rename_i h
  have h1:okB b:=Classical.byContradiction fun e=>h (.inl e)
  have h2:badL l=false:=by
   cases e:badL l
   ·rfl
   ·exact absurd (.inr e) h
  refine .inr ⟨h1,h2,?_⟩
  split
  ·rename_i h; exact .inl ⟨rfl,h⟩
  ·rename_i h
   refine .inr ⟨by omega,?_⟩
   split
   ·rename_i h; exact .inl ⟨rfl,h⟩
   ·rename_i h
    refine .inr ⟨h,?_⟩
    split
    ·rename_i h; exact .inl ⟨rfl,h⟩
    ·rename_i h; exact .inr ⟨rfl,by omega⟩
/-- A ring that Common answers. -/
structure ComRing (b:Q4) (l:List Q3):Prop where
 okb:okB b
 good:badL l=false
 few:l.length≤60
 turn:Turn (partR b l)
 flat:¬ Flat (partR b l)
 ring:Ring (cleanL (partR b l))
theorem com_ring {b:Q4} {l:List Q3} (h:comE b l=0):ComRing b l:=by
 rcases com_eq h with ⟨e,_⟩ | ⟨h1,h2,⟨e,_⟩ | ⟨h3,⟨e,_⟩ | ⟨h4,⟨e,_⟩ | ⟨_,h5⟩⟩⟩⟩
 ·cases e
 ·cases e
 ·cases e
 ·cases e
 ·have hT:=(part_spec h1 l).1
  have hF:¬ Flat (partR b l):=fun hF=>by have:=clean_flat hF; omega
  exact ⟨h1,h2,h3,hT,hF,clean_ring hT hF⟩
/-- Inside a ring, or on it. -/
def rinB (L:List Q2) (p:Q2):Prop:=∀ k,k < L.length→0≤orR (at2 L k) (at2 L (nxt L.length k)) p
theorem qs_len (l:List R3):(qs l).length=l.length:=List.length_map ..
/-! fewer -/
theorem com_bound {b:XV} {l:List R3} (h:comOk b l) (hn:l.length≤60):(comP b.p (qs l)).length≤274877906944∧∀ v∈comP b.p (qs l),Q2.sz 262144 v:=by
 have:=h.2.2.2 hn l.length (Nat.le_refl _)
 rw [← qs_len,List.take_length] at this
 refine ⟨?_,fun v hv=>this.2 v ((clean_sub _).subset (rotR_mem.1 hv))⟩
 unfold comP
 rw [rotR_length]
 exact Nat.le_trans (clean_sub _).length_le this.1
/-! parts -/
/-! contracts -/
instance (L:List Q2) (p:Q2):Decidable (rinB L p):=inferInstanceAs (Decidable (∀ k,k < L.length→_))
end Go.Ae
/- Lines: what LineParts and LineCommon call besides. -/
namespace Go.Ae
open Go
/-! 'left' of the laws -/
def onL (m:Q3) (p:Q2):Prop:=isL m∧0≤valR m p
instance (m:Q3) (p:Q2):Decidable (onL m p):=inferInstanceAs (Decidable (_∧_))
def leftB (b:Q4) (l:List Q3) (p:Q2):Prop:=inBx b p∧∀ m∈l,onL m p
instance (b:Q4) (p:Q2):Decidable (inBx b p):=inferInstanceAs (Decidable (_∧_∧_∧_))
instance (b:Q4) (l:List Q3) (p:Q2):Decidable (leftB b l p):=inferInstanceAs (Decidable (_∧_))
/-! a list turned round -/
end Go.Ae
/- Lines: the reference's cutting and its rings, over points as they are given. -/
namespace Go.Ae
open Go
def ptsV (L:List PV):List Q2:=L.map PV.p
def crossV (m:Q3) (p q:PV):List PV:=if cmpQ (valR m p.p) 0*cmpQ (valR m q.p) 0 < 0 then [ptV (atR p.p q.p (crossT m p.p q.p))] else []
def cutFV (m:Q3) (e:PV × PV):List PV:=(if cmpQ (valR m e.1.p) 0 ≥ 0 then [e.1] else [])++crossV m e.1 e.2
def cutV (m:Q3) (L:List PV):List PV:=(edges L).flatMap (cutFV m)
theorem ptsV_cut (m:Q3) (L:List PV):ptsV (cutV m L)=cutR m (ptsV L):=by
 unfold ptsV cutV cutR
 rw [edges_map,List.map_flatMap,List.flatMap_map]
 congr 1
 funext e
 unfold cutFV crossV keepP crossP
 rw [List.map_append]
 congr 1
 ·split <;> rfl
 ·split
  ·rw [List.map_cons,ptV_p]; rfl
  ·rfl
def atV (L:List PV) (k:Nat):PV:=L.getD k (zeroR,zeroR)
theorem atV_some {L:List PV} {k:Nat} (h:k < L.length):L[k]?=some (atV L k):=by
 unfold atV; rw [List.getD_eq_getElem?_getD,List.getElem?_eq_getElem h]; rfl
theorem atV_mem {L:List PV} {k:Nat} (h:k < L.length):atV L k∈L:=List.mem_of_getElem? (atV_some h)
theorem rowsP_atV {L:List PV} {k:Nat} (h:k < L.length):rowsP L k=(atV L k).cells:=by
 unfold rowsP
 rw [List.getD_eq_getElem?_getD,atV_some h]; rfl
theorem atV_p {L:List PV} {k:Nat} (h:k < L.length):(atV L k).p=at2 (ptsV L) k:=by
 refine (at2_of ?_).symm
 unfold ptsV
 rw [List.getElem?_map,atV_some h]; rfl
theorem rowsP_congr {X Y:List PV} {r s:Nat} (h:X[r]?=Y[s]?):rowsP X r=rowsP Y s:=by
 unfold rowsP
 rw [List.getD_eq_getElem?_getD,List.getD_eq_getElem?_getD,h]
theorem appP_row {O:List PV} {q:Nat} {F f:Nat→List Value} {x:PV} (hq:q=O.length) (hF:∀ r,r < q→F r=rowsP O r) (hf:f 0=x.cells):∀ r,r < q+1→appGet F q f r=rowsP (O++[x]) r:=fun r hr=>by
 by_cases h:r < q
 ·rw [appGet_lo h,hF r h]
  exact rowsP_congr (by rw [List.getElem?_append_left (by omega)])
 ·rw [appGet_hi (by omega),show r - q=0 by omega,hf]
  have:r=O.length:=by omega
  subst this
  unfold rowsP
  rw [List.getD_eq_getElem?_getD]
  simp
theorem oneP_row {f:Nat→List Value} {x:PV} (hf:f 0=x.cells):∀ r,r < 1→f r=rowsP [x] r:=fun r hr=>by
 have:r=0:=by omega
 subst this
 exact hf
theorem cutFV_len (m:Q3) (e:PV × PV):(cutFV m e).length≤2:=by
 unfold cutFV crossV
 rw [List.length_append]
 split <;> split <;> simp
theorem flatMap_len {α β:Type} {f:α→List β} {c:Nat} (h:∀ a,(f a).length≤c):∀ l:List α,(l.flatMap f).length≤c*l.length
 | []=>by simp
 | e::l=>by
  have:=flatMap_len h l
  have:=h e
  rw [List.flatMap_cons,List.length_append,List.length_cons,Nat.mul_add]
  omega
theorem cutV_up (m:Q3) (L:List PV) (j:Nat):(((edges L).take j).flatMap (cutFV m)).length≤2*L.length:=by
 refine Nat.le_trans (flatMap_len (cutFV_len m) _) ?_
 have:((edges L).take j).length≤L.length:=by rw [List.length_take,edges_length]; omega
 omega
theorem cutV_rows {m:Q3} {a b w:PV} {x y:Rat} (hx:x=valR m a.p) (hy:y=valR m b.p) (hw:w=ptV (atR a.p b.p (x / (x - y)))) :
  cutFV m (a,b)=(if cmpQ x 0 ≥ 0 then [a] else [])++if cmpQ x 0*cmpQ y 0 < 0 then [w] else []:=by
 subst hx; subst hy; subst hw; rfl
def rcutS:QSpec:={ ι:=(List PV × Nat) × R3,args:=fun i=>[.slice (some ⟨0,0,none⟩) i.1.1.length i.1.2,i.2.v],blks:=fun i=>[.flat false i.1.1.length 6 (rowsP i.1.1)],pre:=fun i=>i.1.1.length≤274877906944∧(∀ v∈i.1.1,v.sz 262144)∧i.2.sz 1048576,val:=fun i=>.slice (some ⟨1,0,none⟩) (cutV i.2.q i.1.1).length capU,new:=fun i=>some (.flat true (cutV i.2.q i.1.1).length 6 (rowsP (cutV i.2.q i.1.1))) }
def rringS:QSpec:={ ι:=List PV × Nat,args:=fun i=>[.slice (some ⟨0,0,none⟩) i.1.length i.2],blks:=fun i=>[.flat false i.1.length 6 (rowsP i.1)],pre:=fun i=>i.1.length≤549755813888∧∀ v∈i.1,v.sz 262144,val:=fun i=>.slice (some ⟨1,0,none⟩) (ringR (ptsV i.1)).length capU,new:=fun i=>some (.flat true (ringR (ptsV i.1)).length 6 (rowsQ (ringR (ptsV i.1)))) }
def rturnS:PSpec:={ ι:=PV × PV2,args:=fun i=>[i.1.v,i.2.1.v,i.2.2.v],pre:=fun i=>i.1.sz 262144∧i.2.1.sz 262144∧i.2.2.sz 262144,val:=fun i=>.int .i64 (cmpQ (orR i.1.p i.2.1.p i.2.2.p) 0) }
theorem distF_eq {a b:Q2} {z:Int} (h:z=cmpR a b):distF (a,b)=if z≠0 then [a] else []:=by subst h; rfl
theorem cornF_eq {l:List Q2} {i:Nat} {a b c:Q2} {z:Int} (ha:a=at2 l (prv l.length i)) (hb:b=at2 l i) (hc:c=at2 l (nxt l.length i)) (hz:z=cmpQ (orR a b c) 0):cornF l i=if z≠0 then [b] else []:=by
 unfold cornF
 rw [← ha,← hb,← hc,hz]
 by_cases h:orR a b c=0
 ·rw [if_neg (fun e=>e h),if_neg (fun e=>e (cmpQ_eq h))]
 ·rw [if_pos h,if_pos (fun e=>h (cmpQ_zero.1 e))]
theorem ptsV_len (L:List PV):(ptsV L).length=L.length:=List.length_map ..
theorem ptsV_sz {L:List PV} {k:Nat} (h:∀ v∈L,v.sz k) (hk:1≤k):∀ v∈ptsV L,Q2.sz k v:=fun v hv=>by
 obtain ⟨p,hp,rfl⟩:=List.mem_map.1 hv
 exact PV.psz (h p hp) hk
theorem least_one (C:List Q2):leastUp C 1=0:=by
 show (if cmpR (at2 C 0) (at2 C 0) < 0 then 0 else 0)=0
 split <;> rfl
theorem dist_up (L:List Q2) (j:Nat):(((edges L).take j).flatMap distF).length≤L.length:=by
 refine Nat.le_trans (flatMap_len (c:=1) (fun e=>by unfold distF; split <;> simp) _) ?_
 rw [List.length_take,edges_length]; omega
theorem corn_up (L:List Q2) (j:Nat):((List.range j).flatMap (cornF L)).length≤j:=by
 refine Nat.le_trans (flatMap_len (c:=1) (fun e=>by unfold cornF; split <;> simp) _) ?_
 rw [List.length_range]; omega
theorem rot_rowsE {E z:Nat→List Value} {C:List Q2} {m a n:Nat} (hE:∀ r,r < n→E r=rowsQ C r) (hn:n=C.length) (ha:a=n - m) (hm:m≤n):∀ r,r < n →
  appGet (appGet z 0 fun j=>E (rowAdd (0+m) j)) (0+a) (fun j=>E (rowAdd 0 j)) r=rowsQ (C.drop m++C.take m) r:=fun r hr=>by
 by_cases h:r < a
 ·rw [appGet_lo (by omega),appGet_hi (Nat.zero_le _),rowAdd_eq,hE _ (by omega)]
  refine rowsQ_congr ?_
  rw [List.getElem?_append_left (by rw [List.length_drop]; omega),List.getElem?_drop]
  congr 1; omega
 ·rw [appGet_hi (by omega),rowAdd_eq,hE _ (by omega)]
  refine rowsQ_congr ?_
  rw [List.getElem?_append_right (by rw [List.length_drop]; omega),List.length_drop,List.getElem?_take_of_lt (by omega)]
  congr 1; omega
/-- The capacity of a list that grows from an empty one. -/
def capOf:Nat→Nat
 | 0=>0
 | _+1=>capU
/-! the reference's part of a box -/
def boxV (b:XV):List PV:=[b.1,(b.2.1,b.1.2),b.2,(b.1.1,b.2.2)]
def cutsV (b:XV) (l:List Q3):List PV:=l.foldl (fun P m=>cutV m P) (boxV b)
theorem cutsV_app (b:XV) (l:List Q3) (m:Q3):cutsV b (l++[m])=cutV m (cutsV b l):=by unfold cutsV; rw [List.foldl_append]; rfl
theorem ptsV_cuts (b:XV) (l:List Q3):ptsV (cutsV b l)=partR b.p l:=by
 have key:∀ (l:List Q3) (P:List PV) (Q:List Q2),ptsV P=Q→ptsV (l.foldl (fun P m=>cutV m P) P)=l.foldl (fun P m=>cutR m P) Q:=by
  intro l
  induction l with
  | nil=>intro P Q h; exact h
  | cons m l ih=>intro P Q h; exact ih _ _ (by rw [ptsV_cut,h])
 exact key l _ _ rfl
theorem mem_cutV {m:Q3} {P:List PV} {v:PV} (h:v∈cutV m P):v∈P∨v=ptV v.p:=by
 obtain ⟨e,he,hv⟩:=List.mem_flatMap.1 h
 unfold cutFV at hv
 rcases List.mem_append.1 hv with hv | hv
 ·split at hv
  ·rw [List.mem_singleton.1 hv]; exact .inl (edges_mem he).1
  ·cases hv
 ·unfold crossV at hv
  split at hv
  ·rw [List.mem_singleton.1 hv,ptV_p]; exact .inr rfl
  ·cases hv
theorem cutsV_sz {b:XV} {l:List Q3} {k:Nat} (h1:b.1.sz k) (h2:b.2.sz k) (h:∀ v∈partR b.p l,Q2.sz k v):∀ v∈cutsV b l,v.sz k:=by
 have key:∀ (l:List Q3) (P:List PV),(∀ v∈P,v∈boxV b∨v=ptV v.p)→∀ v∈l.foldl (fun P m=>cutV m P) P,v∈boxV b∨v=ptV v.p:=by
  intro l
  induction l with
  | nil=>intro P h; exact h
  | cons m l ih=>intro P h; exact ih _ (fun v hv=>(mem_cutV hv).elim (h v) .inr)
 intro v hv
 rcases key l _ (fun v hv=>.inl hv) v hv with hb | hb
 ·simp [boxV] at hb
  rcases hb with rfl | rfl | rfl | rfl
  ·exact h1
  ·exact ⟨h2.1,h1.2⟩
  ·exact h2
  ·exact ⟨h1.1,h2.2⟩
 ·rw [hb]
  exact ptV_sz (h _ (by rw [← ptsV_cuts]; exact List.mem_map_of_mem hv)) (Nat.le_refl _)
def rcomP (b:Q4) (l:List Q3):List Q2:=if comE b l=0 then comP b l else []
def rcommonS:QSpec:={ ι:=XV × LL,args:=fun i=>[i.1.v,i.2.val],blks:=fun i=>i.2.blks,pre:=fun i=>comOk i.1 i.2.list∧i.1.1.sz 262144∧i.1.2.sz 262144,val:=fun i=>.tuple ⟨[.slice (some ⟨i.2.blks.length,0,none⟩) (rcomP i.1.p (qs i.2.list)).length capU,.int .i64 (comE i.1.p (qs i.2.list))]⟩,new:=fun i=>some (.flat true (rcomP i.1.p (qs i.2.list)).length 6 (rowsQ (rcomP i.1.p (qs i.2.list)))) }
theorem rcom_eq {b:XV} {i:LL} {e:Int} {P:List Q2} {M:Nat} {gs:Nat→List Value} (h:comE b.p (qs i.list)=e) (hP:rcomP b.p (qs i.list)=P) (hM:P.length=M) (hg:gs=rowsQ P) :
  rcommonS.new (b,i)=some (.flat true M 6 gs)∧rcommonS.val (b,i)=.tuple ⟨[.slice (some ⟨i.blks.length,0,none⟩) M capU,.int .i64 e]⟩:=by
 subst hM; subst hg; subst hP; subst h
 exact ⟨rfl,rfl⟩
theorem rcom_err {b:Q4} {l:List Q3} {e:Int} (h:comE b l=e) (h0:e≠0):rcomP b l=[]:=if_neg (by rw [h]; exact h0)
/-- The reference's ring of a part. -/
theorem ring_part {b:Q4} {l:List Q3} (h:okB b):(ringR (partR b l)=[]↔(cleanL (partR b l)).length < 3)∧(¬ (cleanL (partR b l)).length < 3→ringR (partR b l)=comP b l):=by
 by_cases hF:Flat (partR b l)
 ·obtain ⟨h1,h2⟩:=ring_flat hF
  exact ⟨⟨fun _=>h2,fun _=>h1⟩,fun h=>absurd h2 h⟩
 ·obtain ⟨h1,h2⟩:=ring_eq (part_spec h l).1 hF
  refine ⟨⟨fun e=>?_,fun e=>by omega⟩,fun _=>h1⟩
  have:=congrArg List.length (h1.symm.trans e)
  rw [rotR_length] at this
  simp at this
  rw [this]; decide
def lessS:PSpec:={ ι:=RV2,args:=fun i=>[i.1.v,i.2.v],pre:=RV2.ok,val:=fun i=>.bool (decide (i.1.q < i.2.q)) }
def rboxS:PSpec:={ ι:=XV,args:=fun i=>[i.v],pre:=fun i=>i.1.sz 1048576∧i.2.sz 1048576,val:=fun i=>.bool (decide (okB i.p)) }
theorem lit_blkT (l:List PV):BlkLe (.flat true l.length 6 (rowsP l)) (.expl true 6 (l.map PV.cells)) :=
 ⟨fun _=>⟨rfl,by simp [Blk.n]⟩,rfl,by simp [Blk.n],fun r hr=>by
  have hr:r < l.length:=hr
  show rowsP l r=(l.map PV.cells).getD r []
  unfold rowsP
  rw [List.getD_eq_getElem?_getD,List.getD_eq_getElem?_getD,List.getElem?_map,List.getElem?_eq_getElem hr]
  rfl,fun r hr v hv=>allS_spec (rowsP_allS _ r) v hv⟩
/-! a list of lines, repeated -/
def bmulS:PSpec:={ ι:=Nat × Nat,args:=fun i=>[.int .u64 i.1,.int .u64 i.2],pre:=fun i=>i.1≤8∧i.2=61,val:=fun i=>.tuple ⟨[.int .u64 0,.int .u64 ((i.1*i.2:Nat):Int)]⟩ }
def repG (l:List R3) (n:Nat):Nat→List Value:=fun r=>rowsLn l (r % n)
def repLS:QSpec:={ ι:=List R3 × Nat,args:=fun i=>[.slice (some ⟨0,0,none⟩) i.1.length i.2,.int .i64 61],blks:=fun i=>[.flat false i.1.length 9 (rowsLn i.1)],pre:=fun i=>1≤i.1.length∧i.1.length≤8,val:=fun i=>.slice (some ⟨1,0,none⟩) (i.1.length*61) capU,new:=fun i=>some (.flat true (i.1.length*61) 9 (repG i.1 i.1.length)) }
def RepI (l:List R3) (n m:Nat) (F:Nat→List Value):Prop:=(m=n*61∨(m≤n*61∧∃ j,m=n*j))∧1≤m∧∀ r,r < m→F r=repG l n r
theorem rep_start {l:List R3} {n:Nat} {F z:Nat→List Value} (hn:1≤n) (hF:∀ r,r < n→F r=rowsLn l r):RepI l n n (overGet z 0 F n) :=
 ⟨.inr ⟨by omega,1,by omega⟩,hn,fun r hr=>by rw [overGet_in (Nat.zero_le _) (by omega),Nat.sub_zero,hF r hr]; unfold repG; rw [Nat.mod_eq_of_lt hr]⟩
theorem rep_step {l:List R3} {n m q:Nat} {F:Nat→List Value} (h:RepI l n m F) (hm:m < n*61) (hq:q=Nat.min m (n*61 - m)):RepI l n (m+q) (overGet F m F q):=by
 obtain ⟨h1,h0,h2⟩:=h
 obtain ⟨h3,j,h4⟩:=h1.resolve_left (by omega)
 have hqm:q≤m:=by rw [hq]; exact Nat.min_le_left _ _
 refine ⟨?_,by omega,fun r hr=>?_⟩
 ·by_cases h:m≤n*61 - m
  ·right
   have:q=m:=by rw [hq]; exact Nat.min_eq_left h
   refine ⟨by omega,2*j,?_⟩
   rw [this,h4,← Nat.two_mul,Nat.mul_left_comm]
  ·left
   have:q=n*61 - m:=by rw [hq]; exact Nat.min_eq_right (by omega)
   omega
 ·by_cases h:r < m
  ·rw [overGet_lo h,h2 r h]
  ·rw [overGet_in (by omega) hr,h2 _ (by omega)]
   unfold repG
   congr 1
   obtain ⟨s,rfl⟩:∃ s,r=m+s:=⟨r - m,by omega⟩
   rw [Nat.add_sub_cancel_left,h4,Nat.mul_add_mod]
def repL (l:List R3):List R3:=(List.range 61).map fun r=>l.getD (r % l.length) zeroL
theorem repL_len (l:List R3):(repL l).length=61:=by unfold repL; rw [List.length_map,List.length_range]
theorem repL_row {l:List R3} {r:Nat} (h:r < 61):rowsLn (repL l) r=repG l l.length r:=by
 unfold repG rowsLn repL
 rw [List.getD_eq_getElem?_getD,List.getElem?_map,List.getElem?_range h]
 rfl
theorem repL_mem {l:List R3} (h:1≤l.length):∀ m∈repL l,m∈l:=fun m hm=>by
 obtain ⟨r,hr,rfl⟩:=List.mem_map.1 hm
 have:=Nat.mod_lt r (show 0 < l.length by omega)
 rw [List.getD_eq_getElem?_getD,List.getElem?_eq_getElem this]
 exact List.getElem_mem this
def lcommonS:QSpec:={ ι:=(XV × LL) × Bool,args:=fun i=>[i.1.1.v,i.1.2.val,.bool i.2],blks:=fun i=>i.1.2.blks,pre:=fun i=>i.1.2.list.length*120≤140737488351232,val:=fun _=>.bool true,new:=fun _=>none }
end Go.Ae
/- The arguments of a statement, opened: structs of plain cells. -/
namespace Go.Ae
open Go Go.RowKit
section
variable {P:Program} {w:World} {r:Reach} {base:Nat} {t:TypeId} {v:Value}
theorem cell_bool (ht:P.underlying t=some .bool) (h:Cell.okWide P w r base t v):∃ b,v=.bool b:=by
 simp only [Cell.okWide,ht] at h
 cases v <;> simp_all [Cell.ok]
theorem cell_string (ht:P.underlying t=some .string) (h:Cell.okWide P w r base t v):∃ s,v=.string s:=by
 simp only [Cell.okWide,ht] at h
 cases v <;> simp_all [Cell.ok]
/-- A struct's cells. -/
theorem open_cells {fs:Array Field} (ht:P.underlying t=some (.struct fs)) {ts:List TypeId} (hts:P.cellTypes P.depth t=some ts) (h:Value.okWide P w r base t v) :
  ∃ l:List Value,v=.agg ⟨l⟩∧l.length=P.cellsOf t∧∀ i x,l[i]?=some x→∃ u,ts[i % ts.length]?=some u∧Cell.okWide P w r base u x:=by
 simp only [Value.okWide,ht] at h
 obtain ⟨cs,rfl,h2,ts',h3,_,h5⟩:=h
 rw [hts] at h3
 cases h3
 exact ⟨cs.toList,rfl,h2,fun i x hx=>h5 i x (by simpa using hx)⟩
theorem open_box {fs:Array Field} (ht:P.underlying t=some (.struct fs)) {b s:TypeId} (hts:P.cellTypes P.depth t=some [b,s,s,b,s,s,b,s,s,b,s,s]) (hn:P.cellsOf t=12) (hb:P.underlying b=some .bool) (hs:P.underlying s=some .string)
  (h:Value.okWide P w r base t v):∃ p:XV,v=p.v:=by
 obtain ⟨l,rfl,hl,hc⟩:=open_cells ht hts h
 rw [hn] at hl
 match l,hl with
 | [x,y,z,x',y',z',x2,y2,z2,x3,y3,z3],_ =>
  obtain ⟨u,hu,h0⟩:=hc 0 x rfl
  obtain ⟨u1,hu1,h1⟩:=hc 1 y rfl
  obtain ⟨u2,hu2,h2⟩:=hc 2 z rfl
  obtain ⟨u3,hu3,h3⟩:=hc 3 x' rfl
  obtain ⟨u4,hu4,h4⟩:=hc 4 y' rfl
  obtain ⟨u5,hu5,h5⟩:=hc 5 z' rfl
  obtain ⟨u6,hu6,h6⟩:=hc 6 x2 rfl
  obtain ⟨u7,hu7,h7⟩:=hc 7 y2 rfl
  obtain ⟨u8,hu8,h8⟩:=hc 8 z2 rfl
  obtain ⟨u9,hu9,h9⟩:=hc 9 x3 rfl
  obtain ⟨u10,hu10,h10⟩:=hc 10 y3 rfl
  obtain ⟨u11,hu11,h11⟩:=hc 11 z3 rfl
  cases hu; cases hu1; cases hu2; cases hu3; cases hu4; cases hu5; cases hu6; cases hu7; cases hu8; cases hu9; cases hu10; cases hu11
  obtain ⟨b0,rfl⟩:=cell_bool hb h0
  obtain ⟨s1,rfl⟩:=cell_string hs h1
  obtain ⟨s2,rfl⟩:=cell_string hs h2
  obtain ⟨b3,rfl⟩:=cell_bool hb h3
  obtain ⟨s4,rfl⟩:=cell_string hs h4
  obtain ⟨s5,rfl⟩:=cell_string hs h5
  obtain ⟨b6,rfl⟩:=cell_bool hb h6
  obtain ⟨s7,rfl⟩:=cell_string hs h7
  obtain ⟨s8,rfl⟩:=cell_string hs h8
  obtain ⟨b9,rfl⟩:=cell_bool hb h9
  obtain ⟨s10,rfl⟩:=cell_string hs h10
  obtain ⟨s11,rfl⟩:=cell_string hs h11
  exact ⟨(((b0,s1,s2),(b3,s4,s5)),((b6,s7,s8),(b9,s10,s11))),rfl⟩
end
end Go.Ae
/- The arguments of a statement, opened: slices of points. -/
namespace Go.Ae
open Go Go.RowKit Go.ChangeShapes Go.WideShapes Go.ChangeAt
theorem calls_of_qsnd {P:Program} {f:FuncId} {S:QSpec} (h:QSnd P f S) {i:S.ι} (hp:S.pre i) {avs:List Value} {ν:Nu} {w:World} (ha:LRel ν (S.args i) avs) (hH:HRel ν ((S.blks i).map some) w)
  (hν:∀ id,(S.blks i).length≤id→ν id=none) {b:Bool} (hv:S.val i=.bool b) :
  Calls P f ⟨avs⟩ w fun e w'=>e=.returned (.bool b)∧Below w.heap.size w w':=by
 have h1:=h.calls i hp ν avs w 0 ha hH hν
 rw [callsIn_wide] at h1
 refine h1.mono fun e w' ⟨v',ν',he,hq⟩=>⟨?_,hq.below⟩
 have hr:=hq.val
 rw [hv] at hr
 rw [he,hr.to_bool]
section
variable {H:Type} {enc:TypeId × Value→H} {P:Program} {w:World} {base:Nat} {spare:Nat→Bool} {held:Bool}
/-- The types of a point. -/
structure PtTy (P:Program) (tr tp b s:TypeId):Prop where
 rat:∃ f0 f1 f2,P.underlying tr=some (.struct #[f0,f1,f2])∧(f0.type=b∧f0.offset=0)∧(f1.type=s∧f1.offset=1)∧f2.type=s∧f2.offset=2
 pt:∃ f0 f1,P.underlying tp=some (.struct #[f0,f1])∧(f0.type=tr∧f0.offset=0)∧f1.type=tr∧f1.offset=3
 bool:P.underlying b=some .bool
 str:P.underlying s=some .string
 cr:P.cellsOf tr=3
 cp:P.cellsOf tp=6
 cb:P.cellsOf b=1
 cs:P.cellsOf s=1
theorem trod_rat {tr tp b s:TypeId} (T:PtTy P tr tp b s) {n:Nat} {l:List Value} {y:DataW H × List MemPlace} (h:DataW.trod enc P w base spare held n tr l=some y):∃ i:RV,l=i.cells:=by
 obtain ⟨f0,f1,f2,hu,⟨t0,o0⟩,⟨t1,o1⟩,t2,o2⟩:=T.rat
 obtain ⟨y0,y1,y2,m,_,hl,h0,h1,h2⟩:=Deep.trod_struct3 hu h
 rw [T.cr] at hl
 rw [t0,o0,T.cb] at h0
 rw [t1,o1,T.cs] at h1
 rw [t2,o2,T.cs] at h2
 match l,hl with
 | [x,y,z],_ =>
  obtain ⟨b,e0,_⟩:=DataW.trod_bool T.bool h0
  obtain ⟨s1,e1,_⟩:=DataW.trod_string T.str h1
  obtain ⟨s2,e2,_⟩:=DataW.trod_string T.str h2
  simp at e0 e1 e2
  subst e0; subst e1; subst e2
  exact ⟨(b,s1,s2),rfl⟩
end
end Go.Ae
/- Arguments of a statement: a line. -/
namespace Go.Ae
open Go Go.RowKit Go.ChangeShapes Go.WideShapes Go.ChangeAt
section
variable {P:Program} {w:World} {r:Reach} {base:Nat} {t:TypeId} {v:Value}
end
/-- The types of a line. -/
structure LnTy (P:Program) (tr tn:TypeId):Prop where
 ln:∃ f0 f1 f2,P.underlying tn=some (.struct #[f0,f1,f2])∧(f0.type=tr∧f0.offset=0)∧(f1.type=tr∧f1.offset=3)∧f2.type=tr∧f2.offset=6
 cn:P.cellsOf tn=9
section
variable {H:Type} {enc:TypeId × Value→H} {P:Program} {w:World} {base:Nat} {spare:Nat→Bool} {held:Bool}
theorem trod_ln {tr tp tn b s:TypeId} (T:PtTy P tr tp b s) (U:LnTy P tr tn) {n:Nat} {l:List Value} {y:DataW H × List MemPlace} (h:DataW.trod enc P w base spare held n tn l=some y):∃ p:R3,l=p.cells:=by
 obtain ⟨f0,f1,f2,hu,⟨t0,o0⟩,⟨t1,o1⟩,t2,o2⟩:=U.ln
 obtain ⟨y0,y1,y2,m,_,hl,h0,h1,h2⟩:=Deep.trod_struct3 hu h
 rw [U.cn] at hl
 rw [t0,o0,T.cr] at h0
 rw [t1,o1,T.cr] at h1
 rw [t2,o2,T.cr] at h2
 obtain ⟨i,e0⟩:=trod_rat T h0
 obtain ⟨j,e1⟩:=trod_rat T h1
 obtain ⟨k,e2⟩:=trod_rat T h2
 match l,hl with
 | [x,y,z,x',y',z',x2,y2,z2],_ =>
  have e0:[x,y,z]=i.cells:=e0
  have e1:[x',y',z']=j.cells:=e1
  have e2:[x2,y2,z2]=k.cells:=e2
  refine ⟨(i,j,k),?_⟩
  show [x,y,z]++([x',y',z']++[x2,y2,z2])=i.cells++(j.cells++k.cells)
  rw [e0,e1,e2]
theorem open_lines {tl tr tp tn b s:TypeId} (T:PtTy P tr tp b s) (U:LnTy P tr tn) (ht:P.underlying tl=some (.slice tn)) {v:Value} {d:DataW H} {ps:List MemPlace} {r:Reach} {b0:Nat} (hv:Value.okWide P w r b0 tl v)
  (h:DataW.Trod enc P w base (fun _=>true) held tl v d ps) :
  ∃ (i:LL) (ν:Nu),i.list.length≤9223372036854775807∧(∀ B m,(∀ elems spare,d=.slice elems spare→(elems.length+spare.length)*B≤m)→i.list.length*B≤m)∧VRel ν i.val v∧HRel ν (i.blks.map some) w∧∀ id,i.blks.length≤id→ν id=none:=by
 obtain ⟨a0,len0,cap0,rfl⟩:=okWide_slice ht hv
 obtain ⟨fuel,hf⟩:=h
 rcases Deep.open_slice ht hf with ⟨hcs,_⟩ | ⟨a,len,cap,m,n,D,Pl,hcs,hb,hl,hm,hmm,hd,hx⟩
 ·simp [Value.cells] at hcs
  obtain ⟨rfl,rfl,rfl⟩:=hcs
  refine ⟨none,fun _=>none,Nat.zero_le _,fun B m _=>by show 0*B≤m; omega,.snil,⟨fun id b h=>by simp [LL.blks] at h,fun i j bi bj li lj h=>by simp [LL.blks] at h⟩,fun _ _=>rfl⟩
 ·simp [Value.cells] at hcs
  obtain ⟨rfl,rfl,rfl⟩:=hcs
  have hmm:m=cap0:=hmm
  subst hmm
  simp only [Value.okWide,ht,Cell.okWide,Cell.ok] at hv
  obtain ⟨_,_,_,hsp,row,cells,hshape,_⟩:=hv
  have hlive:a.block < w.heap.size:=by
   unfold World.shape? at hshape
   split at hshape
   ·rename_i hh
    exact (Array.getElem?_eq_some_iff.1 hh).1
   ·cases hshape
  obtain ⟨V,hV⟩:=Deep.choose_lt (α:=R3) (n:=m) (p:=fun i p=>∀ j,j < 9→w.cell? ((a.add (i*9)).add j)=p.cells[j]?) (fun i hi=>by
   obtain ⟨cs',h1,h2⟩:=hx i hi
   rw [U.cn] at h1
   obtain ⟨p,rfl⟩:=trod_ln T U h2
   obtain ⟨_,_,hc⟩:=World.cells?_some h1
   exact ⟨p,hc⟩)
  have hlm:len0≤m:=hl
  refine ⟨some ((List.range len0).map V,capU),fun id=>if id=0 then some ⟨a.block,a.off,9,m⟩ else none,?_,?_,?_,⟨fun id b hid=>?_,fun i j bi bj li lj h1 h2 h3 h4=>?_⟩,fun id hid=>?_⟩
  ·show ((List.range len0).map V).length≤_
   have hm2:m≤9223372036854775807:=hm
   rw [List.length_map,List.length_range]
   omega
  ·intro B M hB
   have hd:=hB _ _ (congrArg Prod.fst hd)
   show ((List.range len0).map V).length*B≤M
   rw [List.length_map,List.length_range]
   refine Nat.le_trans (Nat.mul_le_mul_right _ ?_) hd
   simp
  ·have e:a=Loc.at ⟨a.block,a.off,9,m⟩ 0 0:=by
    obtain ⟨b0,o0,s0⟩:=a
    have:s0=none:=hsp
    subst this
    simp [Loc.at]
   have:=VRel.slice (ν:=fun id=>if id=0 then some ⟨a.block,a.off,9,m⟩ else none) 0 0 len0 capU m ⟨a.block,a.off,9,m⟩ rfl (.inr rfl) hlm (by simp)
   rw [← e] at this
   show VRel _ (.slice (some ⟨0,0,none⟩) ((List.range len0).map V).length capU) _
   rw [List.length_map,List.length_range]
   exact this
  ·cases id with
   | succ id=>simp [LL.blks] at hid
   | zero =>
    simp [LL.blks] at hid
    subst hid
    refine ⟨_,rfl,⟨rfl,fun r hr=>rfl,fun r hr j v hjv=>?_,fun _ r hr v hv=>?_,fun r hr v hv=>?_,fun h=>(by cases h),(fun r h=>by cases h),hlive⟩⟩
    ·have hr2:r < len0:=hr
     have hr:r < ((List.range len0).map V).length:=by rw [List.length_map,List.length_range]; exact hr2
     obtain ⟨p,hp,_,hrow⟩:=rowsLn_get hr
     have hpV:V r=p:=by
      rw [List.getElem?_map,List.getElem?_range hr2] at hp
      simpa using hp
     have hjv:(rowsLn ((List.range len0).map V) r)[j]?=some v:=hjv
     rw [hrow] at hjv
     have hj:j < 9:=(List.getElem?_eq_some_iff.1 hjv).1
     have hc:=hV r (by omega) j hj
     rw [hpV,hjv] at hc
     refine ⟨v,?_,?_⟩
     ·rw [← hc]
      congr 1
      obtain ⟨b0,o0,s0⟩:=a
      have:s0=none:=hsp
      subst this
      by_cases h2:r*9=0
      ·have h3:r=0:=by omega
       by_cases h1:j=0 <;> simp [Loc.at,Addr.add,h1,h3,Nat.add_assoc]
      ·by_cases h1:j=0 <;> simp [Loc.at,Addr.add,h1,h2,Nat.add_assoc]
     ·have hs:allS p.cells=true:=rfl
      exact VRel.scal_self (allS_spec hs v (List.mem_of_getElem? hjv))
    ·exact allS_spec (rowsLn_allS _ r) v hv
    ·have:=allS_spec (rowsLn_allS ((List.range len0).map V) r) v hv
     cases v <;> first | rfl | simp [scal] at this
  ·cases i with
   | succ i=>simp [LL.blks] at h1
   | zero =>
    cases j with
    | zero=>exact absurd rfl h3
    | succ j=>simp [LL.blks] at h2
  ·have:id≠0:=by
    intro e; subst e
    have hid:1≤0:=hid
    omega
   simp [this]
end
end Go.Ae
