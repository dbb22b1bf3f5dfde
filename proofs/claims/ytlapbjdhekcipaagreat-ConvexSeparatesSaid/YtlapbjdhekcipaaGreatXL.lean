import Derived.Test.YtlapbjdhekcipaaGreatRows
import Derived.Test.YtlapbjdhekcipaaGreatXK
set_option linter.unusedVariables false
set_option linter.unusedSimpArgs false
set_option maxRecDepth 20000
set_option maxHeartbeats 4000000
namespace Go.Proofs.YtlapbjdhekcipaaGreat
open Go Go.Ae
def Ej2:Env:=En [(32,.p kd)]
theorem aea:EnvOk Tryz.prog Ej2:=bD ⟨BO,trivial⟩ trivial
theorem Xh:cU Tryz.prog 48 lh:=by
 refine dh aea aN Tryz.func48 (enters_of Tryz.func48 (by kernel_rfl) rfl) ?_ ?_ ?_
 ·intro i B hb;simp [lh] at hb;rcases hb with rfl | rfl <;> rfl
 ·intro i b hb; simp [lh] at hb
 intro ⟨⟨A,c⟩,a,b⟩ hp;have hp:(A.length≤64∧∀ v∈A,PV.sz 12 v)∧a.sz 12∧b.sz 12:=hp;obtain ⟨⟨hl,ba⟩,sa,sb⟩:=hp;have qa:=PV.dg sa (by decide)
 have qb:=PV.dg sb (by decide)
 obtain ⟨n,hn⟩:∃ n,n=A.length:=⟨_,rfl⟩;obtain ⟨g,hg⟩:∃ g,g=cB A:=⟨_,rfl⟩;obtain ⟨K,hK⟩:∃ K,K=gJ lh ((A,c),a,b):=⟨_,rfl⟩;rw [show lh.ae ((A,c),a,b)=[.flat false n 6 g,.flat false 1 12 (fun _=>XV.cells (a,b))] from by rw [hn,hg]; rfl,show lh.args ((A,c),a,b)=[.slice (some ⟨0,0,none⟩) n c,.pointer (some ⟨1,0,none⟩)] from by rw [hn]; rfl,← hK]
 conv=>whnf
 refine .inl ⟨fun mm tz hz=>∃ (j:Nat) (x:Int) (y:Int),bA (some (.slice (some ⟨0,0,none⟩) n c)::some (.pointer (some ⟨1,0,none⟩))::aF 3 (some (.int .i64 x)::some (.int .i64 y)::aF 2 (some (.slice (some ⟨0,0,none⟩) n c)::some (.int .i64 n)::some (.int .i64 j)::aF 22 []))) tz∧hz=[some (.flat false n 6 g),some (.flat false 1 12 (fun _=>XV.cells (a,b)))]∧n - j=mm∧(j≤n∧x=oK (mW (a,b)) 1 (A.take j)∧y=oL (mW (a,b)) (-1) (A.take j)),.inr ⟨[0,1],[0,1,5,6,9,10,11],?_⟩,?_⟩
 ·conv=>whnf
  intro _;conv=>whnf
  refine ⟨_,0,1,-1,(.aa (.aa (.sk 3 (.aa (.aa (.sk 2 (.aa (.aa (.aa (.sk 22 .nil rfl)))) rfl))) rfl))),rfl,rfl,?_⟩;exact ⟨Nat.zero_le _,rfl,rfl⟩
 rintro mm aT _ ⟨j,x,y,aw,rfl,rfl,⟨hj,hx,hy⟩⟩
 obtain ⟨az,rfl⟩:∃ az:Nat→Value,aT=.slice (some ⟨0,0,none⟩) n c::.pointer (some ⟨1,0,none⟩)::zs az 2 3 (.int .i64 x::.int .i64 y::zs az 7 2 (.slice (some ⟨0,0,none⟩) n c::.int .i64 n::.int .i64 j::zs az 12 22 [])):=bI aw;clear aw;conv=>whnf
 refine aK (fun h3=>?_) (fun h3=>?_)
 ·have h3:j < n:=by
   have:=of_decide_eq_true h3;omega
  have e7:IntKind.i64.wrap ((j:Int)+1)=((j+1:Nat):Int):=by rw [ax (by omega) (by omega)]; rfl
  obtain ⟨v,hv⟩:∃ v,v=iC A j:=⟨_,rfl⟩;have rv:g j=v.cells:=by rw [hg,hv]; exact o5 (by omega)
  have mv:A[j]?=some v:=by rw [hv]; exact yN (by omega)
  have sv:=ba v (by rw [hv]; exact np (by omega))
  have qv:=PV.dg sv (by decide)
  have sx:=Ym (f:=mW (a,b)) (o:=1) mv;have sy:=Yn (f:=mW (a,b)) (o:=-1) mv;rw [← hx] at sx;rw [← hy] at sy;conv=>whnf
  refine ⟨⟨by omega,by omega⟩,?_⟩
  simp only [toNat_cast,ay,Nat.zero_add];conv=>whnf
  refine ⟨by show j < n; omega,?_⟩
  conv=>whnf
  rw [rv];conv=>whnf
  refine .inl ⟨17,[[],[],[1],[],[3],[],[1,2,3,4,5],[0,1,2,3,4,5,6],[],[],[9],[],[11],[],[1,2,3,4,5,6,9,10,11,12,13],[1,2,3,4,5,6,8,9,10,11,12,13,14],[0,1,2,3,4,5,6,7,9,10,11,12,13,14],[0,1,2,3,4,5,6,7,8,9,10,11,12,13,14,15,16]],by kernel_rfl,?_⟩
  conv=>whnf
  refine ⟨by decide,?_⟩
  conv=>whnf
  refine ⟨by decide,?_⟩
  conv=>whnf
  obtain ⟨z,ez,pz⟩:=ef (aW (ak a.p b.p v.p) 0);refine ⟨(a,b,v),rfl,⟨PV.aY sa (by decide),PV.aY sb (by decide),PV.aY sv (by decide)⟩,?_⟩
  rw [show kd.val (a,b,v)=.int .i64 z from ez]
  conv=>whnf
  refine ⟨by decide,?_⟩
  conv=>whnf
  refine ⟨by decide,?_⟩
  conv=>whnf
  obtain ⟨w,ew,pw⟩:=ef (aW (ak a.p b.p v.p) 0);refine ⟨(a,b,v),rfl,⟨PV.aY sa (by decide),PV.aY sb (by decide),PV.aY sv (by decide)⟩,?_⟩
  rw [show kd.val (a,b,v)=.int .i64 w from ew]
  conv=>whnf
  have ez:mW (a,b) v=z:=pz.symm;obtain rfl:w=z:=by rw [pw,pz]
  rw [ez] at sx sy;rw [e7];refine .inr ⟨[0,1],[0,1,5,6,9,10,11],?_⟩;conv=>whnf
  intro _;conv=>whnf
  refine ⟨_,?_,j+1,_,_,(.aa (.aa (.sk 3 (.aa (.aa (.sk 2 (.aa (.aa (.aa (.sk 22 .nil rfl)))) rfl))) rfl))),rfl,rfl,?_⟩
  ·omega
  ·exact ⟨by omega,sx.symm,sy.symm⟩
 ·have h3:n=j:=by
   have:=of_decide_eq_false h3;omega
  subst h3;rw [hn,List.take_length] at hx hy;conv=>whnf
  rw [hK];exact ⟨.tuple ⟨[.int .i64 x,.int .i64 y]⟩,by rw [hx,hy]; rfl,.refl _⟩
def Ej3:Env:=En [(27,.q kX)]
theorem PJ:EnvOk Tryz.prog Ej3:=bD ⟨Td,trivial⟩ trivial
theorem aac:cU Tryz.prog 50 iO:=by
 refine dh PJ aN Tryz.func50 (enters_of Tryz.func50 (by kernel_rfl) rfl) ?_ ?_ ?_
 ·intro i B hb;simp [iO] at hb;rcases hb with rfl | rfl <;> rfl
 ·intro i b hb; simp [iO] at hb
 intro ⟨⟨A,c⟩,p⟩ hp;have hp:PL.fit (some (A,c))∧p.sz 2048:=hp;obtain ⟨hl,sp⟩:=hp;obtain ⟨n,hn⟩:∃ n,n=A.length:=⟨_,rfl⟩;obtain ⟨g,hg⟩:∃ g,g=cB A:=⟨_,rfl⟩;obtain ⟨z,hz⟩:∃ z,z=mf A p:=⟨_,rfl⟩;obtain ⟨K,hK⟩:∃ K,K=gJ iO ((A,c),p):=⟨_,rfl⟩;rw [show iO.ae ((A,c),p)=[.flat false n 6 g,.aO false 1 [[.slice (some ⟨0,0,none⟩) n c]]] from by rw [hn,hg]; rfl,show iO.args ((A,c),p)=[p.v,.pointer (some ⟨1,0,none⟩)] from rfl,← hK]
 conv=>whnf
 refine ⟨(some (A,c),p),[0],by rw [show kX.args (some (A,c),p)=[.slice (some ⟨0,0,none⟩) n c,p.v] from by rw [hn]; rfl]; rfl,⟨hl,sp⟩,?_⟩
 rw [show kX.ae (some (A,c),p)=[.flat false n 6 g] from by rw [hn,hg]; rfl,show kX.val (some (A,c),p)=.int .i64 z from congrArg (Value.int .i64) hz.symm,show kX.new (some (A,c),p)=none from rfl]
 conv=>whnf
 refine ⟨aG.aR (fun h=>h) (fun r hr=>by rw [hg]; rfl),?_⟩
 conv=>whnf
 refine ⟨_,rfl,?_⟩;conv=>whnf
 rw [hK];exact ⟨.bool (decide (z ≥ 0)),by rw [hz]; rfl,.refl _⟩
theorem aad:cU Tryz.prog 51 iO:=by
 refine dh PJ aN Tryz.func51 (enters_of Tryz.func51 (by kernel_rfl) rfl) ?_ ?_ ?_
 ·intro i B hb;simp [iO] at hb;rcases hb with rfl | rfl <;> rfl
 ·intro i b hb; simp [iO] at hb
 intro ⟨⟨A,c⟩,p⟩ hp;have hp:PL.fit (some (A,c))∧p.sz 2048:=hp;obtain ⟨hl,sp⟩:=hp;obtain ⟨n,hn⟩:∃ n,n=A.length:=⟨_,rfl⟩;obtain ⟨g,hg⟩:∃ g,g=cB A:=⟨_,rfl⟩;obtain ⟨z,hz⟩:∃ z,z=mf A p:=⟨_,rfl⟩;obtain ⟨K,hK⟩:∃ K,K=gJ iO ((A,c),p):=⟨_,rfl⟩;rw [show iO.ae ((A,c),p)=[.flat false n 6 g,.aO false 1 [[.slice (some ⟨0,0,none⟩) n c]]] from by rw [hn,hg]; rfl,show iO.args ((A,c),p)=[p.v,.pointer (some ⟨1,0,none⟩)] from rfl,← hK]
 conv=>whnf
 refine ⟨(some (A,c),p),[0],by rw [show kX.args (some (A,c),p)=[.slice (some ⟨0,0,none⟩) n c,p.v] from by rw [hn]; rfl]; rfl,⟨hl,sp⟩,?_⟩
 rw [show kX.ae (some (A,c),p)=[.flat false n 6 g] from by rw [hn,hg]; rfl,show kX.val (some (A,c),p)=.int .i64 z from congrArg (Value.int .i64) hz.symm,show kX.new (some (A,c),p)=none from rfl]
 conv=>whnf
 refine ⟨aG.aR (fun h=>h) (fun r hr=>by rw [hg]; rfl),?_⟩
 conv=>whnf
 refine ⟨_,rfl,?_⟩;conv=>whnf
 rw [hK];exact ⟨.bool (decide (z ≥ 0)),by rw [hz]; rfl,.refl _⟩
def Kg:Env:=En [(50,.r iO),(51,.r iO)]
theorem aeb:EnvOk Tryz.prog Kg:=bD ⟨aac,aad,trivial⟩ trivial
theorem VI:fM Tryz.prog 106 (ck Kg cI Tryz.f106):=by
 exact jc aeb aN Tryz.func106 (enters_of Tryz.func106 (by kernel_rfl) rfl)
def Ej5:Env:=En [] [(106,ck Kg cI Tryz.f106)]
theorem aec:EnvOk Tryz.prog Ej5:=bD trivial ⟨VI,trivial⟩
theorem O5 (f:FuncId) (hf:f=50∨f=51):cU Tryz.prog 49 (ou f):=by
 refine dh aec aN Tryz.func49 (enters_of Tryz.func49 (by kernel_rfl) rfl) ?_ ?_ ?_
 ·intro i B hb;simp [ou] at hb;rcases hb with rfl | rfl | rfl <;> rfl
 ·intro i b hb; simp [ou] at hb
 intro ⟨⟨A,c⟩,⟨B,d⟩⟩ hp;have hp:PL.fit (some (A,c))∧PL.fit (some (B,d)):=hp;obtain ⟨⟨la,sA⟩,fB⟩:=hp;have la:A.length≤1099511627776:=la;have sA:∀ v∈A,PV.sz 2048 v:=sA;obtain ⟨n,hn⟩:∃ n,n=A.length:=⟨_,rfl⟩;obtain ⟨g,hg⟩:∃ g,g=cB A:=⟨_,rfl⟩;obtain ⟨m,hm⟩:∃ n,n=B.length:=⟨_,rfl⟩;obtain ⟨g2,mr⟩:∃ g,g=cB B:=⟨_,rfl⟩;obtain ⟨K,hK⟩:∃ K,K=gJ (ou f) ((A,c),(B,d)):=⟨_,rfl⟩;have fin:∀ (z:Bool),z=sQ A B→∃ v',cM (List.range 3) 3 ((ou f).val ((A,c),(B,d)))=some v'∧eG (.bool z) v':=fun z h=>⟨.bool z,by rw [h]; rfl,.refl _⟩
 rw [show (ou f).ae ((A,c),(B,d))=[.flat false n 6 g,.flat false m 6 g2,.aO false 1 [[.slice (some ⟨1,0,none⟩) m d]]] from by rw [hn,hg,hm,mr]; rfl,show (ou f).args ((A,c),(B,d))=[.slice (some ⟨0,0,none⟩) n c,.func (.func f) #[] #[.pointer (some ⟨2,0,none⟩)]] from by rw [hn]; rfl,← hK]
 conv=>whnf
 refine .inl ⟨fun mm tz hz=>∃ (i:Nat),bA (some (.slice (some ⟨0,0,none⟩) n c)::some (.func (.func f) #[] #[.pointer (some ⟨2,0,none⟩)])::aF 5 (some (.int .i64 n)::some (.int .i64 i)::aF 10 [])) tz∧hz=[some (.flat false n 6 g),some (.flat false m 6 g2),some (.aO false 1 [[.slice (some ⟨1,0,none⟩) m d]])]∧n - i=mm∧(i≤n∧∀ v∈A.take i,¬ mf B v ≥ 0),.inr ⟨[0,1,2],[0,1,7,8],?_⟩,?_⟩
 ·conv=>whnf
  intro _;conv=>whnf
  refine ⟨_,0,(.aa (.aa (.sk 5 (.aa (.aa (.sk 10 .nil rfl))) rfl))),rfl,rfl,?_⟩;exact ⟨Nat.zero_le _,fun v hv=>by simp at hv⟩
 rintro mm aT _ ⟨i,aw,rfl,rfl,⟨hi,hV⟩⟩
 obtain ⟨az,rfl⟩:∃ az:Nat→Value,aT=.slice (some ⟨0,0,none⟩) n c::.func (.func f) #[] #[.pointer (some ⟨2,0,none⟩)]::zs az 2 5 (.int .i64 n::.int .i64 i::zs az 9 10 []):=bI aw;clear aw;conv=>whnf
 refine aK (fun h4=>?_) (fun h4=>?_)
 ·have h4:i < n:=by
   have:=of_decide_eq_true h4;omega
  have e8:IntKind.i64.wrap ((i:Int)+1)=((i+1:Nat):Int):=by rw [ax (by omega) (by omega)]; rfl
  obtain ⟨v,hv⟩:∃ v,v=iC A i:=⟨_,rfl⟩;have rv:g i=v.cells:=by rw [hg,hv]; exact o5 (by omega)
  have mv:A[i]?=some v:=by rw [hv]; exact yN (by omega)
  have yk:v∈A:=by rw [hv]; exact np (by omega)
  have sv:=sA v yk;obtain ⟨z,hz⟩:∃ z,z=decide (mf B v ≥ 0):=⟨_,rfl⟩;conv=>whnf
  refine ⟨⟨by omega,by omega⟩,?_⟩
  simp only [toNat_cast,ay,Nat.zero_add];conv=>whnf
  refine ⟨by show i < n; omega,?_⟩
  conv=>whnf
  rw [rv];conv=>whnf
  rcases hf with rfl | rfl
  ·refine ⟨((B,d),v),[1,2],rfl,⟨fB,sv⟩,?_⟩;rw [show iO.ae ((B,d),v)=[.flat false m 6 g2,.aO false 1 [[.slice (some ⟨0,0,none⟩) m d]]] from by rw [hm,mr]; rfl,show iO.val ((B,d),v)=.bool z from congrArg Value.bool hz.symm,show iO.new ((B,d),v)=none from rfl]
   conv=>whnf
   refine ⟨.inl (aG.aR (fun h=>h) (fun r hr=>by rw [mr]; rfl)),.inr ⟨_,_,_,_,rfl,rfl,rfl⟩,?_⟩
   conv=>whnf
   refine ⟨_,rfl,?_⟩;conv=>whnf
   refine aK (fun h5=>?_) (fun h5=>?_)
   ·conv=>whnf
    rw [show decide (((i:Nat):Int) ≥ 0)=true from decide_eq_true (by omega)]
    conv=>whnf
    rw [hK];exact fin true (List.any_eq_true.2 ⟨v,yk,by rw [← hz]; exact h5⟩).symm
   ·conv=>whnf
    rw [e8];refine .inr ⟨[0,1,2],[0,1,7,8],?_⟩;conv=>whnf
    intro _;conv=>whnf
    refine ⟨_,?_,i+1,(.aa (.aa (.sk 5 (.aa (.aa (.sk 10 .nil rfl))) rfl))),rfl,rfl,?_⟩
    ·omega
    ·refine ⟨by omega,fun u hu=>?_⟩
     rw [List.take_add_one,mv] at hu;simp only [Option.toList_some,List.mem_append,List.mem_singleton] at hu;rcases hu with hu | rfl
     ·exact hV u hu
     ·exact of_decide_eq_false (by rw [← hz]; exact h5)
  ·refine ⟨((B,d),v),[1,2],rfl,⟨fB,sv⟩,?_⟩;rw [show iO.ae ((B,d),v)=[.flat false m 6 g2,.aO false 1 [[.slice (some ⟨0,0,none⟩) m d]]] from by rw [hm,mr]; rfl,show iO.val ((B,d),v)=.bool z from congrArg Value.bool hz.symm,show iO.new ((B,d),v)=none from rfl]
   conv=>whnf
   refine ⟨.inl (aG.aR (fun h=>h) (fun r hr=>by rw [mr]; rfl)),.inr ⟨_,_,_,_,rfl,rfl,rfl⟩,?_⟩
   conv=>whnf
   refine ⟨_,rfl,?_⟩;conv=>whnf
   refine aK (fun h5=>?_) (fun h5=>?_)
   ·conv=>whnf
    rw [show decide (((i:Nat):Int) ≥ 0)=true from decide_eq_true (by omega)]
    conv=>whnf
    rw [hK];exact fin true (List.any_eq_true.2 ⟨v,yk,by rw [← hz]; exact h5⟩).symm
   ·conv=>whnf
    rw [e8];refine .inr ⟨[0,1,2],[0,1,7,8],?_⟩;conv=>whnf
    intro _;conv=>whnf
    refine ⟨_,?_,i+1,(.aa (.aa (.sk 5 (.aa (.aa (.sk 10 .nil rfl))) rfl))),rfl,rfl,?_⟩
    ·omega
    ·refine ⟨by omega,fun u hu=>?_⟩
     rw [List.take_add_one,mv] at hu;simp only [Option.toList_some,List.mem_append,List.mem_singleton] at hu;rcases hu with hu | rfl
     ·exact hV u hu
     ·exact of_decide_eq_false (by rw [← hz]; exact h5)
 ·have h4:n=i:=by
   have:=of_decide_eq_false h4;omega
  subst h4;rw [hn,List.take_length] at hV;conv=>whnf
  rw [hK];refine fin false (Eq.symm ?_);rw [Bool.eq_false_iff];intro h;obtain ⟨v,hv,J⟩:=List.any_eq_true.1 h;exact hV v hv (of_decide_eq_true J)
theorem aae:cU Tryz.prog 49 (pM 50 51) :=
 have h1:=O5 50 (.inl rfl);have J:=O5 51 (.inr rfl)
 ⟨h1.1,(fun i=>match i with | (true,i)=>h1.2 i | (false,i)=>J.2 i),(fun i=>match i with | (true,i)=>h1.3 i | (false,i)=>J.3 i),fun i=>match i with | (true,i)=>h1.4 i | (false,i)=>J.4 i⟩
def Ej6:Env:=tG [(13,.p OP),(48,.q lh),(49,.r (pM 50 51)),(16,.q fh),(40,.q (dk true)),(42,.q (dk false)),(44,.q fO)] [(25,ck Kf cI Tryz.f25)]
theorem aed:EnvOk Tryz.prog Ej6:=vo ⟨UD,Xh,aae,NI,Uz,Xe,Ow,trivial⟩ ⟨aab,trivial⟩
theorem acw:cU Tryz.prog 11 q9:=by
 refine dh aed aN Tryz.func11 (enters_of Tryz.func11 (by kernel_rfl) rfl) ?_ ?_ ?_
 ·intro ⟨i,k⟩ B hb;cases i <;> cases k <;> simp [q9,PL.ae] at hb
  ·rw [hb]; rfl
  ·rw [hb]; rfl
  ·rcases hb with rfl | rfl <;> rfl
 ·intro i b hb; simp [q9] at hb
 intro ⟨i,k⟩ hp;have hp:i.list.length*80≤140737488351232∧k.list.length*80≤140737488351232:=hp;obtain ⟨tC,dR⟩:=hp;have fin:∀ n,∃ v',cM (List.range n) 3 (q9.val (i,k))=some v'∧eG (.bool true) v':=fun n=>⟨.bool true,rfl,.refl _⟩
 cases i with
 | none =>
  cases k with
  | none =>
   conv=>whnf
   refine .inr ⟨3,?_⟩;conv=>whnf
   refine ⟨⟨by decide,by decide⟩,?_⟩
   conv=>whnf
   refine ⟨none,[],rfl,by show 0≤9223372036854775807; decide,?_⟩
   rw [show fi.ae none=[] from rfl,show fi.val none=.bool true from rfl,show fi.new none=none from rfl]
   conv=>whnf
   refine ⟨_,rfl,?_⟩;conv=>whnf
   conv=>whnf
   refine ⟨(),rfl,trivial,?_⟩;conv=>whnf
   exact fin _
  | some k =>
   obtain ⟨B,d⟩:=k;conv=>whnf
   refine .inr ⟨3,?_⟩;conv=>whnf
   refine ⟨⟨by decide,by decide⟩,?_⟩
   conv=>whnf
   refine ⟨none,[],rfl,by show 0≤9223372036854775807; decide,?_⟩
   rw [show fi.ae none=[] from rfl,show fi.val none=.bool true from rfl,show fi.new none=none from rfl]
   conv=>whnf
   refine ⟨_,rfl,?_⟩;conv=>whnf
   conv=>whnf
   refine ⟨(),rfl,trivial,?_⟩;conv=>whnf
   exact fin _
 | some i =>
  obtain ⟨A,c⟩:=i;have tC:A.length*80≤140737488351232:=tC;obtain ⟨na,bw⟩:∃ n,n=A.length:=⟨_,rfl⟩;obtain ⟨ga,bP⟩:∃ g,g=cB A:=⟨_,rfl⟩;cases k with
  | none =>
   rw [show q9.ae (some (A,c),none)=[.flat false na 6 ga] from by rw [bw,bP]; rfl,show q9.args (some (A,c),none)=[.slice (some ⟨0,0,none⟩) na c,.slice none 0 0] from by rw [bw]; rfl]
   conv=>whnf
   refine .inr ⟨3,?_⟩;conv=>whnf
   refine ⟨⟨by decide,by decide⟩,?_⟩
   conv=>whnf
   obtain ⟨G,hG⟩:∃ G,G=kz A:=⟨_,rfl⟩;refine ⟨some (A,c),[0],by rw [show fi.args (some (A,c))=[.slice (some ⟨0,0,none⟩) na c] from by rw [bw]; rfl]; rfl,by show List.length (A:List PV)≤9223372036854775807; omega,?_⟩
   rw [show fi.ae (some (A,c))=[.flat false na 6 ga] from by rw [bw,bP]; rfl,show fi.val (some (A,c))=.bool G from by rw [hG]; rfl,show fi.new (some (A,c))=none from rfl]
   conv=>whnf
   refine ⟨aG.aR (fun h=>h) (fun r hr=>by rw [bP]; rfl),?_⟩
   conv=>whnf
   refine ⟨_,rfl,?_⟩;conv=>whnf
   cases G with
   | true =>
    conv=>whnf
    conv=>whnf
    refine ⟨(),rfl,trivial,?_⟩;conv=>whnf
    exact fin _
   | false =>
    conv=>whnf
    refine ⟨⟨by decide,by decide⟩,?_⟩
    conv=>whnf
    refine ⟨none,[],rfl,by show 0≤9223372036854775807; decide,?_⟩
    rw [show fi.ae none=[] from rfl,show fi.val none=.bool true from rfl,show fi.new none=none from rfl]
    conv=>whnf
    refine ⟨_,rfl,?_⟩;conv=>whnf
    conv=>whnf
    refine ⟨(),rfl,trivial,?_⟩;conv=>whnf
    exact fin _
  | some k =>
   obtain ⟨B,d⟩:=k;have dR:B.length*80≤140737488351232:=dR;obtain ⟨nb,bJ⟩:∃ n,n=B.length:=⟨_,rfl⟩;obtain ⟨gb,cD⟩:∃ g,g=cB B:=⟨_,rfl⟩;obtain ⟨cu,fm⟩:∃ cu,cu=aM:=⟨_,rfl⟩;rw [show q9.ae (some (A,c),some (B,d))=[.flat false na 6 ga,.flat false nb 6 gb] from by rw [bw,bP,bJ,cD]; rfl,show q9.args (some (A,c),some (B,d))=[.slice (some ⟨0,0,none⟩) na c,.slice (some ⟨1,0,none⟩) nb d] from by rw [bw,bJ]; rfl]
   conv=>whnf
   refine .inr ⟨3,?_⟩;conv=>whnf
   refine ⟨⟨by decide,by decide⟩,?_⟩
   conv=>whnf
   obtain ⟨G,hG⟩:∃ G,G=kz A:=⟨_,rfl⟩;refine ⟨some (A,c),[0],by rw [show fi.args (some (A,c))=[.slice (some ⟨0,0,none⟩) na c] from by rw [bw]; rfl]; rfl,by show List.length (A:List PV)≤9223372036854775807; omega,?_⟩
   rw [show fi.ae (some (A,c))=[.flat false na 6 ga] from by rw [bw,bP]; rfl,show fi.val (some (A,c))=.bool G from by rw [hG]; rfl,show fi.new (some (A,c))=none from rfl]
   conv=>whnf
   refine ⟨aG.aR (fun h=>h) (fun r hr=>by rw [bP]; rfl),?_⟩
   conv=>whnf
   refine ⟨_,rfl,?_⟩;conv=>whnf
   cases G with
   | true =>
    conv=>whnf
    conv=>whnf
    refine ⟨(),rfl,trivial,?_⟩;conv=>whnf
    exact fin _
   | false =>
    obtain ⟨l10,A1,kA⟩:=Ol hG.symm;conv=>whnf
    refine ⟨⟨by decide,by decide⟩,?_⟩
    conv=>whnf
    obtain ⟨H,hH⟩:∃ G,G=kz B:=⟨_,rfl⟩;refine ⟨some (B,d),[1],by rw [show fi.args (some (B,d))=[.slice (some ⟨0,0,none⟩) nb d] from by rw [bJ]; rfl]; rfl,by show List.length (B:List PV)≤9223372036854775807; omega,?_⟩
    rw [show fi.ae (some (B,d))=[.flat false nb 6 gb] from by rw [bJ,cD]; rfl,show fi.val (some (B,d))=.bool H from by rw [hH]; rfl,show fi.new (some (B,d))=none from rfl]
    conv=>whnf
    refine ⟨aG.aR (fun h=>h) (fun r hr=>by rw [cD]; rfl),?_⟩
    conv=>whnf
    refine ⟨_,rfl,?_⟩;conv=>whnf
    cases H with
    | true =>
     conv=>whnf
     conv=>whnf
     refine ⟨(),rfl,trivial,?_⟩;conv=>whnf
     exact fin _
    | false =>
     obtain ⟨m10,A2,kB⟩:=Ol hH.symm;have fA:PL.fit (some (A,c)):=⟨by show A.length≤_; omega,DF A1⟩
     have fB:PL.fit (some (B,d)):=⟨by show B.length≤_; omega,DF A2⟩
     obtain ⟨R,hR⟩:∃ R,R=jw (aD A) (aD B):=⟨_,rfl⟩;obtain ⟨RX,hRl,hc⟩:=Yo kA kB l10 m10 A1 A2 hR;conv=>whnf
     rcases hc with ⟨aE,o1,o2,o3⟩ | ⟨he,o1,t,a,b,o2,o3,dI,⟨qa,qb⟩,hs,ht⟩
     ·have m1:=Pv (i:=some (A,c)) (k:=some (B,d)) (show (R,0)=dm A B by rw [RX]; exact (Hi (fun e=>aE (List.eq_nil_of_length_eq_zero e)) (by omega)).symm)
      obtain ⟨m,hm⟩:∃ m,m=R.length:=⟨_,rfl⟩;have m0:0 < m:=by rw [hm]; exact List.length_pos_iff.2 aE
      obtain ⟨E,hE⟩:∃ E,E=bS R:=⟨_,rfl⟩;obtain ⟨zx,hzx⟩:∃ x,x=lT:=⟨_,rfl⟩;rw [← hzx] at o3;refine ⟨(some (A,c),some (B,d)),[0,1],by rw [show a9.args (dk true) (some (A,c),some (B,d))=[.slice (some ⟨0,0,none⟩) na c,.slice (some ⟨1,0,none⟩) nb d] from by rw [bw,bJ]; rfl]; rfl,⟨fA,fB⟩,?_⟩
      rw [show a9.ae (dk true) (some (A,c),some (B,d))=[.flat false na 6 ga,.flat false nb 6 gb] from by rw [bw,bP,bJ,cD]; rfl,show a9.val (dk true) (some (A,c),some (B,d))=.tuple ⟨[.bool true,.int .i64 0]⟩ from by show Value.tuple ⟨[.bool (gw true A B).1,.int .i64 (gw true A B).2]⟩=_; rw [o1],show a9.new (dk true) (some (A,c),some (B,d))=none from rfl]
      conv=>whnf
      refine ⟨aG.aR (fun h=>h) (fun r hr=>by rw [bP]; rfl),aG.aR (fun h=>h) (fun r hr=>by rw [cD]; rfl),?_⟩
      conv=>whnf
      refine ⟨_,rfl,?_⟩;conv=>whnf
      refine ⟨(some (A,c),some (B,d)),[0,1],by rw [show a9.args (dk false) (some (A,c),some (B,d))=[.slice (some ⟨0,0,none⟩) na c,.slice (some ⟨1,0,none⟩) nb d] from by rw [bw,bJ]; rfl]; rfl,⟨fA,fB⟩,?_⟩
      rw [show a9.ae (dk false) (some (A,c),some (B,d))=[.flat false na 6 ga,.flat false nb 6 gb] from by rw [bw,bP,bJ,cD]; rfl,show a9.val (dk false) (some (A,c),some (B,d))=.tuple ⟨[.bool true,.int .i64 0]⟩ from by show Value.tuple ⟨[.bool (gw false A B).1,.int .i64 (gw false A B).2]⟩=_; rw [o2],show a9.new (dk false) (some (A,c),some (B,d))=none from rfl]
      conv=>whnf
      refine ⟨aG.aR (fun h=>h) (fun r hr=>by rw [bP]; rfl),aG.aR (fun h=>h) (fun r hr=>by rw [cD]; rfl),?_⟩
      conv=>whnf
      refine ⟨_,rfl,?_⟩;conv=>whnf
      refine ⟨(some (A,c),some (B,d)),[0,1],by rw [show a9.args fh (some (A,c),some (B,d))=[.slice (some ⟨0,0,none⟩) na c,.slice (some ⟨1,0,none⟩) nb d] from by rw [bw,bJ]; rfl]; rfl,⟨⟨fA,fB⟩,HS A1 A2⟩,?_⟩
      rw [show a9.ae fh (some (A,c),some (B,d))=[.flat false na 6 ga,.flat false nb 6 gb] from by rw [bw,bP,bJ,cD]; rfl,show a9.val fh (some (A,c),some (B,d))=.tuple ⟨[.slice (some ⟨2,0,none⟩) m cu,.int .i64 0]⟩ from m1.1.trans (by rw [← hm,Of m0,fm]; rfl),show a9.new fh (some (A,c),some (B,d))=some (.flat true m 6 E) from m1.2.1.trans (by rw [Oe hm.symm m0,hE])]
      conv=>whnf
      refine ⟨aG.aR (fun h=>h) (fun r hr=>by rw [bP]; rfl),aG.aR (fun h=>h) (fun r hr=>by rw [cD]; rfl),?_⟩
      conv=>whnf
      refine ⟨_,rfl,?_⟩;conv=>whnf
      refine ⟨(some (A,c),some (B,d)),[0,1],by rw [show a9.args fO (some (A,c),some (B,d))=[.slice (some ⟨0,0,none⟩) na c,.slice (some ⟨1,0,none⟩) nb d] from by rw [bw,bJ]; rfl]; rfl,⟨fA,fB⟩,?_⟩
      rw [show a9.ae fO (some (A,c),some (B,d))=[.flat false na 6 ga,.flat false nb 6 gb] from by rw [bw,bP,bJ,cD]; rfl,show a9.val fO (some (A,c),some (B,d))=.tuple ⟨[zx.v,.int .i64 6]⟩ from by show Value.tuple ⟨[(jh A B).1.v,.int .i64 (jh A B).2]⟩=_; rw [o3],show a9.new fO (some (A,c),some (B,d))=none from rfl]
      conv=>whnf
      refine ⟨aG.aR (fun h=>h) (fun r hr=>by rw [bP]; rfl),aG.aR (fun h=>h) (fun r hr=>by rw [cD]; rfl),?_⟩
      conv=>whnf
      refine ⟨_,rfl,?_⟩;conv=>whnf
      conv=>whnf
      refine ⟨(),rfl,trivial,?_⟩;conv=>whnf
      exact fin _
     ·have m1:=Pv (i:=some (A,c)) (k:=some (B,d)) (show ([],11)=dm A B by rw [RX,he]; rfl)
      obtain ⟨u,hu⟩:∃ x,x=cj a:=⟨_,rfl⟩;obtain ⟨v,hv⟩:∃ x,x=cj b:=⟨_,rfl⟩;have su:u.sz 12:=by rw [hu]; exact sj qa (by decide)
      have sv:v.sz 12:=by rw [hv]; exact sj qb (by decide)
      have up:u.p=a:=by rw [hu,gF]
      have vp:v.p=b:=by rw [hv,gF]
      have huv:u≠v:=fun e=>dI (by rw [← up,← vp,e])
      refine ⟨(some (A,c),some (B,d)),[0,1],by rw [show a9.args (dk true) (some (A,c),some (B,d))=[.slice (some ⟨0,0,none⟩) na c,.slice (some ⟨1,0,none⟩) nb d] from by rw [bw,bJ]; rfl]; rfl,⟨fA,fB⟩,?_⟩
      rw [show a9.ae (dk true) (some (A,c),some (B,d))=[.flat false na 6 ga,.flat false nb 6 gb] from by rw [bw,bP,bJ,cD]; rfl,show a9.val (dk true) (some (A,c),some (B,d))=.tuple ⟨[.bool false,.int .i64 0]⟩ from by show Value.tuple ⟨[.bool (gw true A B).1,.int .i64 (gw true A B).2]⟩=_; rw [o1],show a9.new (dk true) (some (A,c),some (B,d))=none from rfl]
      conv=>whnf
      refine ⟨aG.aR (fun h=>h) (fun r hr=>by rw [bP]; rfl),aG.aR (fun h=>h) (fun r hr=>by rw [cD]; rfl),?_⟩
      conv=>whnf
      refine ⟨_,rfl,?_⟩;conv=>whnf
      refine ⟨(some (A,c),some (B,d)),[0,1],by rw [show a9.args (dk false) (some (A,c),some (B,d))=[.slice (some ⟨0,0,none⟩) na c,.slice (some ⟨1,0,none⟩) nb d] from by rw [bw,bJ]; rfl]; rfl,⟨fA,fB⟩,?_⟩
      rw [show a9.ae (dk false) (some (A,c),some (B,d))=[.flat false na 6 ga,.flat false nb 6 gb] from by rw [bw,bP,bJ,cD]; rfl,show a9.val (dk false) (some (A,c),some (B,d))=.tuple ⟨[.bool t,.int .i64 0]⟩ from by show Value.tuple ⟨[.bool (gw false A B).1,.int .i64 (gw false A B).2]⟩=_; rw [o2],show a9.new (dk false) (some (A,c),some (B,d))=none from rfl]
      conv=>whnf
      refine ⟨aG.aR (fun h=>h) (fun r hr=>by rw [bP]; rfl),aG.aR (fun h=>h) (fun r hr=>by rw [cD]; rfl),?_⟩
      conv=>whnf
      refine ⟨_,rfl,?_⟩;conv=>whnf
      refine ⟨(some (A,c),some (B,d)),[0,1],by rw [show a9.args fh (some (A,c),some (B,d))=[.slice (some ⟨0,0,none⟩) na c,.slice (some ⟨1,0,none⟩) nb d] from by rw [bw,bJ]; rfl]; rfl,⟨⟨fA,fB⟩,HS A1 A2⟩,?_⟩
      rw [show a9.ae fh (some (A,c),some (B,d))=[.flat false na 6 ga,.flat false nb 6 gb] from by rw [bw,bP,bJ,cD]; rfl,show a9.val fh (some (A,c),some (B,d))=.tuple ⟨[.slice none 0 0,.int .i64 11]⟩ from m1.1,show a9.new fh (some (A,c),some (B,d))=none from m1.2.1]
      conv=>whnf
      refine ⟨aG.aR (fun h=>h) (fun r hr=>by rw [bP]; rfl),aG.aR (fun h=>h) (fun r hr=>by rw [cD]; rfl),?_⟩
      conv=>whnf
      refine ⟨_,rfl,?_⟩;conv=>whnf
      refine ⟨(some (A,c),some (B,d)),[0,1],by rw [show a9.args fO (some (A,c),some (B,d))=[.slice (some ⟨0,0,none⟩) na c,.slice (some ⟨1,0,none⟩) nb d] from by rw [bw,bJ]; rfl]; rfl,⟨fA,fB⟩,?_⟩
      rw [show a9.ae fO (some (A,c),some (B,d))=[.flat false na 6 ga,.flat false nb 6 gb] from by rw [bw,bP,bJ,cD]; rfl,show a9.val fO (some (A,c),some (B,d))=.tuple ⟨[XV.v (u,v),.int .i64 0]⟩ from by show Value.tuple ⟨[(jh A B).1.v,.int .i64 (jh A B).2]⟩=_; rw [o3,hu,hv],show a9.new fO (some (A,c),some (B,d))=none from rfl]
      conv=>whnf
      refine ⟨aG.aR (fun h=>h) (fun r hr=>by rw [bP]; rfl),aG.aR (fun h=>h) (fun r hr=>by rw [cD]; rfl),?_⟩
      conv=>whnf
      refine ⟨_,rfl,?_⟩;conv=>whnf
      rw [zV u v,decide_eq_false huv];conv=>whnf
      obtain ⟨x,hx⟩:∃ z,z=oK (mW (u,v)) 1 A:=⟨_,rfl⟩;obtain ⟨y,hy⟩:∃ z,z=oL (mW (u,v)) (-1) A:=⟨_,rfl⟩;refine ⟨((A,c),(u,v)),[0,5],by rw [show lh.args ((A,c),(u,v))=[.slice (some ⟨0,0,none⟩) na c,.pointer (some ⟨1,0,none⟩)] from by rw [bw]; rfl]; rfl,⟨⟨by show List.length (A:List PV)≤64; omega,A1⟩,su,sv⟩,?_⟩
      rw [show lh.ae ((A,c),(u,v))=[.flat false na 6 ga,.flat false 1 12 (fun _=>XV.cells (u,v))] from by rw [bw,bP]; rfl,show lh.val ((A,c),(u,v))=.tuple ⟨[.int .i64 x,.int .i64 y]⟩ from by rw [hx,hy]; rfl,show lh.new ((A,c),(u,v))=none from rfl]
      conv=>whnf
      refine ⟨aG.aR (fun h=>h) (fun r hr=>by rw [bP]; rfl),On (u,v),?_⟩
      conv=>whnf
      refine ⟨_,rfl,?_⟩;conv=>whnf
      obtain ⟨z,hz⟩:∃ z,z=oK (mW (u,v)) 1 B:=⟨_,rfl⟩;obtain ⟨w,hw⟩:∃ z,z=oL (mW (u,v)) (-1) B:=⟨_,rfl⟩;refine ⟨((B,d),(u,v)),[1,5],by rw [show lh.args ((B,d),(u,v))=[.slice (some ⟨0,0,none⟩) nb d,.pointer (some ⟨1,0,none⟩)] from by rw [bJ]; rfl]; rfl,⟨⟨by show List.length (B:List PV)≤64; omega,A2⟩,su,sv⟩,?_⟩
      rw [show lh.ae ((B,d),(u,v))=[.flat false nb 6 gb,.flat false 1 12 (fun _=>XV.cells (u,v))] from by rw [bJ,cD]; rfl,show lh.val ((B,d),(u,v))=.tuple ⟨[.int .i64 z,.int .i64 w]⟩ from by rw [hz,hw]; rfl,show lh.new ((B,d),(u,v))=none from rfl]
      conv=>whnf
      refine ⟨aG.aR (fun h=>h) (fun r hr=>by rw [cD]; rfl),On (u,v),?_⟩
      conv=>whnf
      refine ⟨_,rfl,?_⟩;conv=>whnf
      obtain ⟨p,hp⟩:∃ z,z=sQ A B:=⟨_,rfl⟩;obtain ⟨q,hq⟩:∃ z,z=sQ B A:=⟨_,rfl⟩;rw [← hp,← hq] at ht;have hs:(x ≥ 0∧w≤0)∨(¬ (x ≥ 0∧w≤0)∧y≤0∧z ≥ 0):=by
       have e:∀ v':PV,mW (u,v) v'=aW (ak a b v'.p) 0:=fun v'=>by unfold mW; rw [up,vp]
       by_cases h0:x ≥ 0∧w≤0
       ·exact .inl h0
       ·refine .inr ⟨h0,?_⟩;rcases hs with ⟨h1,J⟩ | ⟨h1,J⟩
        ·refine absurd ⟨?_,?_⟩ h0
         ·rw [hx]; exact (Hm _ 0 A 1).2 ⟨by decide,fun v' jl=>by rw [e]; exact mF.2 (h1 _ (List.mem_map_of_mem jl))⟩
         ·rw [hw]; exact (Hn _ 0 B (-1)).2 ⟨by decide,fun v' jl=>by rw [e]; exact xh.2 (J _ (List.mem_map_of_mem jl))⟩
        ·refine ⟨?_,?_⟩
         ·rw [hy]; exact (Hn _ 0 A (-1)).2 ⟨by decide,fun v' jl=>by rw [e]; exact xh.2 (h1 _ (List.mem_map_of_mem jl))⟩
         ·rw [hz]; exact (Hm _ 0 B 1).2 ⟨by decide,fun v' jl=>by rw [e]; exact mF.2 (J _ (List.mem_map_of_mem jl))⟩
      clear hx hy hz hw;refine ⟨(true,((A,c),(B,d))),[0,1,3],by rw [show a9.args (pM 50 51) (true,((A,c),(B,d)))=[.slice (some ⟨0,0,none⟩) na c,.func (.func 50) #[] #[.pointer (some ⟨2,0,none⟩)]] from by rw [bw]; rfl]; rfl,⟨fA,fB⟩,?_⟩
      rw [show a9.ae (pM 50 51) (true,((A,c),(B,d)))=[.flat false na 6 ga,.flat false nb 6 gb,.aO false 1 [[.slice (some ⟨1,0,none⟩) nb d]]] from by rw [bw,bP,bJ,cD]; rfl,show a9.val (pM 50 51) (true,((A,c),(B,d)))=.bool p from congrArg Value.bool (Eq.symm hp),show a9.new (pM 50 51) (true,((A,c),(B,d)))=none from rfl]
      conv=>whnf
      refine ⟨.inl (aG.aR (fun h=>h) (fun r hr=>by rw [bP]; rfl)),.inl (aG.aR (fun h=>h) (fun r hr=>by rw [cD]; rfl)),.inr ⟨_,_,_,_,rfl,rfl,rfl⟩,?_⟩
      conv=>whnf
      refine ⟨_,rfl,?_⟩;conv=>whnf
      cases p with
      | true =>
       have ht:t=true:=by rw [ht]; rfl
       conv=>whnf
       rcases hs with ⟨h1,J⟩ | ⟨h0,h1,J⟩
       ·rw [decide_eq_true h1];conv=>whnf
        rw [decide_eq_true J];conv=>whnf
        try rw [ht]
        conv=>whnf
        conv=>whnf
        refine ⟨(),rfl,trivial,?_⟩;conv=>whnf
        exact fin _
       ·by_cases h3:x ≥ 0
        ·have h4:¬ w≤0:=fun h=>h0 ⟨h3,h⟩
         rw [decide_eq_true h3];conv=>whnf
         rw [decide_eq_false h4];conv=>whnf
         rw [decide_eq_true h1];conv=>whnf
         rw [decide_eq_true J];conv=>whnf
         try rw [ht]
         conv=>whnf
         conv=>whnf
         refine ⟨(),rfl,trivial,?_⟩;conv=>whnf
         exact fin _
        ·rw [decide_eq_false h3];conv=>whnf
         rw [decide_eq_true h1];conv=>whnf
         rw [decide_eq_true J];conv=>whnf
         try rw [ht]
         conv=>whnf
         conv=>whnf
         refine ⟨(),rfl,trivial,?_⟩;conv=>whnf
         exact fin _
      | false =>
       conv=>whnf
       refine ⟨(false,((B,d),(A,c))),[1,0,2],by rw [show a9.args (pM 50 51) (false,((B,d),(A,c)))=[.slice (some ⟨0,0,none⟩) nb d,.func (.func 51) #[] #[.pointer (some ⟨2,0,none⟩)]] from by rw [bJ]; rfl]; rfl,⟨fB,fA⟩,?_⟩
       rw [show a9.ae (pM 50 51) (false,((B,d),(A,c)))=[.flat false nb 6 gb,.flat false na 6 ga,.aO false 1 [[.slice (some ⟨1,0,none⟩) na c]]] from by rw [bJ,cD,bw,bP]; rfl,show a9.val (pM 50 51) (false,((B,d),(A,c)))=.bool q from congrArg Value.bool (Eq.symm hq),show a9.new (pM 50 51) (false,((B,d),(A,c)))=none from rfl]
       conv=>whnf
       refine ⟨.inl (aG.aR (fun h=>h) (fun r hr=>by rw [cD]; rfl)),.inl (aG.aR (fun h=>h) (fun r hr=>by rw [bP]; rfl)),.inr ⟨_,_,_,_,rfl,rfl,rfl⟩,?_⟩
       conv=>whnf
       refine ⟨_,rfl,?_⟩;conv=>whnf
       have ht:t=q:=by rw [ht]; rfl
       rw [ht];cases q with
       | true =>
        have ht:t=true:=ht;rcases hs with ⟨h1,J⟩ | ⟨h0,h1,J⟩
        ·rw [decide_eq_true h1];conv=>whnf
         rw [decide_eq_true J];conv=>whnf
         try rw [ht]
         conv=>whnf
         conv=>whnf
         refine ⟨(),rfl,trivial,?_⟩;conv=>whnf
         exact fin _
        ·by_cases h3:x ≥ 0
         ·have h4:¬ w≤0:=fun h=>h0 ⟨h3,h⟩
          rw [decide_eq_true h3];conv=>whnf
          rw [decide_eq_false h4];conv=>whnf
          rw [decide_eq_true h1];conv=>whnf
          rw [decide_eq_true J];conv=>whnf
          try rw [ht]
          conv=>whnf
          conv=>whnf
          refine ⟨(),rfl,trivial,?_⟩;conv=>whnf
          exact fin _
         ·rw [decide_eq_false h3];conv=>whnf
          rw [decide_eq_true h1];conv=>whnf
          rw [decide_eq_true J];conv=>whnf
          try rw [ht]
          conv=>whnf
          conv=>whnf
          refine ⟨(),rfl,trivial,?_⟩;conv=>whnf
          exact fin _
       | false =>
        have ht:t=false:=ht;rcases hs with ⟨h1,J⟩ | ⟨h0,h1,J⟩
        ·rw [decide_eq_true h1];conv=>whnf
         rw [decide_eq_true J];conv=>whnf
         try rw [ht]
         conv=>whnf
         conv=>whnf
         refine ⟨(),rfl,trivial,?_⟩;conv=>whnf
         exact fin _
        ·by_cases h3:x ≥ 0
         ·have h4:¬ w≤0:=fun h=>h0 ⟨h3,h⟩
          rw [decide_eq_true h3];conv=>whnf
          rw [decide_eq_false h4];conv=>whnf
          rw [decide_eq_true h1];conv=>whnf
          rw [decide_eq_true J];conv=>whnf
          try rw [ht]
          conv=>whnf
          conv=>whnf
          refine ⟨(),rfl,trivial,?_⟩;conv=>whnf
          exact fin _
         ·rw [decide_eq_false h3];conv=>whnf
          rw [decide_eq_true h1];conv=>whnf
          rw [decide_eq_true J];conv=>whnf
          try rw [ht]
          conv=>whnf
          conv=>whnf
          refine ⟨(),rfl,trivial,?_⟩;conv=>whnf
          exact fin _
open Go Go.Ae Go.ChangeShapes Go.WideShapes Go.ChangeAt Go.RowKit
theorem own:ownKnob Tryz.prog.godebug=none:=by kernel_rfl
theorem laidOut:laidOutB Tryz.prog=true:=by kernel_rfl
set_option maxRecDepth 100000 in
theorem QE:DG Tryz.prog 24 26 4 9 :=
 ⟨⟨_,_,_,Tryz.underlying24,⟨rfl,rfl⟩,⟨rfl,rfl⟩,rfl,rfl⟩,⟨_,_,Tryz.underlying26,⟨rfl,rfl⟩,rfl,rfl⟩,Tryz.underlying4,Tryz.underlying9,by kernel_rfl,by kernel_rfl,by kernel_rfl,by kernel_rfl⟩
set_option maxRecDepth 100000 in
theorem RY (os:Os) (started:os.Started) (H:Type) (enc:TypeId × Value→H) :
  ReturnsInHanded {} Tryz.checked os 11 .any (Rows.convexSeparatesSpec.pre6 enc Tryz.prog Tryz.f11 Rows.convexSeparatesRow.domain false) (Rows.convexSeparatesSpec.post enc Tryz.prog Tryz.f11 false true false false):=by
 refine returnsInHanded_of_change_sized (C:=Tryz.checked) own started (by kernel_rfl) Tryz.func11
  (ChangeSpec.witness6 (enc:=enc) (C:=Tryz.checked) false ⟨#[],#[.slice none 0 0,.slice none 0 0],[]⟩ 8 (by kernel_rfl) (by kernel_rfl) (by kernel_rfl) (by kernel_rfl)) ?_
 intro W base args ds gs before PK hW afs pO _;have z8:∀ (j:Nat) t v,Tryz.f11.params[j]?=some t→args[j]?=some v→Value.okWide Tryz.prog W .any base t v:=PK;have hW':=hW;obtain ⟨p,q,yh,hV,rfl,Js,mY⟩:=hW;have hA:DataW.TrodAll enc Tryz.prog W 0 (fun _=>true) true Tryz.f11.params.toList args.toList ds p:=yh
 have hz:(DataW.weightsEach Tryz.prog (Tryz.f11.params.toList++Rows.convexSeparatesSpec.plain.varTypes Tryz.prog) (ds++gs)).all (·≤reachBytes)=true:=pO;rw [Tryz.params11] at hA z8 hz;obtain ⟨v0,vs0,d0,ds0,p0,q0,oc,rfl,rfl,h0,r0⟩:=trodAll_cons hA;obtain ⟨v1,vs1,d1,ds1,p1,q1,rfl,rfl,rfl,h1,r1⟩:=trodAll_cons r0;obtain ⟨rfl,rfl,rfl⟩:=trodAll_nil r1;obtain rfl:args=#[v0,v1]:=by cases args; simp_all
 obtain ⟨rfl,rfl⟩:=trodVars_none hV;obtain ⟨a0,bn,i0,z0,Rt,Jz,afa⟩:=KM QE Tryz.underlying22 (z8 0 22 v0 rfl rfl) h0;have z0:=z0 80 reachBytes (fun elems spare e=>sized_slice (e:=26) hz (j:=0) (t:=22) rfl (by rw [e]; rfl) Tryz.underlying22)
 obtain ⟨a1,dP,i1,z1,mn,kH,ve⟩:=KM QE Tryz.underlying22 (z8 1 22 v1 rfl rfl) h1;have z1:=z1 80 reachBytes (fun elems spare e=>sized_slice (e:=26) hz (j:=1) (t:=22) rfl (by rw [e]; rfl) Tryz.underlying22)
 have lt0:∀ x∈p0,x.block < W.heap.size:=by obtain ⟨m,hm⟩:=h0; exact DataW.trod_lt m _ _ _ hm
 have lt1:∀ x∈p1,x.block < W.heap.size:=by obtain ⟨m,hm⟩:=h1; exact DataW.trod_lt m _ _ _ hm
 clear yh PK;obtain ⟨ν,hH,hn,hu0,vx⟩:=adb Rt Jz afa mn kH ve;have acx:bf ν (q9.args (((a0,a1):mo))) [v0,v1]:=.cons hu0 (.cons vx (.nil ν));refine (Sg acw (i:=((a0,a1):mo)) (⟨z0,z1⟩) acx hH hn (b:=true) rfl).mono fun e W' ⟨he,Kh⟩=>?_
 subst he;exact ⟨_,rfl,_,_,_,[],_,[],hW',trodAll_mk1 (shut_bool Tryz.underlying4 _),(trodAll_cons_mk (Below.trod laidOut (by kernel_rfl) (of_decide_eq_true (by kernel_rfl)) h0 Kh lt0) (trodAll_cons_mk (Below.trod laidOut (by kernel_rfl) (of_decide_eq_true (by kernel_rfl)) h1 Kh lt1) trodAll_mk0)),rfl,Kh.frame _,fun h=>by cases h⟩
theorem RZ:Rows.convexSeparatesRow.holds Tryz.pinned (OpenSpec.ofChange Rows.convexSeparatesSpec) :=
 OpenClaim.holds_of_wide 11 Tryz.f11 rfl rfl rfl rfl rfl rfl rfl ⟨rfl,rfl,rfl,rfl,rfl⟩ rfl rfl rfl rfl rfl (by kernel_rfl) Tryz.func11 (by kernel_rfl)
  (of_decide_eq_true (by kernel_rfl)) (by unfold Func.isWrapper; first | (rw [if_pos (by decide +kernel)]; kernel_rfl) | (rw [if_neg (by decide +kernel)]; exact ⟨rfl,rfl⟩))
  (fun os started H enc _=>RY os started H enc)
theorem convexSeparates_proved:Rows.ConvexSeparatesSaid:=RZ
end Go.Proofs.YtlapbjdhekcipaaGreat
