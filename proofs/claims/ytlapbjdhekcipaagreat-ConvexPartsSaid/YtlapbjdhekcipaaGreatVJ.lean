import Derived.Test.YtlapbjdhekcipaaGreatVI
set_option linter.unusedVariables false
set_option linter.unusedSimpArgs false
set_option maxRecDepth 20000
set_option maxHeartbeats 4000000
namespace Go.Proofs.YtlapbjdhekcipaaGreat
open Go Go.Ae
def mV:Env:=En [(85,.p ld)]
theorem CI:EnvOk Tryz.prog mV:=bI ⟨BU,trivial⟩ trivial
def uf:Nat→FT→Nu→FT:=fun l G nu=>ck { mV with ys:=[(l,G)],nu:=nu } cL Tryz.f118
theorem wq:zj Tryz.prog 118 uf:=by
 exact Oj CI aM Tryz.func118 (enters_of Tryz.func118 (by kernel_rfl) rfl)
theorem wI:gi Tryz.prog 64 (ck mV cL Tryz.f64):=by
 exact js CI aM Tryz.func64 (enters_of Tryz.func64 (by kernel_rfl) rfl)
def Qx:Env:=En [(32,.p mw)] [(64,ck mV cL Tryz.f64)] [(118,uf)]
theorem aca:EnvOk Tryz.prog Qx:=bI ⟨Fj,trivial⟩ ⟨wI,trivial⟩
theorem aaT:gL Tryz.prog Qx:=vE ⟨wq,trivial⟩
theorem YG:dc Tryz.prog 67 nc:=by
 refine eg aca aM Tryz.func67 (enters_of Tryz.func67 (by kernel_rfl) rfl) ?_ ?_ ?_ (hI:=aaT)
 ·intro ⟨i,_⟩ b hb;cases i with
  | none=>simp [nc,PL.aj] at hb
  | some i=>simp [nc,PL.aj] at hb; rw [hb]; rfl
 ·intro i b hb; simp [nc] at hb
 intro ⟨i,p⟩ hp;have hp:(i.list.length≤1099511627776∧∀ v∈i.list,v.sz 2048)∧p.sz 2048:=hp;obtain ⟨⟨hlen,aU⟩,sp⟩:=hp;have qp:=PV.c9 sp (by decide)
 cases i with
 | none =>
  conv=>whnf
  intro yl nu fn tm df;conv=>whnf
  refine .inr ⟨1,?_⟩;conv=>whnf
  exact ⟨.int .i64 1,rfl,.refl _⟩
 | some i =>
  obtain ⟨L,c⟩:=i;have hlen:L.length≤1099511627776:=hlen;have aU:∀ v∈L,PV.sz 2048 v:=aU;obtain ⟨n,hn⟩:∃ n,n=L.length:=⟨_,rfl⟩;obtain ⟨g,hg⟩:∃ g,g=dq L:=⟨_,rfl⟩;have fin:∀ z:Int,z=fe (aV L) p.p→∃ v',cQ (List.range 1) 3 (nc.val (some (L,c),p))=some v'∧eZ (.int .i64 z) v':=fun z h=>⟨.int .i64 z,by rw [h]; rfl,.refl _⟩
  rw [show nc.aj (some (L,c),p)=[.flat false n 6 g] from by rw [hn,hg]; rfl,show nc.args (some (L,c),p)=[.slice (some ⟨0,0,none⟩) n c,p.v] from by rw [hn]; rfl]
  rw [← hn] at hlen;conv=>whnf
  intro yl nu fn tm df;conv=>whnf
  refine .inl ⟨fun mm tz hz=>∃ (j:Nat) (o:Int),bA (some (.func (.yield yl) #[] #[])::some (.pointer (some ⟨3,0,none⟩))::aB 3 (some (.slice (some ⟨0,0,none⟩) n c)::some (.int .i64 n)::some (.int .i64 j)::aB 17 [])) tz∧hz=[some (.flat false n 6 g),some (.aL true 6 [p.cells]),some (.aL true 1 [[.int .i64 o]]),some (.aL true 1 [[.slice (some ⟨0,0,none⟩) n c]]),some (.b9 (qR Tryz.f67 fn tm df))]∧n - j=mm∧(j≤n∧o=ur (aV L) p.p j),.inr ⟨[0,1,2,3,4],[0,1,5,6,7],?_⟩,?_⟩
  ·conv=>whnf
   intro _;conv=>whnf
   refine ⟨_,0,1,(.aa (.aa (.sk 3 (.aa (.aa (.aa (.sk 17 .nil rfl)))) rfl))),rfl,rfl,?_⟩;exact ⟨Nat.zero_le _,rfl⟩
  rintro mm aS _ ⟨j,o,au,rfl,rfl,⟨hj,ho⟩⟩
  obtain ⟨az,rfl⟩:∃ az:Nat→Value,aS=.func (.yield yl) #[] #[]::.pointer (some ⟨3,0,none⟩)::zs az 2 3 (.slice (some ⟨0,0,none⟩) n c::.int .i64 n::.int .i64 j::zs az 8 17 []):=bJ au;clear au;conv=>whnf
  refine aI (fun h3=>?_) (fun h3=>?_)
  ·have h3:j < n:=by
    have:=of_decide_eq_true h3;omega
   have e7:IntKind.i64.wrap ((j:Int)+1)=((j+1:Nat):Int):=by rw [ar (by omega) (by omega)]; rfl
   obtain ⟨a,b,ra,rb,⟨ma,mb⟩,g0,cD,_,_⟩:=tN hn h3;have sa:=aU a ma;have sb:=aU b mb;have qa:=PV.c9 sa (by decide)
   have qb:=PV.c9 sb (by decide)
   have cR:=lQ h3 (by omega)
   obtain ⟨u,hu⟩:∃ u,u=bg n j:=⟨_,rfl⟩;rw [← hu] at cR cD rb;rw [← hg] at ra rb;have ao:=RR (p:=p.p) g0;rw [← ho] at ao;conv=>whnf
   refine ⟨⟨by omega,by omega⟩,?_⟩
   simp only [toNat_cast,ax,Nat.zero_add];conv=>whnf
   refine ⟨by show j < n; omega,?_⟩
   conv=>whnf
   rw [ra];conv=>whnf
   refine .inl ⟨10,[[],[],[],[],[3],[],[5],[3,4,5,6],[2,3,4,5,6,7],[2,3,4,5,6,7,8],[0,1,2,3,4,5,6,7,8,9],[0,1,2,3,4,5,6,7,8,9,10]],by kernel_rfl,?_⟩
   conv=>whnf
   rw [show decide ((n:Int)≠0)=true from decide_eq_true (by omega)]
   conv=>whnf
   rw [cR];refine ⟨⟨by omega,by omega⟩,?_⟩
   simp only [toNat_cast,ax,Nat.zero_add];conv=>whnf
   refine ⟨by show u < n; omega,?_⟩
   conv=>whnf
   rw [rb];conv=>whnf
   refine ⟨rfl,?_⟩;conv=>whnf
   refine ⟨rfl,?_⟩;conv=>whnf
   refine ⟨rfl,?_⟩;conv=>whnf
   refine .inl ⟨5,[[],[],[],[],[1,2,3],[0,1,2,3,4],[0,1,2,3,4,5]],by kernel_rfl,?_⟩
   conv=>whnf
   obtain ⟨z,ez,pz⟩:=dJ (aN (an a.p b.p p.p) 0);refine ⟨(a,b,p),rfl,⟨PV.aJ sa (by decide),PV.aJ sb (by decide),PV.aJ sp (by decide)⟩,?_⟩
   rw [show mw.val (a,b,p)=.int .i64 z from ez]
   conv=>whnf
   rw [← pz] at ao;refine ⟨rfl,?_⟩;conv=>whnf
   rw [e7];refine .inr ⟨[0,1,2,3,4],[0,1,5,6,7],?_⟩;conv=>whnf
   intro _;conv=>whnf
   refine ⟨_,?_,j+1,if z < o then z else o,(.aa (.aa (.sk 3 (.aa (.aa (.aa (.sk 17 .nil rfl)))) rfl))),rfl,rfl,?_⟩
   ·omega
   ·exact ⟨by omega,ao.symm⟩
  ·have h3:j=n:=by
    have:=of_decide_eq_false h3;omega
   subst h3;conv=>whnf
   exact fin o (ho.trans (by rw [hn]; exact SW))
def Qy:Env:=En [(56,.q eE)] [(64,ck mV cL Tryz.f64),(49,ck DJ cL Tryz.f49)] [(118,uf)]
theorem acb:EnvOk Tryz.prog Qy:=bI ⟨D4,trivial⟩ ⟨wI,Kb,trivial⟩
theorem aaU:gL Tryz.prog Qy:=vE ⟨wq,trivial⟩
theorem BB:dc Tryz.prog 23 bt:=by
 refine eg acb aM Tryz.func23 (enters_of Tryz.func23 (by kernel_rfl) rfl) ?_ ?_ ?_ (hI:=aaU)
 ·intro i b hb;cases i with
  | none=>simp [bt,PL.aj] at hb
  | some i=>simp [bt,PL.aj] at hb; rw [hb]; rfl
 ·intro i b hb; simp [bt] at hb
 intro i hp;have hp:i.list.length≤1099511627776∧∀ v∈i.list,v.sz 2048:=hp;obtain ⟨hlen,aU⟩:=hp;cases i with
 | none =>
  conv=>whnf
  exact ⟨.int .i64 4,rfl,.refl _⟩
 | some i =>
  obtain ⟨L,c⟩:=i;have hlen:L.length≤1099511627776:=hlen;have aU:∀ v∈L,PV.sz 2048 v:=aU;obtain ⟨n,hn⟩:∃ n,n=L.length:=⟨_,rfl⟩;obtain ⟨g,hg⟩:∃ g,g=dq L:=⟨_,rfl⟩;have fin:∀ z:Int,bC L=z→∃ v',cQ (List.range 1) 3 (bt.val (some (L,c)))=some v'∧eZ (.int .i64 z) v':=fun z h=>⟨.int .i64 z,by rw [← h]; rfl,.refl _⟩
  rw [show bt.aj (some (L,c))=[.flat false n 6 g] from by rw [hn,hg]; rfl,show bt.args (some (L,c))=[.slice (some ⟨0,0,none⟩) n c] from by rw [hn]; rfl]
  rw [← hn] at hlen;conv=>whnf
  by_cases h1:n < 3
  ·rw [show decide ((n:Int) < 3)=true from decide_eq_true (by omega)]
   conv=>whnf
   exact fin 4 (BQ (.inl (by omega)))
  rw [show decide ((n:Int) < 3)=false from decide_eq_false (by omega)]
  conv=>whnf
  by_cases J:64 < n
  ·rw [show decide ((n:Int) > 64)=true from decide_eq_true (by omega)]
   conv=>whnf
   exact fin 4 (BQ (.inr (by omega)))
  rw [show decide ((n:Int) > 64)=false from decide_eq_false (by omega)]
  conv=>whnf
  obtain ⟨z,hz⟩:∃ z,z=dH L:=⟨_,rfl⟩;refine ⟨some (L,c),[0],by rw [show eE.args (some (L,c))=[.slice (some ⟨0,0,none⟩) n c] from by rw [hn]; rfl]; rfl,⟨by show L.length≤_; omega,aU⟩,?_⟩
  rw [show eE.aj (some (L,c))=[.flat false n 6 g] from by rw [hn,hg]; rfl,show eE.val (some (L,c))=.bool (!z) from by rw [hz]; rfl,show eE.new (some (L,c))=none from rfl]
  conv=>whnf
  refine ⟨aO.aW (fun h=>h) (fun r hr=>by rw [hg]; rfl),?_⟩
  conv=>whnf
  refine ⟨_,rfl,?_⟩;conv=>whnf
  cases z with
  | true =>
   conv=>whnf
   exact fin 1 (Nm (by omega) hz.symm)
  | false =>
   conv=>whnf
   refine ⟨⟨by decide,by omega,by omega⟩,?_⟩
   conv=>whnf
   obtain ⟨m,hm⟩:∃ m,m=n - 1:=⟨_,rfl⟩;obtain ⟨c1,vz⟩:∃ x,x=ui c (Int.toNat 1):=⟨_,rfl⟩;rw [← vz,show Int.toNat (n:Int) - Int.toNat 1=m from hm.symm,show eX 0 (Int.toNat 1)=1 from rfl]
   have qX:dH L=false:=hz.symm;have h0:=rR (L:=L) (k:=0) (by omega)
   have so:=aU _ (oW (L:=L) (k:=0) (by omega))
   have po:=ky (L:=L) (k:=0) (by omega)
   obtain ⟨o,ho⟩:∃ o,o=jd L 0:=⟨_,rfl⟩;rw [← ho] at h0 so po;rw [← hg] at h0;have qo:=PV.c9 so (by decide)
   refine .inl ⟨fun mm tz hz=>∃ (i:Nat),bA (some (.slice (some ⟨0,1,none⟩) m c1)::some (.func (.func 73) #[] #[.pointer (some ⟨1,0,none⟩)])::aB 5 (some (.int .i64 m)::some (.int .i64 i)::aB 10 [])) tz∧hz=[some (.flat false n 6 g),some (.aL true 1 [[.slice (some ⟨0,0,none⟩) n c]]),some (.aL true 1 [[.int .i64 0]])]∧m - i=mm∧(i≤m∧xA (aV L) i),.inr ⟨[0,1,2],[0,1,7,8],?_⟩,?_⟩
   ·conv=>whnf
    intro _;conv=>whnf
    refine ⟨_,0,(.aa (.aa (.sk 5 (.aa (.aa (.sk 10 .nil rfl))) rfl))),rfl,rfl,?_⟩;exact ⟨Nat.zero_le _,Kv _⟩
   rintro mm aS _ ⟨i,au,rfl,rfl,⟨hi,hU⟩⟩
   obtain ⟨az,rfl⟩:∃ az:Nat→Value,aS=.slice (some ⟨0,1,none⟩) m c1::.func (.func 73) #[] #[.pointer (some ⟨1,0,none⟩)]::zs az 2 5 (.int .i64 m::.int .i64 i::zs az 9 10 []):=bJ au;clear au;conv=>whnf
   refine aI (fun h3=>?_) (fun h3=>?_)
   ·have h3:i < m:=by
     have:=of_decide_eq_true h3;omega
    have e7:IntKind.i64.wrap ((i:Int)+1)=((i+1:Nat):Int):=by rw [ar (by omega) (by omega)]; rfl
    have ra:=rR (L:=L) (k:=i+1) (by omega)
    have sa:=aU _ (oW (L:=L) (k:=i+1) (by omega))
    have pa:=ky (L:=L) (k:=i+1) (by omega)
    obtain ⟨a,ha⟩:∃ o,o=jd L (i+1):=⟨_,rfl⟩;rw [← ha] at ra sa pa;rw [← hg] at ra;have qa:=PV.c9 sa (by decide)
    conv=>whnf
    refine ⟨⟨by omega,by omega⟩,?_⟩
    simp only [toNat_cast,ax,Nat.zero_add,Nat.add_comm 1 i];conv=>whnf
    refine ⟨by show i+1 < n; omega,?_⟩
    conv=>whnf
    rw [ra];conv=>whnf
    refine .inl ⟨4,[[],[],[1],[1,2],[0,1,2,3],[0,1,2,3,4],[0,1,2,3,4,5]],by kernel_rfl,?_⟩
    conv=>whnf
    have zG:g (Int.toNat 0)=o.cells:=h0;refine ⟨⟨by omega,by omega⟩,?_⟩
    simp only [toNat_cast,ax,Nat.zero_add];conv=>whnf
    refine ⟨by show 0 < n; omega,?_⟩
    conv=>whnf
    rw [zG];conv=>whnf
    obtain ⟨z,ez,pz⟩:=dJ (fF a.p o.p);refine ⟨(a,o),rfl,⟨PV.aJ sa (by decide),PV.aJ so (by decide)⟩,?_⟩
    rw [show pj.val (a,o)=.int .i64 z from ez]
    conv=>whnf
    rw [pa,po] at pz;by_cases h4:iK (aC (aV L) 0) (aC (aV L) (i+1))
    ·have:=NY.1 h4;rw [show decide (z≤0)=false from decide_eq_false (by omega)]
     conv=>whnf
     rw [e7];refine .inr ⟨[0,1,2],[0,1,7,8],?_⟩;conv=>whnf
     intro _;conv=>whnf
     refine ⟨_,?_,i+1,(.aa (.aa (.sk 5 (.aa (.aa (.sk 10 .nil rfl))) rfl))),rfl,rfl,?_⟩
     ·omega
     ·exact ⟨by omega,K8 hU h4⟩
    ·have:¬ 0 < fF (aC (aV L) (i+1)) (aC (aV L) 0):=fun e=>h4 (NY.2 e)
     rw [show decide (z≤0)=true from decide_eq_true (by omega)]
     conv=>whnf
     exact fin 8 (Nn (by omega) qX fun e=>h4 (e (i+1) (by omega) (by rw [dp]; omega)))
   ·have h3:i=m:=by
     have:=of_decide_eq_false h3;omega
    have oe:=LR hU (by rw [dp]; omega)
    have xY:3≤(aV L).length:=by rw [dp]; omega
    conv=>whnf
    intro yl nu fn tm df;conv=>whnf
    skip
    refine .inl ⟨fun mm tz hz=>∃ (j:Nat),bA (some (.func (.yield yl) #[] #[])::some (.pointer (some ⟨3,0,none⟩))::aB 3 (some (.slice (some ⟨0,0,none⟩) n c)::some (.int .i64 n)::some (.int .i64 j)::aB 17 [])) tz∧hz=[some (.flat false n 6 g),some (.aL true 1 [[.slice (some ⟨0,0,none⟩) n c]]),some (.aL true 1 [[.int .i64 0]]),some (.aL true 1 [[.slice (some ⟨0,0,none⟩) n c]]),some (.b9 (qR Tryz.f23 fn tm df))]∧n - j=mm∧(j≤n∧∀ k,k < j→¬ yR (aV L) k),.inr ⟨[0,1,2,3,4],[0,1,5,6,7],?_⟩,?_⟩
    ·conv=>whnf
     intro _;conv=>whnf
     refine ⟨_,0,(.aa (.aa (.sk 3 (.aa (.aa (.aa (.sk 17 .nil rfl)))) rfl))),rfl,rfl,?_⟩;exact ⟨Nat.zero_le _,fun k hk=>absurd hk (Nat.not_lt_zero k)⟩
    rintro mm aS _ ⟨j,au,rfl,rfl,⟨hj,hB⟩⟩
    obtain ⟨az,rfl⟩:∃ az:Nat→Value,aS=.func (.yield yl) #[] #[]::.pointer (some ⟨3,0,none⟩)::zs az 2 3 (.slice (some ⟨0,0,none⟩) n c::.int .i64 n::.int .i64 j::zs az 8 17 []):=bJ au;clear au;conv=>whnf
    refine aI (fun h3=>?_) (fun h3=>?_)
    ·have h3:j < n:=by
      have:=of_decide_eq_true h3;omega
     have e7:IntKind.i64.wrap ((j:Int)+1)=((j+1:Nat):Int):=by rw [ar (by omega) (by omega)]; rfl
     obtain ⟨a,b,ra,rb,⟨ma,mb⟩,_,cD,ha,hb⟩:=tN hn h3;have sa:=aU a ma;have sb:=aU b mb;have cR:=lQ h3 (by omega)
     obtain ⟨u,hu⟩:∃ u,u=bg n j:=⟨_,rfl⟩;rw [← hu] at cR cD rb;rw [← hg] at ra rb;conv=>whnf
     refine ⟨⟨by omega,by omega⟩,?_⟩
     simp only [toNat_cast,ax,Nat.zero_add];conv=>whnf
     refine ⟨by show j < n; omega,?_⟩
     conv=>whnf
     rw [ra];conv=>whnf
     refine .inl ⟨10,[[],[],[],[],[3],[],[5],[3,4,5,6],[2,3,4,5,6,7],[2,3,4,5,6,7,8],[0,1,2,3,4,5,6,7,8,9],[0,1,2,3,4,5,6,7,8,9,10]],by kernel_rfl,?_⟩
     conv=>whnf
     rw [show decide ((n:Int)≠0)=true from decide_eq_true (by omega)]
     conv=>whnf
     rw [cR];refine ⟨⟨by omega,by omega⟩,?_⟩
     simp only [toNat_cast,ax,Nat.zero_add];conv=>whnf
     refine ⟨by show u < n; omega,?_⟩
     conv=>whnf
     rw [rb];conv=>whnf
     refine ⟨rfl,?_⟩;conv=>whnf
     refine ⟨rfl,?_⟩;conv=>whnf
     refine ⟨rfl,?_⟩;conv=>whnf
     refine .inl ⟨fun mm tz hz=>∃ (i:Nat),bA (some (.slice (some ⟨0,0,none⟩) n c)::some (.func (.func 75) #[] #[.pointer (some ⟨16,0,none⟩),.pointer (some ⟨17,0,none⟩)])::aB 5 (some (.int .i64 n)::some (.int .i64 i)::aB 10 [])) tz∧hz=[some (.flat false n 6 g),some (.aL true 1 [[.slice (some ⟨0,0,none⟩) n c]]),some (.aL true 1 [[.int .i64 0]]),some (.aL true 1 [[.slice (some ⟨0,0,none⟩) n c]]),some (.b9 { qR Tryz.f23 fn tm df with state:=.busy }),some (.aL true 6 [a.cells]),none,none,none,none,none,none,none,none,none,none,some (.aL true 6 [a.cells]),some (.aL true 6 [b.cells])]∧n - i=mm∧(i≤n∧nY (sT a b) L i),.inr ⟨[0,1,2,3,4,5,6,7,8,9,10,11,12,13,14,15,16,17],[0,1,7,8],?_⟩,?_⟩
     ·conv=>whnf
      intro _;conv=>whnf
      refine ⟨_,0,(.aa (.aa (.sk 5 (.aa (.aa (.sk 10 .nil rfl))) rfl))),rfl,rfl,?_⟩;exact ⟨Nat.zero_le _,D3 _ _⟩
     rintro mm aS _ ⟨i,au,rfl,rfl,⟨hi,hU⟩⟩
     obtain ⟨az,rfl⟩:∃ az:Nat→Value,aS=.slice (some ⟨0,0,none⟩) n c::.func (.func 75) #[] #[.pointer (some ⟨16,0,none⟩),.pointer (some ⟨17,0,none⟩)]::zs az 2 5 (.int .i64 n::.int .i64 i::zs az 9 10 []):=bJ au;clear au;conv=>whnf
     refine aI (fun h4=>?_) (fun h4=>?_)
     ·have h4:i < n:=by
       have:=of_decide_eq_true h4;omega
      have e8:IntKind.i64.wrap ((i:Int)+1)=((i+1:Nat):Int):=by rw [ar (by omega) (by omega)]; rfl
      obtain ⟨p,lG,vA,aX⟩:=rO (l:=L) (i:=i) (by omega)
      rw [← hg] at aX;conv=>whnf
      refine ⟨⟨by omega,by omega⟩,?_⟩
      simp only [toNat_cast,ax,Nat.zero_add];conv=>whnf
      refine ⟨by show i < n; omega,?_⟩
      conv=>whnf
      rw [aX];conv=>whnf
      obtain ⟨z,hz⟩:∃ z,z=sT a b p:=⟨_,rfl⟩;refine ⟨(a,b,p),[16,17],rfl,⟨sa,sb,aU p vA⟩,?_⟩;rw [show sH.aj (a,b,p)=[.flat false 1 6 (fun _=>a.cells),.flat false 1 6 (fun _=>b.cells)] from rfl,show sH.val (a,b,p)=.bool z from by rw [hz]; rfl,show sH.new (a,b,p)=none from rfl]
      conv=>whnf
      refine ⟨Nj a,Nj b,?_⟩;conv=>whnf
      refine ⟨_,rfl,?_⟩;conv=>whnf
      cases z with
      | false =>
       conv=>whnf
       rw [e8];refine .inr ⟨[0,1,2,3,4,5,6,7,8,9,10,11,12,13,14,15,16,17],[0,1,7,8],?_⟩;conv=>whnf
       intro _;conv=>whnf
       refine ⟨_,?_,i+1,(.aa (.aa (.sk 5 (.aa (.aa (.sk 10 .nil rfl))) rfl))),rfl,rfl,?_⟩
       ·omega
       ·exact ⟨by omega,tG hU lG hz.symm⟩
      | true =>
       conv=>whnf
       refine ⟨rfl,?_⟩;conv=>whnf
       exact fin 15 (Gj (by omega) qX oe fun e=>(My xY oe).1 e j (by rw [dp]; omega) (WB qX (by omega) ha (hb.trans (by rw [hn])) vA hz.symm))
     ·have h4:i=n:=by
       have:=of_decide_eq_false h4;omega
      subst h4;conv=>whnf
      refine ⟨rfl,?_⟩;conv=>whnf
      rw [e7];refine .inr ⟨[0,1,2,3,4],[0,1,5,6,7],?_⟩;conv=>whnf
      intro _;conv=>whnf
      refine ⟨_,?_,j+1,(.aa (.aa (.sk 3 (.aa (.aa (.aa (.sk 17 .nil rfl)))) rfl))),rfl,rfl,?_⟩
      ·omega
      ·refine ⟨by omega,fun k hk=>?_⟩
       rcases Nat.lt_or_eq_of_le (Nat.le_of_lt_succ hk) with e | e
       ·exact hB k e
       ·subst e;exact Zr (by omega) ha (hb.trans (by rw [hn])) (EE (by rw [← hn]; exact hU))
    ·have h3:j=n:=by
      have:=of_decide_eq_false h3;omega
     subst h3;conv=>whnf
     exact fin 0 (MB (by omega) qX oe ((My xY oe).2 fun k hk=>hB k (by rw [dp] at hk; omega)))
open Go Go.Ae
def Ew1:Env:=En [(23,.q bt),(56,.q eE),(67,.q nc)]
theorem acd:EnvOk Tryz.prog Ew1:=bI ⟨BB,D4,YG,trivial⟩ trivial
theorem Uo:dc Tryz.prog 19 kT:=by
 refine eg acd aM Tryz.func19 (enters_of Tryz.func19 (by kernel_rfl) rfl) ?_ ?_ ?_
 ·intro ⟨i,_⟩ b hb;cases i with
  | none=>simp [kT,PL.aj] at hb
  | some i=>simp [kT,PL.aj] at hb; rw [hb]; rfl
 ·intro i b hb; simp [kT] at hb
 intro ⟨i,p⟩ hp;have hp:(i.list.length≤1099511627776∧∀ v∈i.list,v.sz 2048)∧p.sz 2048:=hp;obtain ⟨⟨hlen,aU⟩,sp⟩:=hp;cases i with
 | none =>
  conv=>whnf
  refine ⟨none,[],rfl,⟨Nat.zero_le _,fun v hv=>nomatch hv⟩,?_⟩
  rw [show bt.aj none=[] from rfl,show bt.val none=.int .i64 4 from rfl,show bt.new none=none from rfl]
  conv=>whnf
  refine ⟨_,rfl,?_⟩;conv=>whnf
  exact ⟨_,rfl,.refl _⟩
 | some i =>
  obtain ⟨L,c⟩:=i;have hlen:L.length≤1099511627776:=hlen;have aU:∀ v∈L,PV.sz 2048 v:=aU;obtain ⟨n,hn⟩:∃ n,n=L.length:=⟨_,rfl⟩;obtain ⟨g,hg⟩:∃ g,g=dq L:=⟨_,rfl⟩;have fin:∀ z e:Int,qV L p=(z,e)→∃ v',cQ (List.range 1) 3 (kT.val (some (L,c),p))=some v'∧eZ (.tuple ⟨[.int .i64 z,.int .i64 e]⟩) v':=fun z e h=>⟨_,by
   rw [show kT.val (some (L,c),p)=ZE.v (qV L p) from rfl,h]; rfl,.refl _⟩
  rw [show kT.aj (some (L,c),p)=[.flat false n 6 g] from by rw [hn,hg]; rfl,show kT.args (some (L,c),p)=[.slice (some ⟨0,0,none⟩) n c,p.v] from by rw [hn]; rfl]
  rw [← hn] at hlen;conv=>whnf
  refine ⟨some (L,c),[0],by rw [show bt.args (some (L,c))=[.slice (some ⟨0,0,none⟩) n c] from by rw [hn]; rfl]; rfl,⟨by show L.length≤_; omega,aU⟩,?_⟩
  rw [show bt.aj (some (L,c))=[.flat false n 6 g] from by rw [hn,hg]; rfl,show bt.val (some (L,c))=.int .i64 (bC L) from rfl,show bt.new (some (L,c))=none from rfl]
  conv=>whnf
  refine ⟨aO.aW (fun h=>h) (fun r hr=>by rw [hg]; rfl),?_⟩
  conv=>whnf
  refine ⟨_,rfl,?_⟩;obtain ⟨e,he⟩:∃ z,z=bC L:=⟨_,rfl⟩;rw [← he];conv=>whnf
  by_cases h1:e=0
  ·rw [show (e != 0)=false from by simp [h1]]
   conv=>whnf
   refine ⟨some ([p],1),[2],rfl,⟨by show 1≤1099511627776; decide,(fun v hv=>by rw [List.mem_singleton.1 hv]; exact sp)⟩,?_⟩
   rw [show eE.aj (some ([p],1))=[.flat false 1 6 (dq [p])] from rfl,show eE.val (some ([p],1))=.bool (!dH [p]) from rfl,show eE.new (some ([p],1))=none from rfl]
   conv=>whnf
   refine ⟨Nh [p],?_⟩;conv=>whnf
   refine ⟨_,rfl,?_⟩;obtain ⟨r,hr⟩:∃ z,z=dH [p]:=⟨_,rfl⟩;rw [← hr];conv=>whnf
   cases r with
   | true =>
    conv=>whnf
    exact fin 0 1 (NZ fun h=>adp hr h.2)
   | false =>
    conv=>whnf
    obtain ⟨w,hw⟩:∃ w,w=fe (aV L) p.p:=⟨_,rfl⟩;refine ⟨(some (L,c),p),[0],by rw [show nc.args (some (L,c),p)=[.slice (some ⟨0,0,none⟩) n c,p.v] from by rw [hn]; rfl]; rfl,⟨⟨by show L.length≤_; omega,aU⟩,sp⟩,?_⟩
    rw [show nc.aj (some (L,c),p)=[.flat false n 6 g] from by rw [hn,hg]; rfl,show nc.val (some (L,c),p)=.int .i64 w from by rw [hw]; rfl,show nc.new (some (L,c),p)=none from rfl]
    conv=>whnf
    refine ⟨aO.aW (fun h=>h) (fun r hr=>by rw [hg]; rfl),?_⟩
    conv=>whnf
    refine ⟨_,rfl,?_⟩;conv=>whnf
    exact fin w 0 (by rw [hw]; exact No ⟨by rw [← he]; exact h1,abG hr⟩)
  ·rw [show (e != 0)=true from by simp [h1]]
   conv=>whnf
   exact fin 0 1 (NZ fun h=>h1 (by rw [he]; exact h.1))
open Go Go.Ae
theorem aaV:bf Tryz.prog 110 u6:=by
 refine bk qK aM Tryz.func110 (enters_of Tryz.func110 (by kernel_rfl) rfl) (fun _=>rfl) (fun _=>rfl) ?_
 intro ⟨a,b,p⟩ hp;conv=>whnf
 rw [C2 b p];by_cases h:b=p
 ·rw [decide_eq_true h,show u6.val (a,b,p)=.bool false from congrArg Value.bool (decide_eq_false fun e=>e h)]; rfl
 ·rw [decide_eq_false h,show u6.val (a,b,p)=.bool true from congrArg Value.bool (decide_eq_true h)]; rfl
theorem aaW:bf Tryz.prog 111 u7:=by
 refine bk qK aM Tryz.func111 (enters_of Tryz.func111 (by kernel_rfl) rfl) (fun _=>rfl) (fun _=>rfl) ?_
 intro ⟨a,b,p⟩ hp;have hp:a.sz 1048576∧b.sz 1048576∧p.sz 1048576:=hp;obtain ⟨sa,sb,sp⟩:=hp;conv=>whnf
 obtain ⟨z,ez,pz⟩:=dJ (aN (an a.p b.p p.p) 0);refine ⟨(a,b,p),rfl,⟨PV.aJ sa (by decide),PV.aJ sb (by decide),PV.aJ sp (by decide)⟩,?_⟩
 rw [show mw.val (a,b,p)=.int .i64 z from ez]
 conv=>whnf
 by_cases h:z=0
 ·rw [show u7.val (a,b,p)=.bool false from congrArg Value.bool (decide_eq_false fun e=>e (by rw [← pz]; exact h)),show (z != 0)=false from by simp [h]]
 ·rw [show u7.val (a,b,p)=.bool true from congrArg Value.bool (decide_eq_true (by rw [← pz]; exact h)),show (z != 0)=true from by simp [h]]
def Ex1:Env:=En [(110,.p u6),(111,.p u7)]
theorem ace:EnvOk Tryz.prog Ex1:=bI ⟨aaV,aaW,trivial⟩ trivial
theorem YH:dc Tryz.prog 109 (kz 110 111):=by
 refine eg ace aM Tryz.func109 (enters_of Tryz.func109 (by kernel_rfl) rfl) ?_ ?_ ?_
 ·intro ⟨i,b⟩ B hb;cases i with
  | none=>simp [kz,QL.aj] at hb
  | some i=>simp [kz,QL.aj] at hb; rw [hb]; rfl
 ·intro i B hb;exact Bw hb
 intro ⟨i,b⟩ hp;have hp:i.list.length≤549755813888∧∀ v∈i.list,Q2.sz 262144 v:=hp;obtain ⟨hlen,aU⟩:=hp;cases i with
 | none =>
  cases b <;> (conv=>whnf) <;> refine .inr ⟨1,?_⟩ <;> (conv=>whnf) <;> exact ⟨_,rfl,.refl _⟩
 | some i =>
  obtain ⟨L,c⟩:=i;have hlen:L.length≤549755813888:=hlen;have aU:∀ v∈L,Q2.sz 262144 v:=aU;obtain ⟨n,hn⟩:∃ n,n=L.length:=⟨_,rfl⟩;obtain ⟨g,hg⟩:∃ g,g=bW L:=⟨_,rfl⟩;cases b with
  | false =>
   rw [show (kz 110 111).aj (some (L,c),false)=[.flat false n 6 g] from by rw [hn,hg]; rfl,show (kz 110 111).args (some (L,c),false)=[.slice (some ⟨0,0,none⟩) n c,.func (.func 110) #[] #[]] from by rw [hn]; rfl]
   rw [← hn] at hlen;conv=>whnf
   refine .inl ⟨fun mm tz hz=>∃ (j:Nat) (O:List Q2) (q:Nat) (F:Nat→List Value),bA (some (.slice (some ⟨0,0,none⟩) n c)::some (.func (.func 110) #[] #[])::aB 3 (some (eK 1 q)::aB 2 (some (.slice (some ⟨0,0,none⟩) n c)::some (.int .i64 n)::some (.int .i64 j)::aB 32 []))) tz∧hz=[some (.flat false n 6 g)]++zu 6 F q∧n - j=mm∧((j≤n∧q=O.length)∧O=qJ L j∧(∀ r,r < q→F r=bW O r)),.inr ⟨[0],[0,1,5,8,9,10],?_⟩,?_⟩
   ·conv=>whnf
    intro _;conv=>whnf
    refine ⟨_,0,[],0,fun _=>[],(.aa (.aa (.sk 3 (.aa (.sk 2 (.aa (.aa (.aa (.sk 32 .nil rfl)))) rfl)) rfl))),rfl,rfl,?_⟩
    exact ⟨⟨Nat.zero_le _,rfl⟩,rfl,fun r hr=>absurd hr (Nat.not_lt_zero r)⟩
   rintro mm aS _ ⟨j,O,q,F,au,rfl,rfl,⟨⟨hj,hq⟩,hO,hF⟩⟩
   obtain ⟨az,rfl⟩:∃ az:Nat→Value,aS=.slice (some ⟨0,0,none⟩) n c::.func (.func 110) #[] #[]::zs az 2 3 (eK 1 q::zs az 6 2 (.slice (some ⟨0,0,none⟩) n c::.int .i64 n::.int .i64 j::zs az 11 32 [])):=bJ au;clear au;have tA:=Vw L j;rw [← hO,← hq] at tA;cases q with
   | zero =>
    obtain rfl:O=[]:=List.eq_nil_of_length_eq_zero hq.symm;conv=>whnf
    refine aI (fun h1=>?_) (fun h1=>?_)
    ·have h1:j < n:=by
      have:=of_decide_eq_true h1;omega
     have e7:IntKind.i64.wrap ((j:Int)+1)=((j+1:Nat):Int):=by rw [ar (by omega) (by omega)]; rfl
     obtain ⟨a,ca,ra,pa,sa,qa⟩:=ib (L:=L) (k:=eJ n j) (by rw [← hn]; exact kt h1) aU
     obtain ⟨b,cb,rb,pb,sb,qb⟩:=ib (L:=L) (k:=j) (by omega) aU
     obtain ⟨d,cd,rd,pd,sd,qd⟩:=ib (L:=L) (k:=bg n j) (by rw [← hn]; exact cV h1) aU
     rw [← hg] at ra rb rd;have mi:=CC h1 (by omega)
     have cR:=lQ h1 (by omega)
     have lG:eJ n j < n:=kt h1;have cD:=cV h1;obtain ⟨u,hu⟩:∃ u,u=eJ n j:=⟨_,rfl⟩;obtain ⟨w,hw⟩:∃ u,u=bg n j:=⟨_,rfl⟩;rw [← hu] at mi lG ra;rw [← hw] at cR cD rd;conv=>whnf
     refine ⟨⟨by omega,by omega⟩,?_⟩
     simp only [toNat_cast,ax,Nat.zero_add];conv=>whnf
     refine ⟨by show j < n; omega,?_⟩
     conv=>whnf
     rw [rb];conv=>whnf
     refine .inl ⟨21,[[],[],[],[],[3],[2,3,4],[2,3,4,5],[],[7],[2,3,4,5,6,7,8],[1,2,3,4,5,6,7,8,9],[1,2,3,4,5,6,7,8,9,10],[],[],[],[14],[],[16],[14,15,16,17],[13,14,15,16,17,18],[13,14,15,16,17,18,19],[0,1,2,3,4,5,6,7,8,9,10,11,12,13,14,15,16,17,18,19,20]],by kernel_rfl,?_⟩
     conv=>whnf
     rw [show decide ((n:Int)≠0)=true from decide_eq_true (by omega)]
     conv=>whnf
     rw [mi];refine ⟨⟨by omega,by omega⟩,?_⟩
     simp only [toNat_cast,ax,Nat.zero_add];conv=>whnf
     refine ⟨by show u < n; omega,?_⟩
     conv=>whnf
     rw [ra];conv=>whnf
     rw [show decide ((n:Int)≠0)=true from decide_eq_true (by omega)]
     conv=>whnf
     rw [cR];refine ⟨⟨by omega,by omega⟩,?_⟩
     simp only [toNat_cast,ax,Nat.zero_add];conv=>whnf
     refine ⟨by show w < n; omega,?_⟩
     conv=>whnf
     rw [rd];conv=>whnf
     obtain ⟨z,hz,ao⟩:=MC hn h1 pa cb cd;rw [← hO] at ao;refine ⟨(a,b,d),rfl,⟨PV.aJ sa (by decide),PV.aJ sb (by decide),PV.aJ sd (by decide)⟩,?_⟩
     rw [show u6.val (a,b,d)=.bool z from hz]
     conv=>whnf
     cases z with
     | false =>
      conv=>whnf
      rw [e7];refine .inr ⟨[0],[0,1,5,8,9,10],?_⟩;conv=>whnf
      intro _;conv=>whnf
      refine ⟨_,?_,j+1,[],0,F,(.aa (.aa (.sk 3 (.aa (.sk 2 (.aa (.aa (.aa (.sk 32 .nil rfl)))) rfl)) rfl))),rfl,rfl,?_⟩
      ·omega
      ·exact ⟨⟨by omega,rfl⟩,by rw [ao]; rfl,hF⟩
     | true =>
      conv=>whnf
      refine ⟨by show (0+1)*80≤140737488355328; decide,?_⟩
      conv=>whnf
      rw [e7];refine .inr ⟨[0,24],[0,1,5,8,9,10],?_⟩;conv=>whnf
      intro _;conv=>whnf
      refine ⟨_,?_,j+1,[aC L j],1,_,(.aa (.aa (.sk 3 (.aa (.sk 2 (.aa (.aa (.aa (.sk 32 .nil rfl)))) rfl)) rfl))),rfl,rfl,?_⟩
      ·omega
      ·exact ⟨⟨by omega,rfl⟩,by rw [ao]; rfl,wH cb rfl⟩
    ·have h1:j=n:=by
      have:=of_decide_eq_false h1;omega
     subst h1;have hE:gC L=[]:=by rw [hO,hn]; exact (LS L).symm
     conv=>whnf
     rw [show (kz 110 111).new (some (L,c),false)=none from by show cX (gC L)=none; rw [hE]; rfl]
     exact ⟨.slice none 0 0,by rw [show (kz 110 111).val (some (L,c),false)=.slice none 0 0 from by show eK _ (gC L).length=_; rw [hE]; rfl]; rfl,.refl _⟩
   | succ q =>
    conv=>whnf
    refine aI (fun h1=>?_) (fun h1=>?_)
    ·have h1:j < n:=by
      have:=of_decide_eq_true h1;omega
     have e7:IntKind.i64.wrap ((j:Int)+1)=((j+1:Nat):Int):=by rw [ar (by omega) (by omega)]; rfl
     obtain ⟨a,ca,ra,pa,sa,qa⟩:=ib (L:=L) (k:=eJ n j) (by rw [← hn]; exact kt h1) aU
     obtain ⟨b,cb,rb,pb,sb,qb⟩:=ib (L:=L) (k:=j) (by omega) aU
     obtain ⟨d,cd,rd,pd,sd,qd⟩:=ib (L:=L) (k:=bg n j) (by rw [← hn]; exact cV h1) aU
     rw [← hg] at ra rb rd;have mi:=CC h1 (by omega)
     have cR:=lQ h1 (by omega)
     have lG:eJ n j < n:=kt h1;have cD:=cV h1;obtain ⟨u,hu⟩:∃ u,u=eJ n j:=⟨_,rfl⟩;obtain ⟨w,hw⟩:∃ u,u=bg n j:=⟨_,rfl⟩;rw [← hu] at mi lG ra;rw [← hw] at cR cD rd;conv=>whnf
     refine ⟨⟨by omega,by omega⟩,?_⟩
     simp only [toNat_cast,ax,Nat.zero_add];conv=>whnf
     refine ⟨by show j < n; omega,?_⟩
     conv=>whnf
     rw [rb];conv=>whnf
     refine .inl ⟨21,[[],[],[],[],[3],[2,3,4],[2,3,4,5],[],[7],[2,3,4,5,6,7,8],[1,2,3,4,5,6,7,8,9],[1,2,3,4,5,6,7,8,9,10],[],[],[],[14],[],[16],[14,15,16,17],[13,14,15,16,17,18],[13,14,15,16,17,18,19],[0,1,2,3,4,5,6,7,8,9,10,11,12,13,14,15,16,17,18,19,20]],by kernel_rfl,?_⟩
     conv=>whnf
     rw [show decide ((n:Int)≠0)=true from decide_eq_true (by omega)]
     conv=>whnf
     rw [mi];refine ⟨⟨by omega,by omega⟩,?_⟩
     simp only [toNat_cast,ax,Nat.zero_add];conv=>whnf
     refine ⟨by show u < n; omega,?_⟩
     conv=>whnf
     rw [ra];conv=>whnf
     rw [show decide ((n:Int)≠0)=true from decide_eq_true (by omega)]
     conv=>whnf
     rw [cR];refine ⟨⟨by omega,by omega⟩,?_⟩
     simp only [toNat_cast,ax,Nat.zero_add];conv=>whnf
     refine ⟨by show w < n; omega,?_⟩
     conv=>whnf
     rw [rd];conv=>whnf
     obtain ⟨z,hz,ao⟩:=MC hn h1 pa cb cd;rw [← hO] at ao;refine ⟨(a,b,d),rfl,⟨PV.aJ sa (by decide),PV.aJ sb (by decide),PV.aJ sd (by decide)⟩,?_⟩
     rw [show u6.val (a,b,d)=.bool z from hz]
     conv=>whnf
     cases z with
     | false =>
      conv=>whnf
      rw [e7];refine .inr ⟨[0,1],[0,1,5,8,9,10],?_⟩;conv=>whnf
      intro _;conv=>whnf
      refine ⟨_,?_,j+1,O,q+1,F,(.aa (.aa (.sk 3 (.aa (.sk 2 (.aa (.aa (.aa (.sk 32 .nil rfl)))) rfl)) rfl))),rfl,rfl,?_⟩
      ·omega
      ·exact ⟨⟨by omega,hq⟩,by rw [ao]; simp,hF⟩
     | true =>
      conv=>whnf
      refine ⟨⟨by show 1≤1; decide,rfl,by show (q+1+1)*80≤140737488355328; omega⟩,?_⟩
      conv=>whnf
      refine ⟨[0,1,8,9,10],?_⟩;conv=>whnf
      intro _;conv=>whnf
      rw [e7];refine .inr ⟨[0,1],[0,1,5,8,9,10],?_⟩;conv=>whnf
      intro _;conv=>whnf
      refine ⟨_,?_,j+1,O++[aC L j],q+1+1,_,(.aa (.aa (.sk 3 (.aa (.sk 2 (.aa (.aa (.aa (.sk 32 .nil rfl)))) rfl)) rfl))),rfl,rfl,?_⟩
      ·omega
      ·exact ⟨⟨by omega,by rw [List.length_append,← hq]; rfl⟩,by rw [ao]; simp,rV hq hF cb rfl⟩
    ·have h1:j=n:=by
      have:=of_decide_eq_false h1;omega
     subst h1;have hE:gC L=O:=by rw [hO,hn]; exact (LS L).symm
     conv=>whnf
     rw [show (kz 110 111).new (some (L,c),false)=some (.flat true (q+1) 6 (bW O)) from by show cX (gC L)=_; rw [hE]; unfold cX; rw [← hq],show (kz 110 111).val (some (L,c),false)=.slice (some ⟨1,0,none⟩) (q+1) aK from by show eK _ (gC L).length=_; rw [hE,← hq]; rfl]
     refine ⟨1,?_⟩;conv=>whnf
     exact ⟨⟨rfl,aO.rP (fun h=>h) hF (fun r hr=>rfl)⟩,_,rfl,.refl _⟩
  | true =>
   rw [show (kz 110 111).aj (some (L,c),true)=[.flat false n 6 g] from by rw [hn,hg]; rfl,show (kz 110 111).args (some (L,c),true)=[.slice (some ⟨0,0,none⟩) n c,.func (.func 111) #[] #[]] from by rw [hn]; rfl]
   rw [← hn] at hlen;conv=>whnf
   refine .inl ⟨fun mm tz hz=>∃ (j:Nat) (O:List Q2) (q:Nat) (F:Nat→List Value),bA (some (.slice (some ⟨0,0,none⟩) n c)::some (.func (.func 111) #[] #[])::aB 3 (some (eK 1 q)::aB 2 (some (.slice (some ⟨0,0,none⟩) n c)::some (.int .i64 n)::some (.int .i64 j)::aB 32 []))) tz∧hz=[some (.flat false n 6 g)]++zu 6 F q∧n - j=mm∧((j≤n∧q=O.length)∧O=sJ L j∧(∀ r,r < q→F r=bW O r)),.inr ⟨[0],[0,1,5,8,9,10],?_⟩,?_⟩
   ·conv=>whnf
    intro _;conv=>whnf
    refine ⟨_,0,[],0,fun _=>[],(.aa (.aa (.sk 3 (.aa (.sk 2 (.aa (.aa (.aa (.sk 32 .nil rfl)))) rfl)) rfl))),rfl,rfl,?_⟩
    exact ⟨⟨Nat.zero_le _,rfl⟩,rfl,fun r hr=>absurd hr (Nat.not_lt_zero r)⟩
   rintro mm aS _ ⟨j,O,q,F,au,rfl,rfl,⟨⟨hj,hq⟩,hO,hF⟩⟩
   obtain ⟨az,rfl⟩:∃ az:Nat→Value,aS=.slice (some ⟨0,0,none⟩) n c::.func (.func 111) #[] #[]::zs az 2 3 (eK 1 q::zs az 6 2 (.slice (some ⟨0,0,none⟩) n c::.int .i64 n::.int .i64 j::zs az 11 32 [])):=bJ au;clear au;have tA:=Vx L j;rw [← hO,← hq] at tA;cases q with
   | zero =>
    obtain rfl:O=[]:=List.eq_nil_of_length_eq_zero hq.symm;conv=>whnf
    refine aI (fun h1=>?_) (fun h1=>?_)
    ·have h1:j < n:=by
      have:=of_decide_eq_true h1;omega
     have e7:IntKind.i64.wrap ((j:Int)+1)=((j+1:Nat):Int):=by rw [ar (by omega) (by omega)]; rfl
     obtain ⟨a,ca,ra,pa,sa,qa⟩:=ib (L:=L) (k:=eJ n j) (by rw [← hn]; exact kt h1) aU
     obtain ⟨b,cb,rb,pb,sb,qb⟩:=ib (L:=L) (k:=j) (by omega) aU
     obtain ⟨d,cd,rd,pd,sd,qd⟩:=ib (L:=L) (k:=bg n j) (by rw [← hn]; exact cV h1) aU
     rw [← hg] at ra rb rd;have mi:=CC h1 (by omega)
     have cR:=lQ h1 (by omega)
     have lG:eJ n j < n:=kt h1;have cD:=cV h1;obtain ⟨u,hu⟩:∃ u,u=eJ n j:=⟨_,rfl⟩;obtain ⟨w,hw⟩:∃ u,u=bg n j:=⟨_,rfl⟩;rw [← hu] at mi lG ra;rw [← hw] at cR cD rd;conv=>whnf
     refine ⟨⟨by omega,by omega⟩,?_⟩
     simp only [toNat_cast,ax,Nat.zero_add];conv=>whnf
     refine ⟨by show j < n; omega,?_⟩
     conv=>whnf
     rw [rb];conv=>whnf
     refine .inl ⟨21,[[],[],[],[],[3],[2,3,4],[2,3,4,5],[],[7],[2,3,4,5,6,7,8],[1,2,3,4,5,6,7,8,9],[1,2,3,4,5,6,7,8,9,10],[],[],[],[14],[],[16],[14,15,16,17],[13,14,15,16,17,18],[13,14,15,16,17,18,19],[0,1,2,3,4,5,6,7,8,9,10,11,12,13,14,15,16,17,18,19,20]],by kernel_rfl,?_⟩
     conv=>whnf
     rw [show decide ((n:Int)≠0)=true from decide_eq_true (by omega)]
     conv=>whnf
     rw [mi];refine ⟨⟨by omega,by omega⟩,?_⟩
     simp only [toNat_cast,ax,Nat.zero_add];conv=>whnf
     refine ⟨by show u < n; omega,?_⟩
     conv=>whnf
     rw [ra];conv=>whnf
     rw [show decide ((n:Int)≠0)=true from decide_eq_true (by omega)]
     conv=>whnf
     rw [cR];refine ⟨⟨by omega,by omega⟩,?_⟩
     simp only [toNat_cast,ax,Nat.zero_add];conv=>whnf
     refine ⟨by show w < n; omega,?_⟩
     conv=>whnf
     rw [rd];conv=>whnf
     obtain ⟨z,hz,ao⟩:=MD hn h1 pa cb cd;rw [← hO] at ao;refine ⟨(a,b,d),rfl,⟨PV.aJ sa (by decide),PV.aJ sb (by decide),PV.aJ sd (by decide)⟩,?_⟩
     rw [show u7.val (a,b,d)=.bool z from hz]
     conv=>whnf
     cases z with
     | false =>
      conv=>whnf
      rw [e7];refine .inr ⟨[0],[0,1,5,8,9,10],?_⟩;conv=>whnf
      intro _;conv=>whnf
      refine ⟨_,?_,j+1,[],0,F,(.aa (.aa (.sk 3 (.aa (.sk 2 (.aa (.aa (.aa (.sk 32 .nil rfl)))) rfl)) rfl))),rfl,rfl,?_⟩
      ·omega
      ·exact ⟨⟨by omega,rfl⟩,by rw [ao]; rfl,hF⟩
     | true =>
      conv=>whnf
      refine ⟨by show (0+1)*80≤140737488355328; decide,?_⟩
      conv=>whnf
      rw [e7];refine .inr ⟨[0,24],[0,1,5,8,9,10],?_⟩;conv=>whnf
      intro _;conv=>whnf
      refine ⟨_,?_,j+1,[aC L j],1,_,(.aa (.aa (.sk 3 (.aa (.sk 2 (.aa (.aa (.aa (.sk 32 .nil rfl)))) rfl)) rfl))),rfl,rfl,?_⟩
      ·omega
      ·exact ⟨⟨by omega,rfl⟩,by rw [ao]; rfl,wH cb rfl⟩
    ·have h1:j=n:=by
      have:=of_decide_eq_false h1;omega
     subst h1;have hE:jO L=[]:=by rw [hO,hn]; exact (LU L).symm
     conv=>whnf
     rw [show (kz 110 111).new (some (L,c),true)=none from by show cX (jO L)=none; rw [hE]; rfl]
     exact ⟨.slice none 0 0,by rw [show (kz 110 111).val (some (L,c),true)=.slice none 0 0 from by show eK _ (jO L).length=_; rw [hE]; rfl]; rfl,.refl _⟩
   | succ q =>
    conv=>whnf
    refine aI (fun h1=>?_) (fun h1=>?_)
    ·have h1:j < n:=by
      have:=of_decide_eq_true h1;omega
     have e7:IntKind.i64.wrap ((j:Int)+1)=((j+1:Nat):Int):=by rw [ar (by omega) (by omega)]; rfl
     obtain ⟨a,ca,ra,pa,sa,qa⟩:=ib (L:=L) (k:=eJ n j) (by rw [← hn]; exact kt h1) aU
     obtain ⟨b,cb,rb,pb,sb,qb⟩:=ib (L:=L) (k:=j) (by omega) aU
     obtain ⟨d,cd,rd,pd,sd,qd⟩:=ib (L:=L) (k:=bg n j) (by rw [← hn]; exact cV h1) aU
     rw [← hg] at ra rb rd;have mi:=CC h1 (by omega)
     have cR:=lQ h1 (by omega)
     have lG:eJ n j < n:=kt h1;have cD:=cV h1;obtain ⟨u,hu⟩:∃ u,u=eJ n j:=⟨_,rfl⟩;obtain ⟨w,hw⟩:∃ u,u=bg n j:=⟨_,rfl⟩;rw [← hu] at mi lG ra;rw [← hw] at cR cD rd;conv=>whnf
     refine ⟨⟨by omega,by omega⟩,?_⟩
     simp only [toNat_cast,ax,Nat.zero_add];conv=>whnf
     refine ⟨by show j < n; omega,?_⟩
     conv=>whnf
     rw [rb];conv=>whnf
     refine .inl ⟨21,[[],[],[],[],[3],[2,3,4],[2,3,4,5],[],[7],[2,3,4,5,6,7,8],[1,2,3,4,5,6,7,8,9],[1,2,3,4,5,6,7,8,9,10],[],[],[],[14],[],[16],[14,15,16,17],[13,14,15,16,17,18],[13,14,15,16,17,18,19],[0,1,2,3,4,5,6,7,8,9,10,11,12,13,14,15,16,17,18,19,20]],by kernel_rfl,?_⟩
     conv=>whnf
     rw [show decide ((n:Int)≠0)=true from decide_eq_true (by omega)]
     conv=>whnf
     rw [mi];refine ⟨⟨by omega,by omega⟩,?_⟩
     simp only [toNat_cast,ax,Nat.zero_add];conv=>whnf
     refine ⟨by show u < n; omega,?_⟩
     conv=>whnf
     rw [ra];conv=>whnf
     rw [show decide ((n:Int)≠0)=true from decide_eq_true (by omega)]
     conv=>whnf
     rw [cR];refine ⟨⟨by omega,by omega⟩,?_⟩
     simp only [toNat_cast,ax,Nat.zero_add];conv=>whnf
     refine ⟨by show w < n; omega,?_⟩
     conv=>whnf
     rw [rd];conv=>whnf
     obtain ⟨z,hz,ao⟩:=MD hn h1 pa cb cd;rw [← hO] at ao;refine ⟨(a,b,d),rfl,⟨PV.aJ sa (by decide),PV.aJ sb (by decide),PV.aJ sd (by decide)⟩,?_⟩
     rw [show u7.val (a,b,d)=.bool z from hz]
     conv=>whnf
     cases z with
     | false =>
      conv=>whnf
      rw [e7];refine .inr ⟨[0,1],[0,1,5,8,9,10],?_⟩;conv=>whnf
      intro _;conv=>whnf
      refine ⟨_,?_,j+1,O,q+1,F,(.aa (.aa (.sk 3 (.aa (.sk 2 (.aa (.aa (.aa (.sk 32 .nil rfl)))) rfl)) rfl))),rfl,rfl,?_⟩
      ·omega
      ·exact ⟨⟨by omega,hq⟩,by rw [ao]; simp,hF⟩
     | true =>
      conv=>whnf
      refine ⟨⟨by show 1≤1; decide,rfl,by show (q+1+1)*80≤140737488355328; omega⟩,?_⟩
      conv=>whnf
      refine ⟨[0,1,8,9,10],?_⟩;conv=>whnf
      intro _;conv=>whnf
      rw [e7];refine .inr ⟨[0,1],[0,1,5,8,9,10],?_⟩;conv=>whnf
      intro _;conv=>whnf
      refine ⟨_,?_,j+1,O++[aC L j],q+1+1,_,(.aa (.aa (.sk 3 (.aa (.sk 2 (.aa (.aa (.aa (.sk 32 .nil rfl)))) rfl)) rfl))),rfl,rfl,?_⟩
      ·omega
      ·exact ⟨⟨by omega,by rw [List.length_append,← hq]; rfl⟩,by rw [ao]; simp,rV hq hF cb rfl⟩
    ·have h1:j=n:=by
      have:=of_decide_eq_false h1;omega
     subst h1;have hE:jO L=O:=by rw [hO,hn]; exact (LU L).symm
     conv=>whnf
     rw [show (kz 110 111).new (some (L,c),true)=some (.flat true (q+1) 6 (bW O)) from by show cX (jO L)=_; rw [hE]; unfold cX; rw [← hq],show (kz 110 111).val (some (L,c),true)=.slice (some ⟨1,0,none⟩) (q+1) aK from by show eK _ (jO L).length=_; rw [hE,← hq]; rfl]
     refine ⟨1,?_⟩;conv=>whnf
     exact ⟨⟨rfl,aO.rP (fun h=>h) hF (fun r hr=>rfl)⟩,_,rfl,.refl _⟩
open Go Go.Ae
def Jk:Env:=En [(33,.p kD)]
theorem acf:EnvOk Tryz.prog Jk:=bI ⟨xj,trivial⟩ trivial
theorem VX:gi Tryz.prog 145 (ck Jk cL Tryz.f145):=by
 exact js acf aM Tryz.func145 (enters_of Tryz.func145 (by kernel_rfl) rfl)
def Jl:Env:=En [] [(145,ck Jk cL Tryz.f145)] [] true
theorem acg:EnvOk Tryz.prog Jl:=bI trivial ⟨VX,trivial⟩
theorem Tf:gi Tryz.prog 112 (ck Jl cL Tryz.f112):=by
 exact js acg aM Tryz.func112 (enters_of Tryz.func112 (by kernel_rfl) rfl)
abbrev jH:cI:=kz 110 111
def Ey2:Env:=En [(109,.q jH),(74,.p pj)] [(112,ck Jl cL Tryz.f112)]
theorem ach:EnvOk Tryz.prog Ey2:=bI ⟨YH,Nv,trivial⟩ ⟨Tf,trivial⟩
theorem YI:dc Tryz.prog 58 fk:=by
 refine eg ach aM Tryz.func58 (enters_of Tryz.func58 (by kernel_rfl) rfl) ?_ ?_ ?_
 ·intro i B hb;cases i with
  | none=>simp [fk,QL.aj] at hb
  | some i=>simp [fk,QL.aj] at hb; rw [hb]; rfl
 ·intro i B hb;exact Bw hb
 intro i hp;have hp:i.list.length≤549755813888∧∀ v∈i.list,Q2.sz 262144 v:=hp;obtain ⟨hlen,aU⟩:=hp;cases i with
 | none =>
  conv=>whnf
  refine ⟨(none,false),[],rfl,⟨Nat.zero_le _,fun v hv=>nomatch hv⟩,?_⟩
  rw [show jH.aj (none,false)=[] from rfl,show jH.val (none,false)=.slice none 0 0 from rfl,show jH.new (none,false)=none from rfl]
  conv=>whnf
  refine ⟨_,rfl,?_⟩;conv=>whnf
  refine ⟨(none,true),[],rfl,⟨Nat.zero_le _,fun v hv=>nomatch hv⟩,?_⟩
  rw [show jH.aj (none,true)=[] from rfl,show jH.val (none,true)=.slice none 0 0 from rfl,show jH.new (none,true)=none from rfl]
  conv=>whnf
  refine ⟨_,rfl,?_⟩;conv=>whnf
  exact ⟨_,rfl,.refl _⟩
 | some i =>
  obtain ⟨L,c⟩:=i;have hlen:L.length≤549755813888:=hlen;have aU:∀ v∈L,Q2.sz 262144 v:=aU;obtain ⟨n,hn⟩:∃ n,n=L.length:=⟨_,rfl⟩;obtain ⟨g,hg⟩:∃ g,g=bW L:=⟨_,rfl⟩;obtain ⟨D,hD⟩:∃ D,D=sI false L:=⟨_,rfl⟩;obtain ⟨C,hC⟩:∃ C,C=sI true D:=⟨_,rfl⟩;have hR:fL L=if C.length < 3 then [] else eM C:=by rw [Uc,← hD,← hC]
  have Jm:D.length≤n∧∀ v∈D,Q2.sz 262144 v:=⟨by rw [hD,hn]; exact (x5 L).length_le,fun v hv=>aU v ((x5 L).subset (by rw [hD] at hv; exact hv))⟩
  have Dd:C.length≤n∧∀ v∈C,Q2.sz 262144 v:=⟨Nat.le_trans (by rw [hC]; exact (AW D).length_le) Jm.1,fun v hv=>Jm.2 v ((AW D).subset (by rw [hC] at hv; exact hv))⟩
  obtain ⟨cu,fG⟩:∃ c,c=aK:=⟨_,rfl⟩;obtain ⟨K,hK⟩:∃ K,K=iV fk (some (L,c)):=⟨_,rfl⟩;have sW:∀ H:aw,fL L=[]→K (.slice none 0 0) H:=fun H h=>by
   rw [hK];unfold iV;rw [show fk.new (some (L,c))=none from by show cX (fL L)=none; rw [h]; rfl,show fk.val (some (L,c))=.slice none 0 0 from by show eK _ (fL L).length=_; rw [h]; rfl]
   exact ⟨_,rfl,.refl _⟩
  rw [show fk.aj (some (L,c))=[.flat false n 6 g] from by rw [hn,hg]; rfl,show fk.args (some (L,c))=[.slice (some ⟨0,0,none⟩) n c] from by rw [hn]; rfl,← hK]
  rw [← hn] at hlen;conv=>whnf
  refine ⟨(some (L,c),false),[0],by rw [show jH.args (some (L,c),false)=[.slice (some ⟨0,0,none⟩) n c,.func (.func 110) #[] #[]] from by rw [hn]; rfl]; rfl,⟨by show L.length≤_; omega,aU⟩,?_⟩
  obtain ⟨d,hd⟩:∃ d,d=D.length:=⟨_,rfl⟩;rw [show jH.aj (some (L,c),false)=[.flat false n 6 g] from by rw [hn,hg]; rfl,show jH.val (some (L,c),false)=eK 1 d from by rw [hd,hD]; rfl,show jH.new (some (L,c),false)=cX D from by rw [hD]; rfl]
  cases d with
  | zero =>
   obtain rfl:D=[]:=List.eq_nil_of_length_eq_zero hd.symm;conv=>whnf
   refine ⟨aO.aW (fun h=>h) (fun r hr=>by rw [hg]; rfl),?_⟩
   conv=>whnf
   refine ⟨_,rfl,?_⟩;conv=>whnf
   refine ⟨(none,true),[],rfl,⟨Nat.zero_le _,fun v hv=>nomatch hv⟩,?_⟩
   rw [show jH.aj (none,true)=[] from rfl,show jH.val (none,true)=.slice none 0 0 from rfl,show jH.new (none,true)=none from rfl]
   conv=>whnf
   refine ⟨_,rfl,?_⟩;conv=>whnf
   exact sW _ (by rw [hR,hC]; rfl)
  | succ d =>
   obtain ⟨G,hG⟩:∃ G,G=bW D:=⟨_,rfl⟩;rw [show cX D=some (.flat true (d+1) 6 G) from by unfold cX; rw [← hd,hG]]
   conv=>whnf
   refine ⟨aO.aW (fun h=>h) (fun r hr=>by rw [hg]; rfl),?_⟩
   conv=>whnf
   refine ⟨_,rfl,?_⟩;conv=>whnf
   obtain ⟨e,he⟩:∃ d,d=C.length:=⟨_,rfl⟩;refine ⟨(some (D,aK),true),[1],by rw [show jH.args (some (D,aK),true)=[.slice (some ⟨0,0,none⟩) (d+1) aK,.func (.func 111) #[] #[]] from by rw [hd]; rfl]; rfl,⟨by show D.length≤_; omega,Jm.2⟩,?_⟩
   rw [show jH.aj (some (D,aK),true)=[.flat false (d+1) 6 G] from by rw [hd,hG]; rfl,show jH.val (some (D,aK),true)=eK 1 e from by rw [he,hC]; rfl,show jH.new (some (D,aK),true)=cX C from by rw [hC]; rfl]
   cases e with
   | zero =>
    obtain rfl:C=[]:=List.eq_nil_of_length_eq_zero he.symm;conv=>whnf
    refine ⟨aO.aW (fun h=>by cases h) (fun r hr=>by rw [hG]; rfl),?_⟩
    conv=>whnf
    refine ⟨_,rfl,?_⟩;conv=>whnf
    exact sW _ (by rw [hR]; rfl)
   | succ e =>
    obtain ⟨E,hE⟩:∃ G,G=bW C:=⟨_,rfl⟩;rw [show cX C=some (.flat true (e+1) 6 E) from by unfold cX; rw [← he,hE]]
    conv=>whnf
    refine ⟨aO.aW (fun h=>by cases h) (fun r hr=>by rw [hG]; rfl),?_⟩
    conv=>whnf
    refine ⟨_,rfl,?_⟩;conv=>whnf
    by_cases h3:e+1 < 3
    ·rw [show decide (((e+1:Nat):Int) < 3)=true from decide_eq_true (by omega)]
     conv=>whnf
     exact sW _ (by rw [hR,if_pos (by omega)])
    rw [show decide (((e+1:Nat):Int) < 3)=false from decide_eq_false (by omega)]
    rw [if_neg (by omega)] at hR
    obtain ⟨N,hN⟩:∃ N,N=e+1:=⟨_,rfl⟩;rw [← hN] at he;rw [← hN];obtain ⟨M,hM⟩:∃ N,N=d+1:=⟨_,rfl⟩;rw [← hM,← fG];conv=>whnf
    refine .inl ⟨fun mm tz hz=>∃ (i:Nat) (m:Nat),bA (some (.slice (some ⟨2,0,none⟩) N cu)::aB 2 (some (.int .i64 m)::aB 9 (some (.slice (some ⟨2,0,none⟩) N cu)::some (.int .i64 N)::some (.int .i64 i)::aB 21 []))) tz∧hz=[some (.flat false n 6 g),some (.flat true M 6 G),some (.flat true N 6 E)]∧N - i=mm∧(i≤N∧m=nU C i),.inr ⟨[0,1,2],[0,3,13,14,15],?_⟩,?_⟩
    ·conv=>whnf
     intro _;conv=>whnf
     refine ⟨_,0,0,(.aa (.sk 2 (.aa (.sk 9 (.aa (.aa (.aa (.sk 21 .nil rfl)))) rfl)) rfl)),rfl,rfl,?_⟩;exact ⟨Nat.zero_le _,rfl⟩
    rintro mm aS _ ⟨i,m,au,rfl,rfl,⟨hi,hm⟩⟩
    obtain ⟨az,rfl⟩:∃ az:Nat→Value,aS=.slice (some ⟨2,0,none⟩) N cu::zs az 1 2 (.int .i64 m::zs az 4 9 (.slice (some ⟨2,0,none⟩) N cu::.int .i64 N::.int .i64 i::zs az 16 21 [])):=bJ au;clear au;have lH:m < N:=by rw [hm,he]; exact (J9 C i (by omega)).1 (by omega)
    conv=>whnf
    refine aI (fun h1=>?_) (fun h1=>?_)
    ·have h1:i < N:=by
      have:=of_decide_eq_true h1;omega
     have e7:IntKind.i64.wrap ((i:Int)+1)=((i+1:Nat):Int):=by rw [ar (by omega) (by omega)]; rfl
     obtain ⟨p,cp,rp,pp,sp,qp⟩:=ib (L:=C) (k:=i) (by omega) Dd.2
     obtain ⟨q,cq,rq,pq,sq,qq⟩:=ib (L:=C) (k:=m) (by omega) Dd.2
     rw [← hE] at rp rq;conv=>whnf
     refine ⟨⟨by omega,by omega⟩,?_⟩
     simp only [toNat_cast,ax,Nat.zero_add];conv=>whnf
     refine ⟨by show i < N; omega,?_⟩
     conv=>whnf
     rw [rp];conv=>whnf
     refine .inl ⟨5,[[],[],[],[1,2],[1,2,3],[0,1,2,3,4],[0,1,2,3,4,5]],by kernel_rfl,?_⟩
     conv=>whnf
     refine ⟨⟨by omega,by omega⟩,?_⟩
     simp only [toNat_cast,ax,Nat.zero_add];conv=>whnf
     refine ⟨by show m < N; omega,?_⟩
     conv=>whnf
     rw [rq];conv=>whnf
     obtain ⟨z,ez,pz⟩:=dJ (fF p.p q.p);refine ⟨(p,q),rfl,⟨PV.aJ sp (by decide),PV.aJ sq (by decide)⟩,?_⟩
     rw [show pj.val (p,q)=.int .i64 z from ez]
     conv=>whnf
     rw [pp,pq] at pz;have tA:nU C (i+1)=if z < 0 then i else m:=by
      show (if fF (aC C i) (aC C (nU C i)) < 0 then i else nU C i)=_
      rw [pz,hm]
     refine aI (fun J=>?_) (fun J=>?_)
     ·have J:z < 0:=of_decide_eq_true J;conv=>whnf
      rw [e7];refine .inr ⟨[0,1,2],[0,3,13,14,15],?_⟩;conv=>whnf
      intro _;conv=>whnf
      refine ⟨_,?_,i+1,i,(.aa (.sk 2 (.aa (.sk 9 (.aa (.aa (.aa (.sk 21 .nil rfl)))) rfl)) rfl)),rfl,rfl,?_⟩
      ·omega
      ·exact ⟨by omega,by rw [tA,if_pos J]⟩
     ·have J:¬ z < 0:=of_decide_eq_false J;conv=>whnf
      rw [e7];refine .inr ⟨[0,1,2],[0,3,13,14,15],?_⟩;conv=>whnf
      intro _;conv=>whnf
      refine ⟨_,?_,i+1,m,(.aa (.sk 2 (.aa (.sk 9 (.aa (.aa (.aa (.sk 21 .nil rfl)))) rfl)) rfl)),rfl,rfl,?_⟩
      ·omega
      ·exact ⟨by omega,by rw [tA,if_neg J]⟩
    ·have h1:i=N:=by
      have:=of_decide_eq_false h1;omega
     subst h1;conv=>whnf
     refine .inl ⟨6,[[],[],[0,1],[],[],[3,4],[0,1,2,3,4,5],[0,1,2,3,4,5,6],[0,1,2,3,4,5,6,7]],by kernel_rfl,?_⟩
     conv=>whnf
     refine ⟨⟨by omega,by omega,by omega⟩,?_⟩
     rw [show Int.toNat (i:Int) - Int.toNat (m:Int)=i - m from rfl,show Int.toNat (m:Int)=m from rfl,ax,Nat.zero_add]
     conv=>whnf
     refine ⟨⟨by omega,by omega,by omega⟩,?_⟩
     conv=>whnf
     obtain ⟨a,ha⟩:∃ a,a=i - m:=⟨_,rfl⟩;obtain ⟨ca,hca⟩:∃ a,a=ui cu m:=⟨_,rfl⟩;obtain ⟨cb,hcb⟩:∃ a,a=ui cu (Int.toNat 0):=⟨_,rfl⟩;rw [← ha,← hca,← hcb,show eX 0 (Int.toNat 0)=0 from rfl,show Int.toNat (m:Int) - Int.toNat 0=m from rfl,Nat.zero_add]
     have w1:IntKind.i64.wrap (0+(a:Int))=(a:Int):=by rw [ar (by omega) (by omega)]; omega
     have w2:IntKind.i64.wrap ((a:Int)+(m:Int))=(i:Int):=by rw [ar (by omega) (by omega)]; omega
     refine .inr ⟨3,?_⟩;conv=>whnf
     refine ⟨by decide,?_⟩
     conv=>whnf
     rw [w1,show decide ((a:Int) < 0)=false from decide_eq_false (by omega)]
     conv=>whnf
     refine ⟨by decide,?_⟩
     conv=>whnf
     rw [w2,show decide ((i:Int) < 0)=false from decide_eq_false (by omega)]
     conv=>whnf
     have w3:IntKind.i64.wrap ((i:Int) - IntKind.i64.wrap (0 - ((0:Nat):Int)))=(i:Int):=by
      rw [show IntKind.i64.wrap (0 - ((0:Nat):Int))=0 from rfl,ar (by omega) (by omega)]; omega
     rw [w3,show decide ((i:Int) > 0)=true from decide_eq_true (by omega)]
     conv=>whnf
     refine ⟨⟨by omega,by omega,by omega⟩,?_⟩
     conv=>whnf
     refine ⟨⟨by omega,by show (i:Int)*((80:Nat):Int)≤_; omega⟩,?_⟩
     conv=>whnf
     refine ⟨⟨by omega,by omega,by omega⟩,?_⟩
     rw [show (0:Int).toNat=0 from rfl,show eX 0 0=0 from rfl]
     conv=>whnf
     refine .inr ⟨3,?_⟩;conv=>whnf
     refine ⟨by decide,?_⟩
     conv=>whnf
     refine ⟨by omega,?_⟩
     conv=>whnf
     rw [show Int.toNat (((0:Nat):Int)) - 0=0 from rfl,show (Src.fl a fun j=>E (eX (0+m) j)).m=a from rfl,Nat.zero_add]
     refine ⟨⟨by decide,⟨Nat.zero_le _,rfl⟩,by show (0+a)*80≤_; omega⟩,?_⟩
     conv=>whnf
     refine ⟨[25,26,27],?_⟩;conv=>whnf
     intro _;conv=>whnf
     refine ⟨by decide,?_⟩
     conv=>whnf
     refine ⟨by omega,?_⟩
     conv=>whnf
     rw [show (Src.fl m fun j=>E (eX 0 j)).m=m from rfl]
     refine ⟨⟨by decide,⟨Nat.le_refl _,rfl⟩,by show (0+a+m)*80≤_; omega⟩,?_⟩
     conv=>whnf
     refine ⟨[25,26,27],?_⟩;conv=>whnf
     intro _;conv=>whnf
     rw [show 0+a+m=i from by omega]
     have hl:(fL L).length=i:=by rw [hR,AV]; omega
     rw [hK];unfold iV;rw [show fk.new (some (L,c))=some (.flat true i 6 (bW (fL L))) from WC hl (by omega),show fk.val (some (L,c))=.slice (some ⟨1,0,none⟩) i aK from (congrArg (eK 1) hl).trans (WD (by omega))]
     refine ⟨10,?_⟩;conv=>whnf
     refine ⟨⟨rfl,aO.rP (fun h=>h) (fun r hr=>?_) (fun r hr=>rfl)⟩,_,rfl,.refl _⟩
     rw [hR,T6 (L:=C) (fun r hr=>by rw [hE]) (by omega) (by omega) r (by omega),hm,he]
     rfl
open Go Go.Ae
def Jn:Env:=En [(70,.p qh),(34,.p cK),(38,.p gh),(71,.p qI),(39,.p iZ)] [(64,ck mV cL Tryz.f64)] [(118,uf)]
theorem aci:EnvOk Tryz.prog Jn:=bI ⟨Ma,BA,ue,Nw,N7,trivial⟩ ⟨wI,trivial⟩
theorem aaX:gL Tryz.prog Jn:=vE ⟨wq,trivial⟩
def Pv:Nat→FT→Nu→FT:=fun l G nu=>ck { Jn with ys:=[(l,G)],nu:=nu } cL Tryz.f114
theorem YJ:zj Tryz.prog 114 Pv:=by
 exact Oj aci aM Tryz.func114 (enters_of Tryz.func114 (by kernel_rfl) rfl) (hI:=aaX)
def DK:Env:=En [] [] [(114,Pv)]
theorem acj:EnvOk Tryz.prog DK:=bI trivial trivial
theorem aaY:gL Tryz.prog DK:=vE ⟨YJ,trivial⟩
theorem YK:gi Tryz.prog 113 (ck DK cL Tryz.f113):=by
 exact js acj aM Tryz.func113 (enters_of Tryz.func113 (by kernel_rfl) rfl) (hI:=aaY)
def Ez3:Env:=En [] [(113,ck DK cL Tryz.f113)]
theorem ack:EnvOk Tryz.prog Ez3:=bI trivial ⟨YK,trivial⟩
abbrev iC:cI:=HV 114
theorem aaZ:dc Tryz.prog 59 iC:=by
 refine eg ack aM Tryz.func59 (enters_of Tryz.func59 (by kernel_rfl) rfl) ?_ ?_ ?_
 ·intro ⟨i,_⟩ B hb;cases i with
  | none=>simp [iC,HV,QL.aj] at hb; rcases hb with rfl | rfl | rfl <;> rfl
  | some i=>simp [iC,HV,QL.aj] at hb; rcases hb with rfl | rfl | rfl | rfl <;> rfl
 ·intro i B hb;exact Bw hb
 intro ⟨i,a,b⟩ hp;have hp:i.list.length≤1073741824∧(∀ v∈i.list,Q2.sz 2048 v)∧a.sz 2048∧b.sz 2048:=hp;obtain ⟨hlen,aU,sa,sb⟩:=hp;have qa:=PV.c9 sa (by decide)
 have qb:=PV.c9 sb (by decide)
 cases i with
 | none =>
  conv=>whnf
  intro yl nu fn tm df;conv=>whnf
  intro Jo nu2 Qz QA QC;conv=>whnf
  refine .inr ⟨1,?_⟩;conv=>whnf
  exact ⟨_,rfl,.refl _⟩
 | some i =>
  obtain ⟨L,c⟩:=i;have hlen:L.length≤1073741824:=hlen;have aU:∀ v∈L,Q2.sz 2048 v:=aU;obtain ⟨n,hn⟩:∃ n,n=L.length:=⟨_,rfl⟩;obtain ⟨g,hg⟩:∃ g,g=bW L:=⟨_,rfl⟩;obtain ⟨K,hK⟩:∃ K,K=iV iC (some (L,c),(a,b)):=⟨_,rfl⟩;rw [show iC.aj (some (L,c),(a,b))=[.flat false n 6 g,.aL false 1 [[.slice (some ⟨0,0,none⟩) n c]],.aL false 6 [a.cells],.aL false 6 [b.cells]] from by rw [hn,hg]; rfl,show iC.args (some (L,c),(a,b))=[.func (.func 114) #[] #[.pointer (some ⟨1,0,none⟩),.pointer (some ⟨2,0,none⟩),.pointer (some ⟨3,0,none⟩)]] from rfl,← hK]
  rw [← hn] at hlen;conv=>whnf
  intro yl nu fn tm df;conv=>whnf
  intro Jo nu2 Qz QA QC;conv=>whnf
  refine .inl ⟨fun mm tz hz=>∃ (j:Nat) (O:List Q2) (q:Nat) (F:Nat→List Value),bA (some (.func (.yield Jo) #[] #[])::some (.pointer (some ⟨7,0,none⟩))::aB 3 (some (.slice (some ⟨0,0,none⟩) n c)::some (.int .i64 n)::some (.int .i64 j)::aB 17 [])) tz∧hz=[some (.flat false n 6 g),some (.aL false 1 [[.slice (some ⟨0,0,none⟩) n c]]),some (.aL false 6 [a.cells]),some (.aL false 6 [b.cells]),some (.aL true 1 [[eK 9 q]]),some (.b9 (qR Tryz.f113 fn tm df)),some (.aL true 1 [[.func (.yield yl) #[] #[]]]),some (.aL true 1 [[.slice (some ⟨0,0,none⟩) n c]]),some (.b9 (qR Tryz.f114 Qz QA QC))]++zu 6 F q∧n - j=mm∧((j≤n∧q=O.length)∧O=((a8 L).take j).flatMap (ny (eL a.p b.p))∧∀ r,r < q→F r=bW O r),.inr ⟨[0,1,2,3,4,5,6,7,8],[0,1,5,6,7],?_⟩,?_⟩
  ·conv=>whnf
   intro _;conv=>whnf
   refine ⟨_,0,[],0,fun _=>[],(.aa (.aa (.sk 3 (.aa (.aa (.aa (.sk 17 .nil rfl)))) rfl))),rfl,rfl,?_⟩
   exact ⟨⟨Nat.zero_le _,rfl⟩,rfl,fun r hr=>absurd hr (Nat.not_lt_zero r)⟩
  rintro mm aS _ ⟨j,O,q,F,au,rfl,rfl,⟨⟨hj,hq⟩,hO,hF⟩⟩
  obtain ⟨az,rfl⟩:∃ az:Nat→Value,aS=.func (.yield Jo) #[] #[]::.pointer (some ⟨7,0,none⟩)::zs az 2 3 (.slice (some ⟨0,0,none⟩) n c::.int .i64 n::.int .i64 j::zs az 8 17 []):=bJ au;clear au;have tA:=WE (eL a.p b.p) L j;rw [← hO,← hq] at tA;cases q with
  | zero =>
   obtain rfl:O=[]:=List.eq_nil_of_length_eq_zero hq.symm;conv=>whnf
   refine aI (fun h7=>?_) (fun h7=>?_)
   ·have h7:j < n:=by
     have:=of_decide_eq_true h7;omega
    have e8:IntKind.i64.wrap ((j:Int)+1)=((j+1:Nat):Int):=by rw [ar (by omega) (by omega)]; rfl
    obtain ⟨u,cu,ru,pu,su,qu⟩:=ib (L:=L) (k:=j) (by omega) aU
    obtain ⟨v,cv,rv,pv,sv,qv⟩:=ib (L:=L) (k:=bg n j) (by rw [hn]; exact cV (by omega)) aU
    have cR:=lQ h7 (by omega)
    have cD:=cV h7;have g0:(a8 L)[j]?=some (u.p,v.p):=by rw [pu,pv]; rw [hn] at cD ⊢; exact rQ (hJ (by omega)) (hJ cD)
    rw [← pu] at cu;obtain ⟨k,hk⟩:∃ u,u=bg n j:=⟨_,rfl⟩;rw [← hk] at cR cD rv;rw [← hg] at ru rv;conv=>whnf
    refine ⟨⟨by omega,by omega⟩,?_⟩
    simp only [toNat_cast,ax,Nat.zero_add];conv=>whnf
    refine ⟨by show j < n; omega,?_⟩
    conv=>whnf
    rw [ru];conv=>whnf
    refine .inl ⟨10,[[],[],[],[],[3],[],[5],[3,4,5,6],[2,3,4,5,6,7],[2,3,4,5,6,7,8],[0,1,2,3,4,5,6,7,8,9],[0,1,2,3,4,5,6,7,8,9,10]],by kernel_rfl,?_⟩
    conv=>whnf
    rw [show decide ((n:Int)≠0)=true from decide_eq_true (by omega)]
    conv=>whnf
    rw [cR];refine ⟨⟨by omega,by omega⟩,?_⟩
    simp only [toNat_cast,ax,Nat.zero_add];conv=>whnf
    refine ⟨by show k < n; omega,?_⟩
    conv=>whnf
    rw [rv];conv=>whnf
    refine ⟨rfl,?_⟩;conv=>whnf
    refine ⟨rfl,?_⟩;conv=>whnf
    refine ⟨rfl,?_⟩;conv=>whnf
    refine .inl ⟨10,[[],[],[],[0,1,2],[],[],[],[0,1,2,3,4,5,6],[],[],[0,1,2,3,4,5,6,7,8,9],[0,1,2,3,4,5,6,7,8,9,10]],by kernel_rfl,?_⟩
    conv=>whnf
    obtain ⟨x,ex,px,sx,qx⟩:=fm (uM qa qb qu);refine ⟨(a,b,u),rfl,⟨PV.aJ sa (by decide),PV.aJ sb (by decide),PV.aJ su (by decide)⟩,?_⟩
    rw [show qh.val (a,b,u)=x.v from ex]
    conv=>whnf
    obtain ⟨y,ey,py,sy,qy⟩:=fm (uM qa qb qv);refine ⟨(a,b,v),rfl,⟨PV.aJ sa (by decide),PV.aJ sb (by decide),PV.aJ sv (by decide)⟩,?_⟩
    rw [show qh.val (a,b,v)=y.v from ey]
    conv=>whnf
    obtain ⟨z,ez,pz⟩:=dJ (aN x.q 0);refine ⟨x,rfl,RV.aT sx (by decide),?_⟩
    rw [show cK.val x=.int .i64 z from ez]
    conv=>whnf
    have hz:=pW x.q 0;rw [← pz] at hz;have ao:=LW (w:=cA (atR u.p v.p (x.q / (x.q - y.q)))) g0 hO (px.trans (xi _ _ _).symm) (py.trans (xi _ _ _).symm) (ie _);rw [← pz] at ao;by_cases h8:z ≥ 0
    ·rw [show decide (z ≥ 0)=true from decide_eq_true h8]
     rw [if_pos h8] at ao;conv=>whnf
     refine ⟨rfl,?_⟩;conv=>whnf
     refine ⟨rfl,?_⟩;conv=>whnf
     refine ⟨rfl,?_⟩;conv=>whnf
     refine ⟨by decide,?_⟩
     conv=>whnf
     refine ⟨rfl,?_⟩;conv=>whnf
     refine .inl ⟨3,[[],[0],[],[0,1,2],[0,1,2,3],[0,1,2,3,4]],by kernel_rfl,?_⟩
     conv=>whnf
     obtain ⟨z3,vJ,vK⟩:=dJ (aN x.q 0);refine ⟨x,rfl,RV.aT sx (by decide),?_⟩
     rw [show cK.val x=.int .i64 z3 from vJ]
     conv=>whnf
     obtain ⟨z2,vL,oF⟩:=dJ (aN y.q 0);refine ⟨y,rfl,RV.aT sy (by decide),?_⟩
     rw [show cK.val y=.int .i64 z2 from vL]
     conv=>whnf
     have nP:=pW y.q 0;rw [← oF] at nP;obtain rfl:z3=z:=vK.trans pz.symm;rw [show IntKind.i64.wrap (z3*z2)=z3*z2 from by rcases hz with rfl | rfl | rfl <;> rcases nP with rfl | rfl | rfl <;> rfl]
     rw [← oF] at ao;by_cases h9:z3*z2 < 0
     ·rw [show decide (z3*z2 < 0)=true from decide_eq_true h9]
      rw [if_pos h9] at ao;conv=>whnf
      refine .inr (.inr (.inl ⟨9,1,[[],[],[],[1,2],[0,1,2,3],[0,1,2,3,4],[0,1,2,3,4,5],[0,1,2,3,4,5],[],[0,1,2,3,4,5,6,8],[0,1,2,3,4,5,6,7,8,9]],[7],by kernel_rfl,?_⟩))
      conv=>whnf
      obtain ⟨d2,iN,oG,oH,oI⟩:=fm (QB.sub qx qy);refine ⟨(x,y),rfl,⟨RV.aT sx (by decide),RV.aT sy (by decide)⟩,?_⟩
      rw [show gh.val (x,y)=d2.v from iN]
      conv=>whnf
      obtain ⟨t,et,pt,st,qt⟩:=fm (QB.div qx oI (by decide))
      obtain ⟨e,ee,pe⟩:=dJ (if d2.q=0 then 10 else 0)
      refine ⟨(x,d2),rfl,⟨RV.aT sx (by decide),RV.aT oH (by decide)⟩,?_⟩
      rw [show qI.val (x,d2)=.tuple ⟨[t.v,.int .i64 e]⟩ from by rw [← et,← ee]; rfl]
      conv=>whnf
      refine .inl ⟨5,[[],[],[],[],[1,2,3],[0,1,2,3,4],[0,1,2,3,4,5]],by kernel_rfl,?_⟩
      conv=>whnf
      obtain ⟨w,ew,pw,sw,qw⟩:=sG (j3 qu qv qt);refine ⟨((u,v),t),rfl,⟨⟨PV.aJ su (by decide),PV.aJ sv (by decide)⟩,RV.aJ st (by decide)⟩,?_⟩
      rw [show iZ.val ((u,v),t)=w.v from ew]
      conv=>whnf
      have cw:=(PV.lZ ew).symm;rw [← pw] at cw;rw [show (cA (atR u.p v.p (x.q / (x.q - y.q)))).p=w.p from by rw [ie,pw,pt,oG]] at ao
      refine ⟨rfl,?_⟩;conv=>whnf
      refine ⟨rfl,?_⟩;conv=>whnf
      refine ⟨rfl,?_⟩;conv=>whnf
      refine ⟨⟨rfl,by show (0+1+1)*80≤140737488355328; decide⟩,?_⟩
      conv=>whnf
      refine ⟨rfl,?_⟩;conv=>whnf
      refine ⟨rfl,?_⟩;conv=>whnf
      rw [e8];refine .inr ⟨[0,1,2,3,4,5,6,7,8,54],[0,1,5,6,7],?_⟩;conv=>whnf
      intro _;conv=>whnf
      refine ⟨_,?_,j+1,[u.p]++[w.p],0+1+1,_,(.aa (.aa (.sk 3 (.aa (.aa (.aa (.sk 17 .nil rfl)))) rfl))),rfl,rfl,?_⟩
      ·omega
      ·exact ⟨⟨by omega,rfl⟩,by rw [ao]; rfl,rV (O:=[u.p]) rfl (wH cu rfl) cw rfl⟩
     ·rw [show decide (z3*z2 < 0)=false from decide_eq_false h9]
      rw [if_neg h9] at ao;conv=>whnf
      refine ⟨rfl,?_⟩;conv=>whnf
      rw [e8];refine .inr ⟨[0,1,2,3,4,5,6,7,8,34],[0,1,5,6,7],?_⟩;conv=>whnf
      intro _;conv=>whnf
      refine ⟨_,?_,j+1,[u.p],0+1,_,(.aa (.aa (.sk 3 (.aa (.aa (.aa (.sk 17 .nil rfl)))) rfl))),rfl,rfl,?_⟩
      ·omega
      ·exact ⟨⟨by omega,rfl⟩,by rw [ao]; rfl,wH cu rfl⟩
    ·rw [show decide (z ≥ 0)=false from decide_eq_false h8]
     rw [if_neg h8] at ao;conv=>whnf
     refine .inl ⟨3,[[],[0],[],[0,1,2],[0,1,2,3],[0,1,2,3,4]],by kernel_rfl,?_⟩
     conv=>whnf
     obtain ⟨z3,vJ,vK⟩:=dJ (aN x.q 0);refine ⟨x,rfl,RV.aT sx (by decide),?_⟩
     rw [show cK.val x=.int .i64 z3 from vJ]
     conv=>whnf
     obtain ⟨z2,vL,oF⟩:=dJ (aN y.q 0);refine ⟨y,rfl,RV.aT sy (by decide),?_⟩
     rw [show cK.val y=.int .i64 z2 from vL]
     conv=>whnf
     have nP:=pW y.q 0;rw [← oF] at nP;obtain rfl:z3=z:=vK.trans pz.symm;rw [show IntKind.i64.wrap (z3*z2)=z3*z2 from by rcases hz with rfl | rfl | rfl <;> rcases nP with rfl | rfl | rfl <;> rfl]
     rw [← oF] at ao;by_cases h9:z3*z2 < 0
     ·rw [show decide (z3*z2 < 0)=true from decide_eq_true h9]
      rw [if_pos h9] at ao;conv=>whnf
      refine .inr (.inr (.inl ⟨9,1,[[],[],[],[1,2],[0,1,2,3],[0,1,2,3,4],[0,1,2,3,4,5],[0,1,2,3,4,5],[],[0,1,2,3,4,5,6,8],[0,1,2,3,4,5,6,7,8,9]],[7],by kernel_rfl,?_⟩))
      conv=>whnf
      obtain ⟨d2,iN,oG,oH,oI⟩:=fm (QB.sub qx qy);refine ⟨(x,y),rfl,⟨RV.aT sx (by decide),RV.aT sy (by decide)⟩,?_⟩
      rw [show gh.val (x,y)=d2.v from iN]
      conv=>whnf
      obtain ⟨t,et,pt,st,qt⟩:=fm (QB.div qx oI (by decide))
      obtain ⟨e,ee,pe⟩:=dJ (if d2.q=0 then 10 else 0)
      refine ⟨(x,d2),rfl,⟨RV.aT sx (by decide),RV.aT oH (by decide)⟩,?_⟩
      rw [show qI.val (x,d2)=.tuple ⟨[t.v,.int .i64 e]⟩ from by rw [← et,← ee]; rfl]
      conv=>whnf
      refine .inl ⟨5,[[],[],[],[],[1,2,3],[0,1,2,3,4],[0,1,2,3,4,5]],by kernel_rfl,?_⟩
      conv=>whnf
      obtain ⟨w,ew,pw,sw,qw⟩:=sG (j3 qu qv qt);refine ⟨((u,v),t),rfl,⟨⟨PV.aJ su (by decide),PV.aJ sv (by decide)⟩,RV.aJ st (by decide)⟩,?_⟩
      rw [show iZ.val ((u,v),t)=w.v from ew]
      conv=>whnf
      have cw:=(PV.lZ ew).symm;rw [← pw] at cw;rw [show (cA (atR u.p v.p (x.q / (x.q - y.q)))).p=w.p from by rw [ie,pw,pt,oG]] at ao
      refine ⟨rfl,?_⟩;conv=>whnf
      refine ⟨rfl,?_⟩;conv=>whnf
      refine ⟨rfl,?_⟩;conv=>whnf
      refine ⟨by decide,?_⟩
      conv=>whnf
      refine ⟨rfl,?_⟩;conv=>whnf
      refine ⟨rfl,?_⟩;conv=>whnf
      rw [e8];refine .inr ⟨[0,1,2,3,4,5,6,7,8,51],[0,1,5,6,7],?_⟩;conv=>whnf
      intro _;conv=>whnf
      refine ⟨_,?_,j+1,[w.p],0+1,_,(.aa (.aa (.sk 3 (.aa (.aa (.aa (.sk 17 .nil rfl)))) rfl))),rfl,rfl,?_⟩
      ·omega
      ·exact ⟨⟨by omega,rfl⟩,by rw [ao]; rfl,wH cw rfl⟩
     ·rw [show decide (z3*z2 < 0)=false from decide_eq_false h9]
      rw [if_neg h9] at ao;conv=>whnf
      refine ⟨rfl,?_⟩;conv=>whnf
      rw [e8];refine .inr ⟨[0,1,2,3,4,5,6,7,8],[0,1,5,6,7],?_⟩;conv=>whnf
      intro _;conv=>whnf
      refine ⟨_,?_,j+1,[],0,fun _=>[],(.aa (.aa (.sk 3 (.aa (.aa (.aa (.sk 17 .nil rfl)))) rfl))),rfl,rfl,?_⟩
      ·omega
      ·exact ⟨⟨by omega,rfl⟩,by rw [ao]; rfl,fun r hr=>absurd hr (Nat.not_lt_zero r)⟩
   ·have h7:j=n:=by
     have:=of_decide_eq_false h7;omega
    subst h7;have zD:fh (eL a.p b.p) L=[]:=by rw [hO,hn]; exact (ME _ L).symm
    conv=>whnf
    rw [hK];unfold iV;rw [show iC.new (some (L,c),(a,b))=none from by show cX (fh (eL a.p b.p) L)=none; rw [zD]; rfl,show iC.val (some (L,c),(a,b))=.slice none 0 0 from by show eK _ (fh (eL a.p b.p) L).length=_; rw [zD]; rfl]
    exact ⟨_,rfl,.refl _⟩
  | succ q =>
   conv=>whnf
   refine aI (fun h7=>?_) (fun h7=>?_)
   ·have h7:j < n:=by
     have:=of_decide_eq_true h7;omega
    have e8:IntKind.i64.wrap ((j:Int)+1)=((j+1:Nat):Int):=by rw [ar (by omega) (by omega)]; rfl
    obtain ⟨u,cu,ru,pu,su,qu⟩:=ib (L:=L) (k:=j) (by omega) aU
    obtain ⟨v,cv,rv,pv,sv,qv⟩:=ib (L:=L) (k:=bg n j) (by rw [hn]; exact cV (by omega)) aU
    have cR:=lQ h7 (by omega)
    have cD:=cV h7;have g0:(a8 L)[j]?=some (u.p,v.p):=by rw [pu,pv]; rw [hn] at cD ⊢; exact rQ (hJ (by omega)) (hJ cD)
    rw [← pu] at cu;obtain ⟨k,hk⟩:∃ u,u=bg n j:=⟨_,rfl⟩;rw [← hk] at cR cD rv;rw [← hg] at ru rv;conv=>whnf
    refine ⟨⟨by omega,by omega⟩,?_⟩
    simp only [toNat_cast,ax,Nat.zero_add];conv=>whnf
    refine ⟨by show j < n; omega,?_⟩
    conv=>whnf
    rw [ru];conv=>whnf
    refine .inl ⟨10,[[],[],[],[],[3],[],[5],[3,4,5,6],[2,3,4,5,6,7],[2,3,4,5,6,7,8],[0,1,2,3,4,5,6,7,8,9],[0,1,2,3,4,5,6,7,8,9,10]],by kernel_rfl,?_⟩
    conv=>whnf
    rw [show decide ((n:Int)≠0)=true from decide_eq_true (by omega)]
    conv=>whnf
    rw [cR];refine ⟨⟨by omega,by omega⟩,?_⟩
    simp only [toNat_cast,ax,Nat.zero_add];conv=>whnf
    refine ⟨by show k < n; omega,?_⟩
    conv=>whnf
    rw [rv];conv=>whnf
    refine ⟨rfl,?_⟩;conv=>whnf
    refine ⟨rfl,?_⟩;conv=>whnf
    refine ⟨rfl,?_⟩;conv=>whnf
    refine .inl ⟨10,[[],[],[],[0,1,2],[],[],[],[0,1,2,3,4,5,6],[],[],[0,1,2,3,4,5,6,7,8,9],[0,1,2,3,4,5,6,7,8,9,10]],by kernel_rfl,?_⟩
    conv=>whnf
    obtain ⟨x,ex,px,sx,qx⟩:=fm (uM qa qb qu);refine ⟨(a,b,u),rfl,⟨PV.aJ sa (by decide),PV.aJ sb (by decide),PV.aJ su (by decide)⟩,?_⟩
    rw [show qh.val (a,b,u)=x.v from ex]
    conv=>whnf
    obtain ⟨y,ey,py,sy,qy⟩:=fm (uM qa qb qv);refine ⟨(a,b,v),rfl,⟨PV.aJ sa (by decide),PV.aJ sb (by decide),PV.aJ sv (by decide)⟩,?_⟩
    rw [show qh.val (a,b,v)=y.v from ey]
    conv=>whnf
    obtain ⟨z,ez,pz⟩:=dJ (aN x.q 0);refine ⟨x,rfl,RV.aT sx (by decide),?_⟩
    rw [show cK.val x=.int .i64 z from ez]
    conv=>whnf
    have hz:=pW x.q 0;rw [← pz] at hz;have ao:=LW (w:=cA (atR u.p v.p (x.q / (x.q - y.q)))) g0 hO (px.trans (xi _ _ _).symm) (py.trans (xi _ _ _).symm) (ie _);rw [← pz] at ao;by_cases h8:z ≥ 0
    ·rw [show decide (z ≥ 0)=true from decide_eq_true h8]
     rw [if_pos h8] at ao;conv=>whnf
     refine ⟨rfl,?_⟩;conv=>whnf
     refine ⟨rfl,?_⟩;conv=>whnf
     refine ⟨rfl,?_⟩;conv=>whnf
     refine ⟨⟨rfl,by show (q+1+1)*80≤140737488355328; omega⟩,?_⟩
     conv=>whnf
     refine ⟨rfl,?_⟩;conv=>whnf
     refine .inl ⟨3,[[],[0],[],[0,1,2],[0,1,2,3],[0,1,2,3,4]],by kernel_rfl,?_⟩
     conv=>whnf
     obtain ⟨z3,vJ,vK⟩:=dJ (aN x.q 0);refine ⟨x,rfl,RV.aT sx (by decide),?_⟩
     rw [show cK.val x=.int .i64 z3 from vJ]
     conv=>whnf
     obtain ⟨z2,vL,oF⟩:=dJ (aN y.q 0);refine ⟨y,rfl,RV.aT sy (by decide),?_⟩
     rw [show cK.val y=.int .i64 z2 from vL]
     conv=>whnf
     have nP:=pW y.q 0;rw [← oF] at nP;obtain rfl:z3=z:=vK.trans pz.symm;rw [show IntKind.i64.wrap (z3*z2)=z3*z2 from by rcases hz with rfl | rfl | rfl <;> rcases nP with rfl | rfl | rfl <;> rfl]
     rw [← oF] at ao;by_cases h9:z3*z2 < 0
     ·rw [show decide (z3*z2 < 0)=true from decide_eq_true h9]
      rw [if_pos h9] at ao;conv=>whnf
      refine .inr (.inr (.inl ⟨9,1,[[],[],[],[1,2],[0,1,2,3],[0,1,2,3,4],[0,1,2,3,4,5],[0,1,2,3,4,5],[],[0,1,2,3,4,5,6,8],[0,1,2,3,4,5,6,7,8,9]],[7],by kernel_rfl,?_⟩))
      conv=>whnf
      obtain ⟨d2,iN,oG,oH,oI⟩:=fm (QB.sub qx qy);refine ⟨(x,y),rfl,⟨RV.aT sx (by decide),RV.aT sy (by decide)⟩,?_⟩
      rw [show gh.val (x,y)=d2.v from iN]
      conv=>whnf
      obtain ⟨t,et,pt,st,qt⟩:=fm (QB.div qx oI (by decide))
      obtain ⟨e,ee,pe⟩:=dJ (if d2.q=0 then 10 else 0)
      refine ⟨(x,d2),rfl,⟨RV.aT sx (by decide),RV.aT oH (by decide)⟩,?_⟩
      rw [show qI.val (x,d2)=.tuple ⟨[t.v,.int .i64 e]⟩ from by rw [← et,← ee]; rfl]
      conv=>whnf
      refine .inl ⟨5,[[],[],[],[],[1,2,3],[0,1,2,3,4],[0,1,2,3,4,5]],by kernel_rfl,?_⟩
      conv=>whnf
      obtain ⟨w,ew,pw,sw,qw⟩:=sG (j3 qu qv qt);refine ⟨((u,v),t),rfl,⟨⟨PV.aJ su (by decide),PV.aJ sv (by decide)⟩,RV.aJ st (by decide)⟩,?_⟩
      rw [show iZ.val ((u,v),t)=w.v from ew]
      conv=>whnf
      have cw:=(PV.lZ ew).symm;rw [← pw] at cw;rw [show (cA (atR u.p v.p (x.q / (x.q - y.q)))).p=w.p from by rw [ie,pw,pt,oG]] at ao
      refine ⟨rfl,?_⟩;conv=>whnf
      refine ⟨rfl,?_⟩;conv=>whnf
      refine ⟨rfl,?_⟩;conv=>whnf
      refine ⟨⟨rfl,by show (q+1+1+1)*80≤140737488355328; omega⟩,?_⟩
      conv=>whnf
      refine ⟨rfl,?_⟩;conv=>whnf
      refine ⟨rfl,?_⟩;conv=>whnf
      rw [e8];refine .inr ⟨[0,1,2,3,4,5,6,7,8,55],[0,1,5,6,7],?_⟩;conv=>whnf
      intro _;conv=>whnf
      refine ⟨_,?_,j+1,(O++[u.p])++[w.p],q+1+1+1,_,(.aa (.aa (.sk 3 (.aa (.aa (.aa (.sk 17 .nil rfl)))) rfl))),rfl,rfl,?_⟩
      ·omega
      ·exact ⟨⟨by omega,by rw [List.length_append,List.length_append,← hq]; rfl⟩,by rw [ao]; simp,rV (O:=O++[u.p]) (by rw [List.length_append,← hq]; rfl) (rV hq hF cu rfl) cw rfl⟩
     ·rw [show decide (z3*z2 < 0)=false from decide_eq_false h9]
      rw [if_neg h9] at ao;conv=>whnf
      refine ⟨rfl,?_⟩;conv=>whnf
      rw [e8];refine .inr ⟨[0,1,2,3,4,5,6,7,8,35],[0,1,5,6,7],?_⟩;conv=>whnf
      intro _;conv=>whnf
      refine ⟨_,?_,j+1,O++[u.p],q+1+1,_,(.aa (.aa (.sk 3 (.aa (.aa (.aa (.sk 17 .nil rfl)))) rfl))),rfl,rfl,?_⟩
      ·omega
      ·exact ⟨⟨by omega,by rw [List.length_append,← hq]; rfl⟩,by rw [ao]; simp,rV hq hF cu rfl⟩
    ·rw [show decide (z ≥ 0)=false from decide_eq_false h8]
     rw [if_neg h8] at ao;conv=>whnf
     refine .inl ⟨3,[[],[0],[],[0,1,2],[0,1,2,3],[0,1,2,3,4]],by kernel_rfl,?_⟩
     conv=>whnf
     obtain ⟨z3,vJ,vK⟩:=dJ (aN x.q 0);refine ⟨x,rfl,RV.aT sx (by decide),?_⟩
     rw [show cK.val x=.int .i64 z3 from vJ]
     conv=>whnf
     obtain ⟨z2,vL,oF⟩:=dJ (aN y.q 0);refine ⟨y,rfl,RV.aT sy (by decide),?_⟩
     rw [show cK.val y=.int .i64 z2 from vL]
     conv=>whnf
     have nP:=pW y.q 0;rw [← oF] at nP;obtain rfl:z3=z:=vK.trans pz.symm;rw [show IntKind.i64.wrap (z3*z2)=z3*z2 from by rcases hz with rfl | rfl | rfl <;> rcases nP with rfl | rfl | rfl <;> rfl]
     rw [← oF] at ao;by_cases h9:z3*z2 < 0
     ·rw [show decide (z3*z2 < 0)=true from decide_eq_true h9]
      rw [if_pos h9] at ao;conv=>whnf
      refine .inr (.inr (.inl ⟨9,1,[[],[],[],[1,2],[0,1,2,3],[0,1,2,3,4],[0,1,2,3,4,5],[0,1,2,3,4,5],[],[0,1,2,3,4,5,6,8],[0,1,2,3,4,5,6,7,8,9]],[7],by kernel_rfl,?_⟩))
      conv=>whnf
      obtain ⟨d2,iN,oG,oH,oI⟩:=fm (QB.sub qx qy);refine ⟨(x,y),rfl,⟨RV.aT sx (by decide),RV.aT sy (by decide)⟩,?_⟩
      rw [show gh.val (x,y)=d2.v from iN]
      conv=>whnf
      obtain ⟨t,et,pt,st,qt⟩:=fm (QB.div qx oI (by decide))
      obtain ⟨e,ee,pe⟩:=dJ (if d2.q=0 then 10 else 0)
      refine ⟨(x,d2),rfl,⟨RV.aT sx (by decide),RV.aT oH (by decide)⟩,?_⟩
      rw [show qI.val (x,d2)=.tuple ⟨[t.v,.int .i64 e]⟩ from by rw [← et,← ee]; rfl]
      conv=>whnf
      refine .inl ⟨5,[[],[],[],[],[1,2,3],[0,1,2,3,4],[0,1,2,3,4,5]],by kernel_rfl,?_⟩
      conv=>whnf
      obtain ⟨w,ew,pw,sw,qw⟩:=sG (j3 qu qv qt);refine ⟨((u,v),t),rfl,⟨⟨PV.aJ su (by decide),PV.aJ sv (by decide)⟩,RV.aJ st (by decide)⟩,?_⟩
      rw [show iZ.val ((u,v),t)=w.v from ew]
      conv=>whnf
      have cw:=(PV.lZ ew).symm;rw [← pw] at cw;rw [show (cA (atR u.p v.p (x.q / (x.q - y.q)))).p=w.p from by rw [ie,pw,pt,oG]] at ao
      refine ⟨rfl,?_⟩;conv=>whnf
      refine ⟨rfl,?_⟩;conv=>whnf
      refine ⟨rfl,?_⟩;conv=>whnf
      refine ⟨⟨rfl,by show (q+1+1)*80≤140737488355328; omega⟩,?_⟩
      conv=>whnf
      refine ⟨rfl,?_⟩;conv=>whnf
      refine ⟨rfl,?_⟩;conv=>whnf
      rw [e8];refine .inr ⟨[0,1,2,3,4,5,6,7,8,52],[0,1,5,6,7],?_⟩;conv=>whnf
      intro _;conv=>whnf
      refine ⟨_,?_,j+1,O++[w.p],q+1+1,_,(.aa (.aa (.sk 3 (.aa (.aa (.aa (.sk 17 .nil rfl)))) rfl))),rfl,rfl,?_⟩
      ·omega
      ·exact ⟨⟨by omega,by rw [List.length_append,← hq]; rfl⟩,by rw [ao]; simp,rV hq hF cw rfl⟩
     ·rw [show decide (z3*z2 < 0)=false from decide_eq_false h9]
      rw [if_neg h9] at ao;conv=>whnf
      refine ⟨rfl,?_⟩;conv=>whnf
      rw [e8];refine .inr ⟨[0,1,2,3,4,5,6,7,8,9],[0,1,5,6,7],?_⟩;conv=>whnf
      intro _;conv=>whnf
      refine ⟨_,?_,j+1,O,q+1,F,(.aa (.aa (.sk 3 (.aa (.aa (.aa (.sk 17 .nil rfl)))) rfl))),rfl,rfl,?_⟩
      ·omega
      ·exact ⟨⟨by omega,hq⟩,by rw [ao]; simp,hF⟩
   ·have h7:j=n:=by
     have:=of_decide_eq_false h7;omega
    subst h7;have zD:fh (eL a.p b.p) L=O:=by rw [hO,hn]; exact (ME _ L).symm
    conv=>whnf
    rw [hK];unfold iV;rw [show iC.new (some (L,c),(a,b))=some (.flat true (q+1) 6 (bW O)) from by show cX (fh (eL a.p b.p) L)=_; rw [zD]; unfold cX; rw [← hq],show iC.val (some (L,c),(a,b))=.slice (some ⟨4,0,none⟩) (q+1) aK from by show eK _ (fh (eL a.p b.p) L).length=_; rw [zD,← hq]; rfl]
    refine ⟨9,?_⟩;conv=>whnf
    exact ⟨⟨rfl,aO.rP (fun h=>h) hF (fun r hr=>rfl)⟩,_,rfl,.refl _⟩
open Go Go.Ae
theorem YL:gi Tryz.prog 60 (ck mV cL Tryz.f60):=by
 exact js CI aM Tryz.func60 (enters_of Tryz.func60 (by kernel_rfl) rfl)
theorem Tg:gi Tryz.prog 57 (ck mV cL Tryz.f57):=by
 exact js CI aM Tryz.func57 (enters_of Tryz.func57 (by kernel_rfl) rfl)
open Go Go.Ae
def QD:Env:=En [(23,.q bt),(58,.q fk),(59,.r iC)] [(60,ck mV cL Tryz.f60),(57,ck mV cL Tryz.f57),(64,ck mV cL Tryz.f64)] [(118,uf)]
theorem acm:EnvOk Tryz.prog QD:=bI ⟨BB,YI,aaZ,trivial⟩ ⟨YL,Tg,wI,trivial⟩
theorem aa0:gL Tryz.prog QD:=vE ⟨wq,trivial⟩
theorem VY:dc Tryz.prog 16 jr:=by
 refine eg acm aM Tryz.func16 (enters_of Tryz.func16 (by kernel_rfl) rfl) ?_ ?_ ?_ (hI:=aa0)
 ·intro ⟨i,k⟩ B hb;cases i <;> cases k <;> simp [jr,PL.aj] at hb
  ·rw [hb]; rfl
  ·rw [hb]; rfl
  ·rcases hb with rfl | rfl <;> rfl
 ·intro i B hb;exact Bw hb
 intro ⟨i,k⟩ hp;have hp:((i.list.length≤1099511627776∧∀ v∈i.list,v.sz 2048)∧k.list.length≤1099511627776∧∀ v∈k.list,v.sz 2048)∧C4 i.list k.list:=hp;obtain ⟨⟨⟨qL,pE⟩,uQ,l8⟩,ba⟩:=hp;cases i with
 | none =>
  cases k with
  | none =>
   conv=>whnf
   refine ⟨none,[],rfl,⟨Nat.zero_le _,fun v hv=>nomatch hv⟩,?_⟩
   rw [show bt.aj none=[] from rfl,show bt.val none=.int .i64 4 from rfl,show bt.new none=none from rfl]
   conv=>whnf
   refine ⟨_,rfl,?_⟩;conv=>whnf
   exact ⟨_,rfl,.refl _⟩
  | some k =>
   conv=>whnf
   refine ⟨none,[],rfl,⟨Nat.zero_le _,fun v hv=>nomatch hv⟩,?_⟩
   rw [show bt.aj none=[] from rfl,show bt.val none=.int .i64 4 from rfl,show bt.new none=none from rfl]
   conv=>whnf
   refine ⟨_,rfl,?_⟩;conv=>whnf
   exact ⟨_,rfl,.refl _⟩
 | some i =>
  obtain ⟨A,c⟩:=i;have qL:A.length≤1099511627776:=qL;have pE:∀ v∈A,PV.sz 2048 v:=pE;obtain ⟨na,gA⟩:∃ n,n=A.length:=⟨_,rfl⟩;obtain ⟨ga,kP⟩:∃ g,g=dq A:=⟨_,rfl⟩;cases k with
  | none =>
   obtain ⟨K,hK⟩:∃ K,K=iV jr (some (A,c),none):=⟨_,rfl⟩;have fin:∀ H:aw,K (.tuple ⟨[.slice none 0 0,.int .i64 1]⟩) H:=fun H=>by
    have h:gZ A []=([],1):=Hk fun e=>by have:=e.2; cases this
    rw [hK];unfold iV;rw [show jr.new (some (A,c),none)=none from by show cX (gZ A []).1=none; rw [h]; rfl,show jr.val (some (A,c),none)=.tuple ⟨[.slice none 0 0,.int .i64 1]⟩ from by show Value.tuple ⟨[eK _ (gZ A []).1.length,.int .i64 (gZ A []).2]⟩=_; rw [h]; rfl]
    exact ⟨_,rfl,.refl _⟩
   rw [show jr.aj (some (A,c),none)=[.flat false na 6 ga] from by rw [gA,kP]; rfl,show jr.args (some (A,c),none)=[.slice (some ⟨0,0,none⟩) na c,.slice none 0 0] from by rw [gA]; rfl,← hK]
   rw [← gA] at qL;conv=>whnf
   refine ⟨some (A,c),[0],by rw [show bt.args (some (A,c))=[.slice (some ⟨0,0,none⟩) na c] from by rw [gA]; rfl]; rfl,⟨by show A.length≤_; omega,pE⟩,?_⟩
   rw [show bt.aj (some (A,c))=[.flat false na 6 ga] from by rw [gA,kP]; rfl,show bt.val (some (A,c))=.int .i64 (bC A) from rfl,show bt.new (some (A,c))=none from rfl]
   conv=>whnf
   refine ⟨aO.aW (fun h=>h) (fun r hr=>by rw [kP]; rfl),?_⟩
   conv=>whnf
   refine ⟨_,rfl,?_⟩;obtain ⟨e,he⟩:∃ z,z=bC A:=⟨_,rfl⟩;rw [← he];conv=>whnf
   by_cases h1:e=0
   ·rw [show (e != 0)=false from by simp [h1]]
    conv=>whnf
    refine ⟨none,[],rfl,⟨Nat.zero_le _,fun v hv=>nomatch hv⟩,?_⟩
    rw [show bt.aj none=[] from rfl,show bt.val none=.int .i64 4 from rfl,show bt.new none=none from rfl]
    conv=>whnf
    refine ⟨_,rfl,?_⟩;conv=>whnf
    exact fin _
   ·rw [show (e != 0)=true from by simp [h1]]
    conv=>whnf
    exact fin _
  | some k =>
   obtain ⟨B,d⟩:=k;have uQ:B.length≤1099511627776:=uQ;have l8:∀ v∈B,PV.sz 2048 v:=l8;have ba:C4 A B:=ba;obtain ⟨nb,dw⟩:∃ n,n=B.length:=⟨_,rfl⟩;obtain ⟨gb,nQ⟩:∃ g,g=dq B:=⟨_,rfl⟩;obtain ⟨K,hK⟩:∃ K,K=iV jr (some (A,c),some (B,d)):=⟨_,rfl⟩;have sW:∀ (e:Int) (H:aw),gZ A B=([],e)→K (.tuple ⟨[.slice none 0 0,.int .i64 e]⟩) H:=fun e H h=>by
    rw [hK];unfold iV;rw [show jr.new (some (A,c),some (B,d))=none from by show cX (gZ A B).1=none; rw [h]; rfl,show jr.val (some (A,c),some (B,d))=.tuple ⟨[.slice none 0 0,.int .i64 e]⟩ from by show Value.tuple ⟨[eK _ (gZ A B).1.length,.int .i64 (gZ A B).2]⟩=_; rw [h]; rfl]
    exact ⟨_,rfl,.refl _⟩
   rw [show jr.aj (some (A,c),some (B,d))=[.flat false na 6 ga,.flat false nb 6 gb] from by rw [gA,kP,dw,nQ]; rfl,show jr.args (some (A,c),some (B,d))=[.slice (some ⟨0,0,none⟩) na c,.slice (some ⟨1,0,none⟩) nb d] from by rw [gA,dw]; rfl,← hK]
   rw [← gA] at qL;rw [← dw] at uQ;conv=>whnf
   refine ⟨some (A,c),[0],by rw [show bt.args (some (A,c))=[.slice (some ⟨0,0,none⟩) na c] from by rw [gA]; rfl]; rfl,⟨by show A.length≤_; omega,pE⟩,?_⟩
   rw [show bt.aj (some (A,c))=[.flat false na 6 ga] from by rw [gA,kP]; rfl,show bt.val (some (A,c))=.int .i64 (bC A) from rfl,show bt.new (some (A,c))=none from rfl]
   conv=>whnf
   refine ⟨aO.aW (fun h=>h) (fun r hr=>by rw [kP]; rfl),?_⟩
   conv=>whnf
   refine ⟨_,rfl,?_⟩;obtain ⟨e,he⟩:∃ z,z=bC A:=⟨_,rfl⟩;rw [← he];conv=>whnf
   by_cases h1:e=0
   ·rw [show (e != 0)=false from by simp [h1]]
    conv=>whnf
    refine ⟨some (B,d),[1],by rw [show bt.args (some (B,d))=[.slice (some ⟨0,0,none⟩) nb d] from by rw [dw]; rfl]; rfl,⟨by show B.length≤_; omega,l8⟩,?_⟩
    rw [show bt.aj (some (B,d))=[.flat false nb 6 gb] from by rw [dw,nQ]; rfl,show bt.val (some (B,d))=.int .i64 (bC B) from rfl,show bt.new (some (B,d))=none from rfl]
    conv=>whnf
    refine ⟨aO.aW (fun h=>h) (fun r hr=>by rw [nQ]; rfl),?_⟩
    conv=>whnf
    refine ⟨_,rfl,?_⟩;obtain ⟨e2,cE⟩:∃ z,z=bC B:=⟨_,rfl⟩;rw [← cE];conv=>whnf
    by_cases J:e2=0
    ·rw [show (e2 != 0)=false from by simp [J]]
     have At:bC A=0:=by rw [← he]; exact h1
     have DL:bC B=0:=by rw [← cE]; exact J
     have ba:=ba At DL;have hzA:=pY At;have hzB:=pY DL;have Jp:ga=bW (aV A):=by rw [FN At,kP]
     have hnA:na=(aV A).length:=by rw [dp,gA]
     conv=>whnf
     intro yl nu fn tm df;conv=>whnf
     refine .inl ⟨fun mm tz hz=>∃ (j:Nat) (p:Nat) (F:Nat→List Value),bA (some (.func (.yield yl) #[] #[])::some (.pointer (some ⟨3,0,none⟩))::aB 3 (some (.slice (some ⟨1,0,none⟩) nb d)::some (.int .i64 nb)::some (.int .i64 j)::aB 17 [])) tz∧hz=[some (.flat false na 6 ga),some (.flat false nb 6 gb),some (.aL true 1 [[adr (.slice (some ⟨0,0,none⟩) na c) p j]]),some (.aL true 1 [[.slice (some ⟨1,0,none⟩) nb d]]),some (.b9 (qR Tryz.f16 fn tm df))]++ads F p j∧nb - j=mm∧((j≤nb∧(0 < j→p=(jq (aV A) (aV B) j).length))∧(0 < j→∀ r,r < p→F r=bW (jq (aV A) (aV B) j) r)),.inr ⟨[0,1,2,3,4],[0,1,5,6,7],?_⟩,?_⟩
     ·conv=>whnf
      intro _;conv=>whnf
      refine ⟨_,0,0,fun _=>[],(.aa (.aa (.sk 3 (.aa (.aa (.aa (.sk 17 .nil rfl)))) rfl))),rfl,rfl,?_⟩
      exact ⟨⟨Nat.zero_le _,fun h=>absurd h (Nat.lt_irrefl 0)⟩,fun h=>absurd h (Nat.lt_irrefl 0)⟩
     rintro mm aS _ ⟨j,p,F,au,rfl,rfl,⟨⟨hj,vC⟩,hF⟩⟩
     obtain ⟨az,rfl⟩:∃ az:Nat→Value,aS=.func (.yield yl) #[] #[]::.pointer (some ⟨3,0,none⟩)::zs az 2 3 (.slice (some ⟨1,0,none⟩) nb d::.int .i64 nb::.int .i64 j::zs az 8 17 []):=bJ au;clear au;cases j with
     | zero =>
      conv=>whnf
      refine aI (fun h3=>?_) (fun h3=>?_)
      ·have h3:0 < nb:=by
        have:=of_decide_eq_true h3;omega
       have e7:IntKind.i64.wrap (((0:Nat):Int)+1)=((0+1:Nat):Int):=by rw [ar (by omega) (by omega)]; rfl
       obtain ⟨a,b,ra,rb,⟨ma,mb⟩,g0,cD,_,_⟩:=tN dw h3;have sa:=l8 a ma;have sb:=l8 b mb;have cR:=lQ h3 (by omega)
       obtain ⟨u,hu⟩:∃ u,u=bg nb (0):=⟨_,rfl⟩;rw [← hu] at cR cD rb;rw [← nQ] at ra rb;obtain ⟨vM,vN⟩:=ba (0) (by rw [dp]; omega)
       have hf:=FO (a:=a.p) (b:=b.p) vM vN (PV.c9 sa (by decide)) (PV.c9 sb (by decide))
       obtain ⟨C,hC⟩:∃ C,C=fh (eL a.p b.p) (jq (aV A) (aV B) (0)):=⟨_,rfl⟩;obtain ⟨R,hR⟩:∃ R,R=fL C:=⟨_,rfl⟩;have n6:=EG g0 hC hR;obtain ⟨m,hm⟩:∃ m,m=C.length:=⟨_,rfl⟩;obtain ⟨q,hq⟩:∃ m,m=R.length:=⟨_,rfl⟩;conv=>whnf
       refine ⟨⟨by omega,by omega⟩,?_⟩
       simp only [toNat_cast,ax,Nat.zero_add];conv=>whnf
       refine ⟨by show 0 < nb; omega,?_⟩
       conv=>whnf
       rw [ra];conv=>whnf
       refine .inl ⟨10,[[],[],[],[],[3],[],[5],[3,4,5,6],[2,3,4,5,6,7],[2,3,4,5,6,7,8],[0,1,2,3,4,5,6,7,8,9],[0,1,2,3,4,5,6,7,8,9,10]],by kernel_rfl,?_⟩
       conv=>whnf
       rw [show decide ((nb:Int)≠0)=true from decide_eq_true (by omega)]
       conv=>whnf
       rw [cR];refine ⟨⟨by omega,by omega⟩,?_⟩
       simp only [toNat_cast,ax,Nat.zero_add];conv=>whnf
       refine ⟨by show u < nb; omega,?_⟩
       conv=>whnf
       rw [rb];conv=>whnf
       refine ⟨rfl,?_⟩;conv=>whnf
       refine ⟨rfl,?_⟩;conv=>whnf
       refine ⟨rfl,?_⟩;conv=>whnf
       refine ⟨(some (aV A,c),(a,b)),[0,18,19,20],rfl,⟨vM,vN,sa,sb⟩,?_⟩;rw [show iC.aj (some (aV A,c),(a,b))=[.flat false na 6 ga,.aL false 1 [[.slice (some ⟨0,0,none⟩) na c]],.aL false 6 [a.cells],.aL false 6 [b.cells]] from by rw [hnA,Jp]; rfl,show iC.val (some (aV A,c),(a,b))=eK 4 m from by rw [hm,hC]; rfl]
       rw [show iC.new (some (aV A,c),(a,b))=cX C from by rw [hC]; rfl]
       cases m with
       | zero =>
        obtain rfl:C=[]:=List.eq_nil_of_length_eq_zero hm.symm;conv=>whnf
        refine ⟨.inl (aO.aW (fun h=>h) (fun r hr=>by rw [Jp]; rfl)),?_⟩
        conv=>whnf
        refine ⟨.inr ⟨_,_,_,_,rfl,rfl,rfl⟩,?_⟩;conv=>whnf
        refine ⟨.inr ⟨_,_,_,_,rfl,rfl,rfl⟩,?_⟩;conv=>whnf
        refine ⟨.inr ⟨_,_,_,_,rfl,rfl,rfl⟩,?_⟩;conv=>whnf
        refine ⟨_,rfl,?_⟩;conv=>whnf
        refine ⟨none,[],rfl,⟨Nat.zero_le _,fun v hv=>nomatch hv⟩,?_⟩
        rw [show fk.aj none=[] from rfl,show fk.val none=.slice none 0 0 from rfl,show fk.new none=none from rfl]
        conv=>whnf
        refine ⟨_,rfl,?_⟩;conv=>whnf
        rw [show fL []=[] from rfl] at hR
        subst hR;refine ⟨rfl,?_⟩;conv=>whnf
        rw [e7];refine .inr ⟨[0,1,2,3,4],[0,1,5,6,7],?_⟩;conv=>whnf
        intro _;conv=>whnf
        refine ⟨_,?_,0+1,0,fun _=>[],(.aa (.aa (.sk 3 (.aa (.aa (.aa (.sk 17 .nil rfl)))) rfl))),rfl,rfl,?_⟩
        ·omega
        ·exact ⟨⟨by omega,fun _=>congrArg List.length n6⟩,fun _ r hr=>absurd hr (Nat.not_lt_zero r)⟩
       | succ m =>
        rw [show cX C=some (.flat true (m+1) 6 (bW C)) from by unfold cX; rw [← hm]]
        conv=>whnf
        refine ⟨.inl (aO.aW (fun h=>h) (fun r hr=>by rw [Jp]; rfl)),?_⟩
        conv=>whnf
        refine ⟨.inr ⟨_,_,_,_,rfl,rfl,rfl⟩,?_⟩;conv=>whnf
        refine ⟨.inr ⟨_,_,_,_,rfl,rfl,rfl⟩,?_⟩;conv=>whnf
        refine ⟨.inr ⟨_,_,_,_,rfl,rfl,rfl⟩,?_⟩;conv=>whnf
        refine ⟨_,rfl,?_⟩;conv=>whnf
        refine ⟨some (C,aK),[21],by rw [show fk.args (some (C,aK))=[.slice (some ⟨0,0,none⟩) (m+1) aK] from by rw [hm]; rfl]; rfl,⟨by rw [hC]; exact hf.1,fun v hv=>hf.2 v (by rw [← hC]; exact hv)⟩,?_⟩
        obtain ⟨G,hG⟩:∃ G,G=bW C:=⟨_,rfl⟩;rw [← hG,show fk.aj (some (C,aK))=[.flat false (m+1) 6 G] from by rw [hm,hG]; rfl,show fk.val (some (C,aK))=eK 1 q from by rw [hq,hR]; rfl,show fk.new (some (C,aK))=cX R from by rw [hR]; rfl]
        cases q with
        | zero =>
         obtain rfl:R=[]:=List.eq_nil_of_length_eq_zero hq.symm;conv=>whnf
         refine ⟨aO.aW (fun h=>by cases h) (fun r hr=>by rw [hG]; rfl),?_⟩
         conv=>whnf
         refine ⟨_,rfl,?_⟩;conv=>whnf
         refine ⟨rfl,?_⟩;conv=>whnf
         rw [e7];refine .inr ⟨[0,1,2,3,4],[0,1,5,6,7],?_⟩;conv=>whnf
         intro _;conv=>whnf
         refine ⟨_,?_,0+1,0,fun _=>[],(.aa (.aa (.sk 3 (.aa (.aa (.aa (.sk 17 .nil rfl)))) rfl))),rfl,rfl,?_⟩
         ·omega
         ·exact ⟨⟨by omega,fun _=>congrArg List.length n6⟩,fun _ r hr=>absurd hr (Nat.not_lt_zero r)⟩
        | succ q =>
         obtain ⟨E,hE⟩:∃ G,G=bW R:=⟨_,rfl⟩;rw [show cX R=some (.flat true (q+1) 6 E) from by unfold cX; rw [← hq,hE]]
         conv=>whnf
         refine ⟨aO.aW (fun h=>by cases h) (fun r hr=>by rw [hG]; rfl),?_⟩
         conv=>whnf
         refine ⟨_,rfl,?_⟩;conv=>whnf
         refine ⟨rfl,?_⟩;conv=>whnf
         rw [e7];refine .inr ⟨[0,1,2,3,4,22],[0,1,5,6,7],?_⟩;conv=>whnf
         intro _;conv=>whnf
         refine ⟨_,?_,0+1,q+1,E,(.aa (.aa (.sk 3 (.aa (.aa (.aa (.sk 17 .nil rfl)))) rfl))),rfl,rfl,?_⟩
         ·omega
         ·exact ⟨⟨by omega,fun _=>hq.trans (congrArg List.length n6)⟩,fun _ r hr=>by rw [hE,n6]⟩
      ·have:=of_decide_eq_false h3;omega
     | succ j =>
      have nK:=vC (Nat.succ_pos j);have DM:=hF (Nat.succ_pos j);obtain ⟨S,hS⟩:∃ S,S=jq (aV A) (aV B) (j+1):=⟨_,rfl⟩;rw [← hS] at nK DM;cases p with
      | zero =>
       obtain rfl:S=[]:=List.eq_nil_of_length_eq_zero nK.symm;conv=>whnf
       refine aI (fun h3=>?_) (fun h3=>?_)
       ·have h3:(j+1) < nb:=by
         have:=of_decide_eq_true h3;omega
        have e7:IntKind.i64.wrap ((((j+1):Nat):Int)+1)=(((j+1)+1:Nat):Int):=by rw [ar (by omega) (by omega)]; rfl
        obtain ⟨a,b,ra,rb,⟨ma,mb⟩,g0,cD,_,_⟩:=tN dw h3;have sa:=l8 a ma;have sb:=l8 b mb;have cR:=lQ h3 (by omega)
        obtain ⟨u,hu⟩:∃ u,u=bg nb ((j+1)):=⟨_,rfl⟩;rw [← hu] at cR cD rb;rw [← nQ] at ra rb;obtain ⟨vM,vN⟩:=ba ((j+1)) (by rw [dp]; omega)
        have hf:=FO (a:=a.p) (b:=b.p) vM vN (PV.c9 sa (by decide)) (PV.c9 sb (by decide))
        obtain ⟨C,hC⟩:∃ C,C=fh (eL a.p b.p) (jq (aV A) (aV B) ((j+1))):=⟨_,rfl⟩;obtain ⟨R,hR⟩:∃ R,R=fL C:=⟨_,rfl⟩;have n6:=EG g0 hC hR;obtain ⟨m,hm⟩:∃ m,m=C.length:=⟨_,rfl⟩;obtain ⟨q,hq⟩:∃ m,m=R.length:=⟨_,rfl⟩;conv=>whnf
        refine ⟨⟨by omega,by omega⟩,?_⟩
        simp only [toNat_cast,ax,Nat.zero_add];conv=>whnf
        refine ⟨by show (j+1) < nb; omega,?_⟩
        conv=>whnf
        rw [ra];conv=>whnf
        refine .inl ⟨10,[[],[],[],[],[3],[],[5],[3,4,5,6],[2,3,4,5,6,7],[2,3,4,5,6,7,8],[0,1,2,3,4,5,6,7,8,9],[0,1,2,3,4,5,6,7,8,9,10]],by kernel_rfl,?_⟩
        conv=>whnf
        rw [show decide ((nb:Int)≠0)=true from decide_eq_true (by omega)]
        conv=>whnf
        rw [cR];refine ⟨⟨by omega,by omega⟩,?_⟩
        simp only [toNat_cast,ax,Nat.zero_add];conv=>whnf
        refine ⟨by show u < nb; omega,?_⟩
        conv=>whnf
        rw [rb];conv=>whnf
        refine ⟨rfl,?_⟩;conv=>whnf
        refine ⟨rfl,?_⟩;conv=>whnf
        refine ⟨rfl,?_⟩;conv=>whnf
        refine ⟨(none,(a,b)),[18,19,20],rfl,⟨Nat.zero_le _,(fun v hv=>nomatch hv),sa,sb⟩,?_⟩
        rw [show iC.aj (none,(a,b))=[.aL false 1 [[.slice none 0 0]],.aL false 6 [a.cells],.aL false 6 [b.cells]] from rfl,show iC.val (none,(a,b))=.slice none 0 0 from rfl,show iC.new (none,(a,b))=none from rfl]
        conv=>whnf
        refine ⟨.inr ⟨_,_,_,_,rfl,rfl,rfl⟩,?_⟩;conv=>whnf
        refine ⟨.inr ⟨_,_,_,_,rfl,rfl,rfl⟩,?_⟩;conv=>whnf
        refine ⟨.inr ⟨_,_,_,_,rfl,rfl,rfl⟩,?_⟩;conv=>whnf
        refine ⟨_,rfl,?_⟩;conv=>whnf
        refine ⟨none,[],rfl,⟨Nat.zero_le _,fun v hv=>nomatch hv⟩,?_⟩
        rw [show fk.aj none=[] from rfl,show fk.val none=.slice none 0 0 from rfl,show fk.new none=none from rfl]
        conv=>whnf
        refine ⟨_,rfl,?_⟩;conv=>whnf
        obtain rfl:C=[]:=by rw [hC,← hS]; rfl
        rw [show fL []=[] from rfl] at hR
        subst hR;refine ⟨rfl,?_⟩;conv=>whnf
        rw [e7];refine .inr ⟨[0,1,2,3,4],[0,1,5,6,7],?_⟩;conv=>whnf
        intro _;conv=>whnf
        refine ⟨_,?_,(j+1)+1,0,fun _=>[],(.aa (.aa (.sk 3 (.aa (.aa (.aa (.sk 17 .nil rfl)))) rfl))),rfl,rfl,?_⟩
        ·omega
        ·exact ⟨⟨by omega,fun _=>congrArg List.length n6⟩,fun _ r hr=>absurd hr (Nat.not_lt_zero r)⟩
       ·have h3:j+1=nb:=by
         have:=of_decide_eq_false h3;omega
        conv=>whnf
        exact sW 11 _ ((N1 ⟨At,DL⟩ (R:=[]) (by rw [← dw,← h3]; exact hS)).trans (WH rfl))
      | succ p =>
       conv=>whnf
       refine aI (fun h3=>?_) (fun h3=>?_)
       ·have h3:(j+1) < nb:=by
         have:=of_decide_eq_true h3;omega
        have e7:IntKind.i64.wrap ((((j+1):Nat):Int)+1)=(((j+1)+1:Nat):Int):=by rw [ar (by omega) (by omega)]; rfl
        obtain ⟨a,b,ra,rb,⟨ma,mb⟩,g0,cD,_,_⟩:=tN dw h3;have sa:=l8 a ma;have sb:=l8 b mb;have cR:=lQ h3 (by omega)
        obtain ⟨u,hu⟩:∃ u,u=bg nb ((j+1)):=⟨_,rfl⟩;rw [← hu] at cR cD rb;rw [← nQ] at ra rb;obtain ⟨vM,vN⟩:=ba ((j+1)) (by rw [dp]; omega)
        have hf:=FO (a:=a.p) (b:=b.p) vM vN (PV.c9 sa (by decide)) (PV.c9 sb (by decide))
        obtain ⟨C,hC⟩:∃ C,C=fh (eL a.p b.p) (jq (aV A) (aV B) ((j+1))):=⟨_,rfl⟩;obtain ⟨R,hR⟩:∃ R,R=fL C:=⟨_,rfl⟩;have n6:=EG g0 hC hR;obtain ⟨m,hm⟩:∃ m,m=C.length:=⟨_,rfl⟩;obtain ⟨q,hq⟩:∃ m,m=R.length:=⟨_,rfl⟩;conv=>whnf
        refine ⟨⟨by omega,by omega⟩,?_⟩
        simp only [toNat_cast,ax,Nat.zero_add];conv=>whnf
        refine ⟨by show (j+1) < nb; omega,?_⟩
        conv=>whnf
        rw [ra];conv=>whnf
        refine .inl ⟨10,[[],[],[],[],[3],[],[5],[3,4,5,6],[2,3,4,5,6,7],[2,3,4,5,6,7,8],[0,1,2,3,4,5,6,7,8,9],[0,1,2,3,4,5,6,7,8,9,10]],by kernel_rfl,?_⟩
        conv=>whnf
        rw [show decide ((nb:Int)≠0)=true from decide_eq_true (by omega)]
        conv=>whnf
        rw [cR];refine ⟨⟨by omega,by omega⟩,?_⟩
        simp only [toNat_cast,ax,Nat.zero_add];conv=>whnf
        refine ⟨by show u < nb; omega,?_⟩
        conv=>whnf
        rw [rb];conv=>whnf
        refine ⟨rfl,?_⟩;conv=>whnf
        refine ⟨rfl,?_⟩;conv=>whnf
        refine ⟨rfl,?_⟩;conv=>whnf
        refine ⟨(some (S,aK),(a,b)),[5,19,20,21],by rw [show iC.args (some (S,aK),(a,b))=[.func (.func 114) #[] #[.pointer (some ⟨1,0,none⟩),.pointer (some ⟨2,0,none⟩),.pointer (some ⟨3,0,none⟩)]] from rfl]; rfl,⟨by rw [hS]; exact vM,by rw [hS]; exact vN,sa,sb⟩,?_⟩
        rw [show iC.aj (some (S,aK),(a,b))=[.flat false (p+1) 6 (bW S),.aL false 1 [[.slice (some ⟨0,0,none⟩) (p+1) aK]],.aL false 6 [a.cells],.aL false 6 [b.cells]] from by rw [nK]; rfl,show iC.val (some (S,aK),(a,b))=eK 4 m from by rw [hm,hC,← hS]; rfl]
        rw [show iC.new (some (S,aK),(a,b))=cX C from by rw [hC,← hS]; rfl]
        cases m with
        | zero =>
         obtain rfl:C=[]:=List.eq_nil_of_length_eq_zero hm.symm;conv=>whnf
         refine ⟨.inl (aO.rP (fun h=>by cases h) DM (fun r hr=>rfl)),?_⟩
         conv=>whnf
         refine ⟨.inr ⟨_,_,_,_,rfl,rfl,rfl⟩,?_⟩;conv=>whnf
         refine ⟨.inr ⟨_,_,_,_,rfl,rfl,rfl⟩,?_⟩;conv=>whnf
         refine ⟨.inr ⟨_,_,_,_,rfl,rfl,rfl⟩,?_⟩;conv=>whnf
         refine ⟨_,rfl,?_⟩;conv=>whnf
         refine ⟨none,[],rfl,⟨Nat.zero_le _,fun v hv=>nomatch hv⟩,?_⟩
         rw [show fk.aj none=[] from rfl,show fk.val none=.slice none 0 0 from rfl,show fk.new none=none from rfl]
         conv=>whnf
         refine ⟨_,rfl,?_⟩;conv=>whnf
         rw [show fL []=[] from rfl] at hR
         subst hR;refine ⟨rfl,?_⟩;conv=>whnf
         rw [e7];refine .inr ⟨[0,1,2,3,4],[0,1,5,6,7],?_⟩;conv=>whnf
         intro _;conv=>whnf
         refine ⟨_,?_,(j+1)+1,0,fun _=>[],(.aa (.aa (.sk 3 (.aa (.aa (.aa (.sk 17 .nil rfl)))) rfl))),rfl,rfl,?_⟩
         ·omega
         ·exact ⟨⟨by omega,fun _=>congrArg List.length n6⟩,fun _ r hr=>absurd hr (Nat.not_lt_zero r)⟩
        | succ m =>
         rw [show cX C=some (.flat true (m+1) 6 (bW C)) from by unfold cX; rw [← hm]]
         conv=>whnf
         refine ⟨.inl (aO.rP (fun h=>by cases h) DM (fun r hr=>rfl)),?_⟩
         conv=>whnf
         refine ⟨.inr ⟨_,_,_,_,rfl,rfl,rfl⟩,?_⟩;conv=>whnf
         refine ⟨.inr ⟨_,_,_,_,rfl,rfl,rfl⟩,?_⟩;conv=>whnf
         refine ⟨.inr ⟨_,_,_,_,rfl,rfl,rfl⟩,?_⟩;conv=>whnf
         refine ⟨_,rfl,?_⟩;conv=>whnf
         refine ⟨some (C,aK),[22],by rw [show fk.args (some (C,aK))=[.slice (some ⟨0,0,none⟩) (m+1) aK] from by rw [hm]; rfl]; rfl,⟨by rw [hC]; exact hf.1,fun v hv=>hf.2 v (by rw [← hC]; exact hv)⟩,?_⟩
         obtain ⟨G,hG⟩:∃ G,G=bW C:=⟨_,rfl⟩;rw [← hG,show fk.aj (some (C,aK))=[.flat false (m+1) 6 G] from by rw [hm,hG]; rfl,show fk.val (some (C,aK))=eK 1 q from by rw [hq,hR]; rfl,show fk.new (some (C,aK))=cX R from by rw [hR]; rfl]
         cases q with
         | zero =>
          obtain rfl:R=[]:=List.eq_nil_of_length_eq_zero hq.symm;conv=>whnf
          refine ⟨aO.aW (fun h=>by cases h) (fun r hr=>by rw [hG]; rfl),?_⟩
          conv=>whnf
          refine ⟨_,rfl,?_⟩;conv=>whnf
          refine ⟨rfl,?_⟩;conv=>whnf
          rw [e7];refine .inr ⟨[0,1,2,3,4],[0,1,5,6,7],?_⟩;conv=>whnf
          intro _;conv=>whnf
          refine ⟨_,?_,(j+1)+1,0,fun _=>[],(.aa (.aa (.sk 3 (.aa (.aa (.aa (.sk 17 .nil rfl)))) rfl))),rfl,rfl,?_⟩
          ·omega
          ·exact ⟨⟨by omega,fun _=>congrArg List.length n6⟩,fun _ r hr=>absurd hr (Nat.not_lt_zero r)⟩
         | succ q =>
          obtain ⟨E,hE⟩:∃ G,G=bW R:=⟨_,rfl⟩;rw [show cX R=some (.flat true (q+1) 6 E) from by unfold cX; rw [← hq,hE]]
          conv=>whnf
          refine ⟨aO.aW (fun h=>by cases h) (fun r hr=>by rw [hG]; rfl),?_⟩
          conv=>whnf
          refine ⟨_,rfl,?_⟩;conv=>whnf
          refine ⟨rfl,?_⟩;conv=>whnf
          rw [e7];refine .inr ⟨[0,1,2,3,4,23],[0,1,5,6,7],?_⟩;conv=>whnf
          intro _;conv=>whnf
          refine ⟨_,?_,(j+1)+1,q+1,E,(.aa (.aa (.sk 3 (.aa (.aa (.aa (.sk 17 .nil rfl)))) rfl))),rfl,rfl,?_⟩
          ·omega
          ·exact ⟨⟨by omega,fun _=>hq.trans (congrArg List.length n6)⟩,fun _ r hr=>by rw [hE,n6]⟩
       ·have h3:j+1=nb:=by
         have:=of_decide_eq_false h3;omega
        have hv:=N1 ⟨At,DL⟩ (R:=S) (by rw [← dw,← h3]; exact hS)
        conv=>whnf
        by_cases h6:64 < p+1
        ·rw [show decide (((p+1:Nat):Int) > 64)=true from decide_eq_true (by omega)]
         conv=>whnf
         exact sW 4 _ (hv.trans (WI (by omega)))
        ·rw [show decide (((p+1:Nat):Int) > 64)=false from decide_eq_false (by omega)]
         conv=>whnf
         rw [hK];unfold iV;rw [N0 (by omega) (by omega)] at hv
         rw [show jr.new (some (A,c),some (B,d))=some (.flat true (p+1) 6 (bW S)) from by show cX (gZ A B).1=_; rw [hv]; unfold cX; rw [← nK],show jr.val (some (A,c),some (B,d))=.tuple ⟨[.slice (some ⟨2,0,none⟩) (p+1) aK,.int .i64 0]⟩ from by show Value.tuple ⟨[eK _ (gZ A B).1.length,.int .i64 (gZ A B).2]⟩=_; rw [hv,← nK]; rfl]
         refine ⟨5,?_⟩;conv=>whnf
         exact ⟨⟨rfl,aO.rP (fun h=>h) DM (fun r hr=>rfl)⟩,_,rfl,.refl _⟩
    ·rw [show (e2 != 0)=true from by simp [J]]
     conv=>whnf
     exact sW 1 _ (Hk fun h=>J (by rw [cE]; exact h.2))
   ·rw [show (e != 0)=true from by simp [h1]]
    conv=>whnf
    exact sW 1 _ (Hk fun h=>h1 (by rw [he]; exact h.1))
open Go Go.Ae
theorem YM:bf Tryz.prog 101 (qW true):=by
 refine bk qK aM Tryz.func101 (enters_of Tryz.func101 (by kernel_rfl) rfl) (fun _=>rfl) (fun _=>rfl) ?_
 intro (z:Int) hp;conv=>whnf
 rfl
theorem YN:bf Tryz.prog 103 (qW false):=by
 refine bk qK aM Tryz.func103 (enters_of Tryz.func103 (by kernel_rfl) rfl) (fun _=>rfl) (fun _=>rfl) ?_
 intro (z:Int) hp;conv=>whnf
 rfl
theorem YO:bf Tryz.prog 105 (qW true):=by
 refine bk qK aM Tryz.func105 (enters_of Tryz.func105 (by kernel_rfl) rfl) (fun _=>rfl) (fun _=>rfl) ?_
 intro (z:Int) hp;conv=>whnf
 rfl
def Jq:Env:=En [(32,.p mw),(101,.p (qW true)),(103,.p (qW false)),(105,.p (qW true))]
theorem acn:EnvOk Tryz.prog Jq:=bI ⟨Fj,YM,YN,YO,trivial⟩ trivial
theorem Th:gi Tryz.prog 168 (ck Jq cL Tryz.f168):=by
 exact js acn aM Tryz.func168 (enters_of Tryz.func168 (by kernel_rfl) rfl)
def Jr:Env:=En [] [(168,ck Jq cL Tryz.f168)]
theorem aco:EnvOk Tryz.prog Jr:=bI trivial ⟨Th,trivial⟩
theorem Up:gi Tryz.prog 106 (ck Jr cL Tryz.f106):=by
 exact js aco aM Tryz.func106 (enters_of Tryz.func106 (by kernel_rfl) rfl)
def Js:Env:=En [] [(106,ck Jr cL Tryz.f106)]
theorem acp:EnvOk Tryz.prog Js:=bI trivial ⟨Up,trivial⟩
theorem Rp:gi Tryz.prog 49 (ck Js cL Tryz.f49):=by
 exact js acp aM Tryz.func49 (enters_of Tryz.func49 (by kernel_rfl) rfl)
def QE:Env:=En [] [(49,ck Js cL Tryz.f49),(64,ck mV cL Tryz.f64)] [(118,uf)]
theorem acq:EnvOk Tryz.prog QE:=bI trivial ⟨Rp,wI,trivial⟩
theorem aa1:gL Tryz.prog QE:=vE ⟨wq,trivial⟩
abbrev kg:cI:=xI 101 103 105 ik
abbrev nR:cI:=xI 101 103 105 kE
theorem Uq:dc Tryz.prog 144 kg:=by
 refine eg acq aM Tryz.func144 (enters_of Tryz.func144 (by kernel_rfl) rfl) ?_ ?_ ?_ (hI:=aa1)
 ·intro i b hb; simp [kg,xI] at hb; rcases hb with rfl | rfl <;> rfl
 ·intro i b hb; simp [kg,xI] at hb
 intro ⟨⟨⟨A,c⟩,⟨B,d⟩⟩,f,s⟩ hp;have hp:((f,s)=(101,true)∨(f,s)=(103,false)∨(f,s)=(105,true))∧(A.length≤1073741824∧∀ v∈A,Q2.sz 2048 v)∧B.length≤1073741824∧∀ v∈B,Q2.sz 2048 v:=hp;obtain ⟨vB,⟨hla,Au⟩,hlb,DN⟩:=hp;obtain ⟨n,hn⟩:∃ n,n=A.length:=⟨_,rfl⟩;obtain ⟨g,hg⟩:∃ g,g=bW A:=⟨_,rfl⟩;obtain ⟨m,hm⟩:∃ n,n=B.length:=⟨_,rfl⟩;obtain ⟨g2,xX⟩:∃ g,g=bW B:=⟨_,rfl⟩;obtain ⟨K,hK⟩:∃ K,K=iV kg (((A,c),(B,d)),(f,s)):=⟨_,rfl⟩;have fin:∀ (x:XV) (z:Bool) (H:aw),gI (ik s A B)=(x,z)→K (.tuple ⟨[x.v,.bool z]⟩) H:=fun x z H h=>by
  rw [hK];unfold iV;rw [show kg.new (((A,c),(B,d)),(f,s))=none from rfl,show kg.val (((A,c),(B,d)),(f,s))=.tuple ⟨[x.v,.bool z]⟩ from by show Value.tuple ⟨[(gI (ik s A B)).1.v,.bool (gI (ik s A B)).2]⟩=_; rw [h]]
  exact ⟨_,rfl,.refl _⟩
 rw [show kg.aj (((A,c),(B,d)),(f,s))=[.flat false n 6 g,.flat false m 6 g2] from by rw [hn,hg,hm,xX]; rfl,show kg.args (((A,c),(B,d)),(f,s))=[.slice (some ⟨0,0,none⟩) n c,.slice (some ⟨1,0,none⟩) m d,.func (.func f) #[] #[]] from by rw [hn,hm]; rfl,← hK]
 rw [← hn] at hla;rw [← hm] at hlb;conv=>whnf
 intro yl nu fn tm df;conv=>whnf
 refine .inl ⟨fun mm tz hz=>∃ (j:Nat),bA (some (.func (.yield yl) #[] #[])::some (.pointer (some ⟨6,0,none⟩))::aB 3 (some (.slice (some ⟨0,0,none⟩) n c)::some (.int .i64 n)::some (.int .i64 j)::aB 17 [])) tz∧hz=[some (.flat false n 6 g),some (.flat false m 6 g2),some (.aL true 1 [[.slice (some ⟨1,0,none⟩) m d]]),some (.aL true 1 [[.func (.func f) #[] #[]]]),some (.aL true 12 [np.cells]),some (.aL true 1 [[.bool false]]),some (.aL true 1 [[.slice (some ⟨0,0,none⟩) n c]]),some (.b9 (qR Tryz.f144 fn tm df))]∧n - j=mm∧(j≤n∧nY (nC s B) (a8 A) j),.inr ⟨[0,1,2,3,4,5,6,7],[0,1,5,6,7],?_⟩,?_⟩
 ·conv=>whnf
  intro _;conv=>whnf
  refine ⟨_,0,(.aa (.aa (.sk 3 (.aa (.aa (.aa (.sk 17 .nil rfl)))) rfl))),rfl,rfl,?_⟩;exact ⟨Nat.zero_le _,D3 _ _⟩
 rintro mm aS _ ⟨j,au,rfl,rfl,⟨hj,hU⟩⟩
 obtain ⟨az,rfl⟩:∃ az:Nat→Value,aS=.func (.yield yl) #[] #[]::.pointer (some ⟨6,0,none⟩)::zs az 2 3 (.slice (some ⟨0,0,none⟩) n c::.int .i64 n::.int .i64 j::zs az 8 17 []):=bJ au;clear au;conv=>whnf
 refine aI (fun h3=>?_) (fun h3=>?_)
 ·have h3:j < n:=by
   have:=of_decide_eq_true h3;omega
  have e7:IntKind.i64.wrap ((j:Int)+1)=((j+1:Nat):Int):=by rw [ar (by omega) (by omega)]; rfl
  obtain ⟨a,ca,ra,pa,sa,qa⟩:=ib (L:=A) (k:=j) (by omega) Au
  obtain ⟨b,cb,rb,pb,sb,qb⟩:=ib (L:=A) (k:=bg n j) (by rw [hn]; exact cV (by omega)) Au
  have cR:=lQ h3 (by omega)
  have cD:=cV h3;have g0:(a8 A)[j]?=some (a.p,b.p):=by rw [pa,pb]; rw [hn] at cD ⊢; exact rQ (hJ (by omega)) (hJ cD)
  rw [← pa] at ca;rw [← pb] at cb;obtain ⟨u,hu⟩:∃ u,u=bg n j:=⟨_,rfl⟩;rw [← hu] at cR cD rb;rw [← hg] at ra rb;conv=>whnf
  refine ⟨⟨by omega,by omega⟩,?_⟩
  simp only [toNat_cast,ax,Nat.zero_add];conv=>whnf
  refine ⟨by show j < n; omega,?_⟩
  conv=>whnf
  rw [ra];conv=>whnf
  refine .inl ⟨10,[[],[],[],[],[3],[],[5],[3,4,5,6],[2,3,4,5,6,7],[2,3,4,5,6,7,8],[0,1,2,3,4,5,6,7,8,9],[0,1,2,3,4,5,6,7,8,9,10]],by kernel_rfl,?_⟩
  conv=>whnf
  rw [show decide ((n:Int)≠0)=true from decide_eq_true (by omega)]
  conv=>whnf
  rw [cR];refine ⟨⟨by omega,by omega⟩,?_⟩
  simp only [toNat_cast,ax,Nat.zero_add];conv=>whnf
  refine ⟨by show u < n; omega,?_⟩
  conv=>whnf
  rw [rb];conv=>whnf
  refine ⟨rfl,?_⟩;conv=>whnf
  refine ⟨rfl,?_⟩;conv=>whnf
  refine ⟨rfl,?_⟩;conv=>whnf
  refine .inl ⟨fun mm tz hz=>∃ (i:Nat),bA (some (.slice (some ⟨1,0,none⟩) m d)::some (.func (.func 168) #[] #[.pointer (some ⟨3,0,none⟩),.pointer (some ⟨19,0,none⟩),.pointer (some ⟨20,0,none⟩)])::aB 5 (some (.int .i64 m)::some (.int .i64 i)::aB 10 [])) tz∧hz=[some (.flat false n 6 g),some (.flat false m 6 g2),some (.aL true 1 [[.slice (some ⟨1,0,none⟩) m d]]),some (.aL true 1 [[.func (.func f) #[] #[]]]),some (.aL true 12 [np.cells]),some (.aL true 1 [[.bool false]]),some (.aL true 1 [[.slice (some ⟨0,0,none⟩) n c]]),some (.b9 { qR Tryz.f144 fn tm df with state:=.busy }),some (.aL true 6 [a.cells]),none,none,none,none,none,none,none,none,none,none,some (.aL true 6 [a.cells]),some (.aL true 6 [b.cells])]∧m - i=mm∧(i≤m∧nY (sU s a.p b.p) B i),.inr ⟨[0,1,2,3,4,5,6,7,8,9,10,11,12,13,14,15,16,17,18,19,20],[0,1,7,8],?_⟩,?_⟩
  ·conv=>whnf
   intro _;conv=>whnf
   refine ⟨_,0,(.aa (.aa (.sk 5 (.aa (.aa (.sk 10 .nil rfl))) rfl))),rfl,rfl,?_⟩;exact ⟨Nat.zero_le _,D3 _ _⟩
  rintro mm aS _ ⟨i,au,rfl,rfl,⟨hi,hV⟩⟩
  obtain ⟨az,rfl⟩:∃ az:Nat→Value,aS=.slice (some ⟨1,0,none⟩) m d::.func (.func 168) #[] #[.pointer (some ⟨3,0,none⟩),.pointer (some ⟨19,0,none⟩),.pointer (some ⟨20,0,none⟩)]::zs az 2 5 (.int .i64 m::.int .i64 i::zs az 9 10 []):=bJ au;clear au;conv=>whnf
  refine aI (fun h4=>?_) (fun h4=>?_)
  ·have h4:i < m:=by
    have:=of_decide_eq_true h4;omega
   have e8:IntKind.i64.wrap ((i:Int)+1)=((i+1:Nat):Int):=by rw [ar (by omega) (by omega)]; rfl
   obtain ⟨x,cx,rx,px,sx,qx⟩:=ib (L:=B) (k:=i) (by omega) DN
   rw [← xX] at rx;have Jt:x.p∈B:=by rw [px]; exact fa (by omega)
   have Ju:B[i]?=some x.p:=by rw [px]; exact hJ (by omega)
   conv=>whnf
   refine ⟨⟨by omega,by omega⟩,?_⟩
   simp only [toNat_cast,ax,Nat.zero_add];conv=>whnf
   refine ⟨by show i < m; omega,?_⟩
   conv=>whnf
   rw [rx];conv=>whnf
   refine .inl ⟨5,[[],[],[],[],[1,2,3],[0,1,2,3,4],[0,1,2,3,4,5],[0,1,2,3,4,5,6]],by kernel_rfl,?_⟩
   conv=>whnf
   obtain ⟨z,ez,pz⟩:=dJ (aN (an a.p b.p x.p) 0);refine ⟨(a,b,x),rfl,⟨PV.aJ sa (by decide),PV.aJ sb (by decide),PV.aJ sx (by decide)⟩,?_⟩
   rw [show mw.val (a,b,x)=.int .i64 z from ez]
   conv=>whnf
   obtain ⟨w,hw⟩:∃ w,w=rz s z:=⟨_,rfl⟩;have gO:sU s a.p b.p x.p=!w:=by unfold sU; rw [← pz,← hw]
   rcases vB with h | h | h
   ·obtain ⟨rfl,rfl⟩:=Prod.mk.inj h;refine ⟨(z:Int),rfl,trivial,?_⟩;rw [show (qW true).val z=.bool w from by rw [hw]; rfl]
    conv=>whnf
    cases w with
    | true =>
     conv=>whnf
     rw [e8];refine .inr ⟨[0,1,2,3,4,5,6,7,8,9,10,11,12,13,14,15,16,17,18,19,20],[0,1,7,8],?_⟩;conv=>whnf
     intro _;conv=>whnf
     refine ⟨_,?_,i+1,(.aa (.aa (.sk 5 (.aa (.aa (.sk 10 .nil rfl))) rfl))),rfl,rfl,?_⟩
     ·omega
     ·exact ⟨by omega,tG hV Ju gO⟩
    | false =>
     conv=>whnf
     refine ⟨rfl,?_⟩;conv=>whnf
     rw [e7];refine .inr ⟨[0,1,2,3,4,5,6,7],[0,1,5,6,7],?_⟩;conv=>whnf
     intro _;conv=>whnf
     refine ⟨_,?_,j+1,(.aa (.aa (.sk 3 (.aa (.aa (.aa (.sk 17 .nil rfl)))) rfl))),rfl,rfl,?_⟩
     ·omega
     ·exact ⟨by omega,tG hU g0 (Gk Jt gO)⟩
   ·obtain ⟨rfl,rfl⟩:=Prod.mk.inj h;refine ⟨(z:Int),rfl,trivial,?_⟩;rw [show (qW false).val z=.bool w from by rw [hw]; rfl]
    conv=>whnf
    cases w with
    | true =>
     conv=>whnf
     rw [e8];refine .inr ⟨[0,1,2,3,4,5,6,7,8,9,10,11,12,13,14,15,16,17,18,19,20],[0,1,7,8],?_⟩;conv=>whnf
     intro _;conv=>whnf
     refine ⟨_,?_,i+1,(.aa (.aa (.sk 5 (.aa (.aa (.sk 10 .nil rfl))) rfl))),rfl,rfl,?_⟩
     ·omega
     ·exact ⟨by omega,tG hV Ju gO⟩
    | false =>
     conv=>whnf
     refine ⟨rfl,?_⟩;conv=>whnf
     rw [e7];refine .inr ⟨[0,1,2,3,4,5,6,7],[0,1,5,6,7],?_⟩;conv=>whnf
     intro _;conv=>whnf
     refine ⟨_,?_,j+1,(.aa (.aa (.sk 3 (.aa (.aa (.aa (.sk 17 .nil rfl)))) rfl))),rfl,rfl,?_⟩
     ·omega
     ·exact ⟨by omega,tG hU g0 (Gk Jt gO)⟩
   ·obtain ⟨rfl,rfl⟩:=Prod.mk.inj h;refine ⟨(z:Int),rfl,trivial,?_⟩;rw [show (qW true).val z=.bool w from by rw [hw]; rfl]
    conv=>whnf
    cases w with
    | true =>
     conv=>whnf
     rw [e8];refine .inr ⟨[0,1,2,3,4,5,6,7,8,9,10,11,12,13,14,15,16,17,18,19,20],[0,1,7,8],?_⟩;conv=>whnf
     intro _;conv=>whnf
     refine ⟨_,?_,i+1,(.aa (.aa (.sk 5 (.aa (.aa (.sk 10 .nil rfl))) rfl))),rfl,rfl,?_⟩
     ·omega
     ·exact ⟨by omega,tG hV Ju gO⟩
    | false =>
     conv=>whnf
     refine ⟨rfl,?_⟩;conv=>whnf
     rw [e7];refine .inr ⟨[0,1,2,3,4,5,6,7],[0,1,5,6,7],?_⟩;conv=>whnf
     intro _;conv=>whnf
     refine ⟨_,?_,j+1,(.aa (.aa (.sk 3 (.aa (.aa (.aa (.sk 17 .nil rfl)))) rfl))),rfl,rfl,?_⟩
     ·omega
     ·exact ⟨by omega,tG hU g0 (Gk Jt gO)⟩
  ·have h4:i=m:=by
    have:=of_decide_eq_false h4;omega
   subst h4;conv=>whnf
   refine ⟨rfl,?_⟩;conv=>whnf
   refine fin (a,b) true _ ?_;rw [Vz hU g0 (WK (EE (by rw [← hm]; exact hV)))]
   show ((cA a.p,cA b.p),true)=((a,b),true)
   rw [← ca,← cb]
 ·have h3:j=n:=by
   have:=of_decide_eq_false h3;omega
  subst h3;conv=>whnf
  exact fin np false _ (by rw [VA hn hU]; rfl)
end Go.Proofs.YtlapbjdhekcipaaGreat
