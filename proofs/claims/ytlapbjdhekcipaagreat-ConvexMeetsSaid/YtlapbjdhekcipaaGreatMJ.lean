import Derived.Test.YtlapbjdhekcipaaGreatMI
set_option linter.unusedVariables false
set_option linter.unusedSimpArgs false
set_option maxRecDepth 20000
set_option maxHeartbeats 4000000
namespace Go.Proofs.YtlapbjdhekcipaaGreat
open Go Go.Ae
def mI:Env:=En [(85,.p kC)]
theorem CW:EnvOk Tryz.prog mI:=bH ⟨Ce,trivial⟩ trivial
def ug:Nat→FT→Nu→FT:=fun l G nu=>cl { mI with ys:=[(l,G)],nu:=nu } cK Tryz.f118
theorem wm:zv Tryz.prog 118 ug:=by
 exact ON CW aP Tryz.func118 (enters_of Tryz.func118 (by kernel_rfl) rfl)
theorem wG:gf Tryz.prog 64 (cl mI cK Tryz.f64):=by
 exact ji CW aP Tryz.func64 (enters_of Tryz.func64 (by kernel_rfl) rfl)
def Rb:Env:=En [(32,.p lW)] [(64,cl mI cK Tryz.f64)] [(118,ug)]
theorem acQ:EnvOk Tryz.prog Rb:=bH ⟨FA,trivial⟩ ⟨wG,trivial⟩
theorem abx:gG Tryz.prog Rb:=vy ⟨wm,trivial⟩
theorem Zi:dk Tryz.prog 67 mR:=by
 refine eI acQ aP Tryz.func67 (enters_of Tryz.func67 (by kernel_rfl) rfl) ?_ ?_ ?_ (hI:=abx)
 ·intro ⟨i,_⟩ b hb;cases i with
  | none=>simp [mR,PL.ae] at hb
  | some i=>simp [mR,PL.ae] at hb; rw [hb]; rfl
 ·intro i b hb; simp [mR] at hb
 intro ⟨i,p⟩ hp;have hp:(i.list.length≤1099511627776∧∀ v∈i.list,v.sz 2048)∧p.sz 2048:=hp;obtain ⟨⟨hlen,bc⟩,sp⟩:=hp;have qp:=PV.dy sp (by decide)
 cases i with
 | none =>
  conv=>whnf
  intro yl nu fn tm df;conv=>whnf
  refine .inr ⟨1,?_⟩;conv=>whnf
  exact ⟨.int .i64 1,rfl,.refl _⟩
 | some i =>
  obtain ⟨L,c⟩:=i;have hlen:L.length≤1099511627776:=hlen;have bc:∀ v∈L,PV.sz 2048 v:=bc;obtain ⟨n,hn⟩:∃ n,n=L.length:=⟨_,rfl⟩;obtain ⟨g,hg⟩:∃ g,g=di L:=⟨_,rfl⟩;have fin:∀ z:Int,z=c8 (aV L) p.p→∃ v',cR (List.range 1) 3 (mR.val (some (L,c),p))=some v'∧fe (.int .i64 z) v':=fun z h=>⟨.int .i64 z,by rw [h]; rfl,.refl _⟩
  rw [show mR.ae (some (L,c),p)=[.flat false n 6 g] from by rw [hn,hg]; rfl,show mR.args (some (L,c),p)=[.slice (some ⟨0,0,none⟩) n c,p.v] from by rw [hn]; rfl]
  rw [← hn] at hlen;conv=>whnf
  intro yl nu fn tm df;conv=>whnf
  refine .inl ⟨fun mm tz hz=>∃ (j:Nat) (o:Int),bB (some (.func (.yield yl) #[] #[])::some (.pointer (some ⟨3,0,none⟩))::aG 3 (some (.slice (some ⟨0,0,none⟩) n c)::some (.int .i64 n)::some (.int .i64 j)::aG 17 [])) tz∧hz=[some (.flat false n 6 g),some (.aS true 6 [p.cells]),some (.aS true 1 [[.int .i64 o]]),some (.aS true 1 [[.slice (some ⟨0,0,none⟩) n c]]),some (.cc (qE Tryz.f67 fn tm df))]∧n - j=mm∧(j≤n∧o=ux (aV L) p.p j),.inr ⟨[0,1,2,3,4],[0,1,5,6,7],?_⟩,?_⟩
  ·conv=>whnf
   intro _;conv=>whnf
   refine ⟨_,0,1,(.aa (.aa (.sk 3 (.aa (.aa (.aa (.sk 17 .nil rfl)))) rfl))),rfl,rfl,?_⟩;exact ⟨Nat.zero_le _,rfl⟩
  rintro mm aW _ ⟨j,o,aC,rfl,rfl,⟨hj,ho⟩⟩
  obtain ⟨az,rfl⟩:∃ az:Nat→Value,aW=.func (.yield yl) #[] #[]::.pointer (some ⟨3,0,none⟩)::zs az 2 3 (.slice (some ⟨0,0,none⟩) n c::.int .i64 n::.int .i64 j::zs az 8 17 []):=bI aC;clear aC;conv=>whnf
  refine aN (fun h3=>?_) (fun h3=>?_)
  ·have h3:j < n:=by
    have:=of_decide_eq_true h3;omega
   have e7:IntKind.i64.wrap ((j:Int)+1)=((j+1:Nat):Int):=by rw [ay (by omega) (by omega)]; rfl
   obtain ⟨a,b,ra,rb,⟨ma,mb⟩,gX,cE,_,_⟩:=tO hn h3;have sa:=bc a ma;have sb:=bc b mb;have qa:=PV.dy sa (by decide)
   have qb:=PV.dy sb (by decide)
   have cT:=ld h3 (by omega)
   obtain ⟨u,hu⟩:∃ u,u=aY n j:=⟨_,rfl⟩;rw [← hu] at cT cE rb;rw [← hg] at ra rb;have ax:=Ss (p:=p.p) gX;rw [← ho] at ax;conv=>whnf
   refine ⟨⟨by omega,by omega⟩,?_⟩
   simp only [toNat_cast,aB,Nat.zero_add];conv=>whnf
   refine ⟨by show j < n; omega,?_⟩
   conv=>whnf
   rw [ra];conv=>whnf
   refine .inl ⟨10,[[],[],[],[],[3],[],[5],[3,4,5,6],[2,3,4,5,6,7],[2,3,4,5,6,7,8],[0,1,2,3,4,5,6,7,8,9],[0,1,2,3,4,5,6,7,8,9,10]],by kernel_rfl,?_⟩
   conv=>whnf
   rw [show decide ((n:Int)≠0)=true from decide_eq_true (by omega)]
   conv=>whnf
   rw [cT];refine ⟨⟨by omega,by omega⟩,?_⟩
   simp only [toNat_cast,aB,Nat.zero_add];conv=>whnf
   refine ⟨by show u < n; omega,?_⟩
   conv=>whnf
   rw [rb];conv=>whnf
   refine ⟨rfl,?_⟩;conv=>whnf
   refine ⟨rfl,?_⟩;conv=>whnf
   refine ⟨rfl,?_⟩;conv=>whnf
   refine .inl ⟨5,[[],[],[],[],[1,2,3],[0,1,2,3,4],[0,1,2,3,4,5]],by kernel_rfl,?_⟩
   conv=>whnf
   obtain ⟨z,ez,pz⟩:=eU (a8 (ao a.p b.p p.p) 0);refine ⟨(a,b,p),rfl,⟨PV.aQ sa (by decide),PV.aQ sb (by decide),PV.aQ sp (by decide)⟩,?_⟩
   rw [show lW.val (a,b,p)=.int .i64 z from ez]
   conv=>whnf
   rw [← pz] at ax;refine ⟨rfl,?_⟩;conv=>whnf
   rw [e7];refine .inr ⟨[0,1,2,3,4],[0,1,5,6,7],?_⟩;conv=>whnf
   intro _;conv=>whnf
   refine ⟨_,?_,j+1,if z < o then z else o,(.aa (.aa (.sk 3 (.aa (.aa (.aa (.sk 17 .nil rfl)))) rfl))),rfl,rfl,?_⟩
   ·omega
   ·exact ⟨by omega,ax.symm⟩
  ·have h3:j=n:=by
    have:=of_decide_eq_false h3;omega
   subst h3;conv=>whnf
   exact fin o (ho.trans (by rw [hn]; exact Tv))
def Rc:Env:=En [(56,.q eL)] [(64,cl mI cK Tryz.f64),(49,cl DX cK Tryz.f49)] [(118,ug)]
theorem acR:EnvOk Tryz.prog Rc:=bH ⟨Eu,trivial⟩ ⟨wG,Kr,trivial⟩
theorem aby:gG Tryz.prog Rc:=vy ⟨wm,trivial⟩
theorem yC:dk Tryz.prog 23 aX:=by
 refine eI acR aP Tryz.func23 (enters_of Tryz.func23 (by kernel_rfl) rfl) ?_ ?_ ?_ (hI:=aby)
 ·intro i b hb;cases i with
  | none=>simp [aX,PL.ae] at hb
  | some i=>simp [aX,PL.ae] at hb; rw [hb]; rfl
 ·intro i b hb; simp [aX] at hb
 intro i hp;have hp:i.list.length≤1099511627776∧∀ v∈i.list,v.sz 2048:=hp;obtain ⟨hlen,bc⟩:=hp;cases i with
 | none =>
  conv=>whnf
  exact ⟨.int .i64 4,rfl,.refl _⟩
 | some i =>
  obtain ⟨L,c⟩:=i;have hlen:L.length≤1099511627776:=hlen;have bc:∀ v∈L,PV.sz 2048 v:=bc;obtain ⟨n,hn⟩:∃ n,n=L.length:=⟨_,rfl⟩;obtain ⟨g,hg⟩:∃ g,g=di L:=⟨_,rfl⟩;have fin:∀ z:Int,bz L=z→∃ v',cR (List.range 1) 3 (aX.val (some (L,c)))=some v'∧fe (.int .i64 z) v':=fun z h=>⟨.int .i64 z,by rw [← h]; rfl,.refl _⟩
  rw [show aX.ae (some (L,c))=[.flat false n 6 g] from by rw [hn,hg]; rfl,show aX.args (some (L,c))=[.slice (some ⟨0,0,none⟩) n c] from by rw [hn]; rfl]
  rw [← hn] at hlen;conv=>whnf
  by_cases h1:n < 3
  ·rw [show decide ((n:Int) < 3)=true from decide_eq_true (by omega)]
   conv=>whnf
   exact fin 4 (B7 (.inl (by omega)))
  rw [show decide ((n:Int) < 3)=false from decide_eq_false (by omega)]
  conv=>whnf
  by_cases J:64 < n
  ·rw [show decide ((n:Int) > 64)=true from decide_eq_true (by omega)]
   conv=>whnf
   exact fin 4 (B7 (.inr (by omega)))
  rw [show decide ((n:Int) > 64)=false from decide_eq_false (by omega)]
  conv=>whnf
  obtain ⟨z,hz⟩:∃ z,z=dL L:=⟨_,rfl⟩;refine ⟨some (L,c),[0],by rw [show eL.args (some (L,c))=[.slice (some ⟨0,0,none⟩) n c] from by rw [hn]; rfl]; rfl,⟨by show L.length≤_; omega,bc⟩,?_⟩
  rw [show eL.ae (some (L,c))=[.flat false n 6 g] from by rw [hn,hg]; rfl,show eL.val (some (L,c))=.bool (!z) from by rw [hz]; rfl,show eL.new (some (L,c))=none from rfl]
  conv=>whnf
  refine ⟨ar.aE (fun h=>h) (fun r hr=>by rw [hg]; rfl),?_⟩
  conv=>whnf
  refine ⟨_,rfl,?_⟩;conv=>whnf
  cases z with
  | true =>
   conv=>whnf
   exact fin 1 (NN (by omega) hz.symm)
  | false =>
   conv=>whnf
   refine ⟨⟨by decide,by omega,by omega⟩,?_⟩
   conv=>whnf
   obtain ⟨m,hm⟩:∃ m,m=n - 1:=⟨_,rfl⟩;obtain ⟨c1,qZ⟩:∃ x,x=uj c (Int.toNat 1):=⟨_,rfl⟩;rw [← qZ,show Int.toNat (n:Int) - Int.toNat 1=m from hm.symm,show e9 0 (Int.toNat 1)=1 from rfl]
   have qM:dL L=false:=hz.symm;have h0:=rI (L:=L) (k:=0) (by omega)
   have so:=bc _ (oI (L:=L) (k:=0) (by omega))
   have po:=j4 (L:=L) (k:=0) (by omega)
   obtain ⟨o,ho⟩:∃ o,o=iY L 0:=⟨_,rfl⟩;rw [← ho] at h0 so po;rw [← hg] at h0;have qo:=PV.dy so (by decide)
   refine .inl ⟨fun mm tz hz=>∃ (i:Nat),bB (some (.slice (some ⟨0,1,none⟩) m c1)::some (.func (.func 73) #[] #[.pointer (some ⟨1,0,none⟩)])::aG 5 (some (.int .i64 m)::some (.int .i64 i)::aG 10 [])) tz∧hz=[some (.flat false n 6 g),some (.aS true 1 [[.slice (some ⟨0,0,none⟩) n c]]),some (.aS true 1 [[.int .i64 0]])]∧m - i=mm∧(i≤m∧xr (aV L) i),.inr ⟨[0,1,2],[0,1,7,8],?_⟩,?_⟩
   ·conv=>whnf
    intro _;conv=>whnf
    refine ⟨_,0,(.aa (.aa (.sk 5 (.aa (.aa (.sk 10 .nil rfl))) rfl))),rfl,rfl,?_⟩;exact ⟨Nat.zero_le _,KM _⟩
   rintro mm aW _ ⟨i,aC,rfl,rfl,⟨hi,hU⟩⟩
   obtain ⟨az,rfl⟩:∃ az:Nat→Value,aW=.slice (some ⟨0,1,none⟩) m c1::.func (.func 73) #[] #[.pointer (some ⟨1,0,none⟩)]::zs az 2 5 (.int .i64 m::.int .i64 i::zs az 9 10 []):=bI aC;clear aC;conv=>whnf
   refine aN (fun h3=>?_) (fun h3=>?_)
   ·have h3:i < m:=by
     have:=of_decide_eq_true h3;omega
    have e7:IntKind.i64.wrap ((i:Int)+1)=((i+1:Nat):Int):=by rw [ay (by omega) (by omega)]; rfl
    have ra:=rI (L:=L) (k:=i+1) (by omega)
    have sa:=bc _ (oI (L:=L) (k:=i+1) (by omega))
    have pa:=j4 (L:=L) (k:=i+1) (by omega)
    obtain ⟨a,ha⟩:∃ o,o=iY L (i+1):=⟨_,rfl⟩;rw [← ha] at ra sa pa;rw [← hg] at ra;have qa:=PV.dy sa (by decide)
    conv=>whnf
    refine ⟨⟨by omega,by omega⟩,?_⟩
    simp only [toNat_cast,aB,Nat.zero_add,Nat.add_comm 1 i];conv=>whnf
    refine ⟨by show i+1 < n; omega,?_⟩
    conv=>whnf
    rw [ra];conv=>whnf
    refine .inl ⟨4,[[],[],[1],[1,2],[0,1,2,3],[0,1,2,3,4],[0,1,2,3,4,5]],by kernel_rfl,?_⟩
    conv=>whnf
    have zQ:g (Int.toNat 0)=o.cells:=h0;refine ⟨⟨by omega,by omega⟩,?_⟩
    simp only [toNat_cast,aB,Nat.zero_add];conv=>whnf
    refine ⟨by show 0 < n; omega,?_⟩
    conv=>whnf
    rw [zQ];conv=>whnf
    obtain ⟨z,ez,pz⟩:=eU (fC a.p o.p);refine ⟨(a,o),rfl,⟨PV.aQ sa (by decide),PV.aQ so (by decide)⟩,?_⟩
    rw [show oW.val (a,o)=.int .i64 z from ez]
    conv=>whnf
    rw [pa,po] at pz;by_cases h4:gk (aw (aV L) 0) (aw (aV L) (i+1))
    ·have:=Ov.1 h4;rw [show decide (z≤0)=false from decide_eq_false (by omega)]
     conv=>whnf
     rw [e7];refine .inr ⟨[0,1,2],[0,1,7,8],?_⟩;conv=>whnf
     intro _;conv=>whnf
     refine ⟨_,?_,i+1,(.aa (.aa (.sk 5 (.aa (.aa (.sk 10 .nil rfl))) rfl))),rfl,rfl,?_⟩
     ·omega
     ·exact ⟨by omega,Lr hU h4⟩
    ·have:¬ 0 < fC (aw (aV L) (i+1)) (aw (aV L) 0):=fun e=>h4 (Ov.2 e)
     rw [show decide (z≤0)=true from decide_eq_true (by omega)]
     conv=>whnf
     exact fin 8 (NO (by omega) qM fun e=>h4 (e (i+1) (by omega) (by rw [cY]; omega)))
   ·have h3:i=m:=by
     have:=of_decide_eq_false h3;omega
    have nY:=Mg hU (by rw [cY]; omega)
    have xX:3≤(aV L).length:=by rw [cY]; omega
    conv=>whnf
    intro yl nu fn tm df;conv=>whnf
    skip
    refine .inl ⟨fun mm tz hz=>∃ (j:Nat),bB (some (.func (.yield yl) #[] #[])::some (.pointer (some ⟨3,0,none⟩))::aG 3 (some (.slice (some ⟨0,0,none⟩) n c)::some (.int .i64 n)::some (.int .i64 j)::aG 17 [])) tz∧hz=[some (.flat false n 6 g),some (.aS true 1 [[.slice (some ⟨0,0,none⟩) n c]]),some (.aS true 1 [[.int .i64 0]]),some (.aS true 1 [[.slice (some ⟨0,0,none⟩) n c]]),some (.cc (qE Tryz.f23 fn tm df))]∧n - j=mm∧(j≤n∧∀ k,k < j→¬ yV (aV L) k),.inr ⟨[0,1,2,3,4],[0,1,5,6,7],?_⟩,?_⟩
    ·conv=>whnf
     intro _;conv=>whnf
     refine ⟨_,0,(.aa (.aa (.sk 3 (.aa (.aa (.aa (.sk 17 .nil rfl)))) rfl))),rfl,rfl,?_⟩;exact ⟨Nat.zero_le _,fun k hk=>absurd hk (Nat.not_lt_zero k)⟩
    rintro mm aW _ ⟨j,aC,rfl,rfl,⟨hj,hB⟩⟩
    obtain ⟨az,rfl⟩:∃ az:Nat→Value,aW=.func (.yield yl) #[] #[]::.pointer (some ⟨3,0,none⟩)::zs az 2 3 (.slice (some ⟨0,0,none⟩) n c::.int .i64 n::.int .i64 j::zs az 8 17 []):=bI aC;clear aC;conv=>whnf
    refine aN (fun h3=>?_) (fun h3=>?_)
    ·have h3:j < n:=by
      have:=of_decide_eq_true h3;omega
     have e7:IntKind.i64.wrap ((j:Int)+1)=((j+1:Nat):Int):=by rw [ay (by omega) (by omega)]; rfl
     obtain ⟨a,b,ra,rb,⟨ma,mb⟩,_,cE,ha,hb⟩:=tO hn h3;have sa:=bc a ma;have sb:=bc b mb;have cT:=ld h3 (by omega)
     obtain ⟨u,hu⟩:∃ u,u=aY n j:=⟨_,rfl⟩;rw [← hu] at cT cE rb;rw [← hg] at ra rb;conv=>whnf
     refine ⟨⟨by omega,by omega⟩,?_⟩
     simp only [toNat_cast,aB,Nat.zero_add];conv=>whnf
     refine ⟨by show j < n; omega,?_⟩
     conv=>whnf
     rw [ra];conv=>whnf
     refine .inl ⟨10,[[],[],[],[],[3],[],[5],[3,4,5,6],[2,3,4,5,6,7],[2,3,4,5,6,7,8],[0,1,2,3,4,5,6,7,8,9],[0,1,2,3,4,5,6,7,8,9,10]],by kernel_rfl,?_⟩
     conv=>whnf
     rw [show decide ((n:Int)≠0)=true from decide_eq_true (by omega)]
     conv=>whnf
     rw [cT];refine ⟨⟨by omega,by omega⟩,?_⟩
     simp only [toNat_cast,aB,Nat.zero_add];conv=>whnf
     refine ⟨by show u < n; omega,?_⟩
     conv=>whnf
     rw [rb];conv=>whnf
     refine ⟨rfl,?_⟩;conv=>whnf
     refine ⟨rfl,?_⟩;conv=>whnf
     refine ⟨rfl,?_⟩;conv=>whnf
     refine .inl ⟨fun mm tz hz=>∃ (i:Nat),bB (some (.slice (some ⟨0,0,none⟩) n c)::some (.func (.func 75) #[] #[.pointer (some ⟨16,0,none⟩),.pointer (some ⟨17,0,none⟩)])::aG 5 (some (.int .i64 n)::some (.int .i64 i)::aG 10 [])) tz∧hz=[some (.flat false n 6 g),some (.aS true 1 [[.slice (some ⟨0,0,none⟩) n c]]),some (.aS true 1 [[.int .i64 0]]),some (.aS true 1 [[.slice (some ⟨0,0,none⟩) n c]]),some (.cc { qE Tryz.f23 fn tm df with state:=.busy }),some (.aS true 6 [a.cells]),none,none,none,none,none,none,none,none,none,none,some (.aS true 6 [a.cells]),some (.aS true 6 [b.cells])]∧n - i=mm∧(i≤n∧nJ (sL a b) L i),.inr ⟨[0,1,2,3,4,5,6,7,8,9,10,11,12,13,14,15,16,17],[0,1,7,8],?_⟩,?_⟩
     ·conv=>whnf
      intro _;conv=>whnf
      refine ⟨_,0,(.aa (.aa (.sk 5 (.aa (.aa (.sk 10 .nil rfl))) rfl))),rfl,rfl,?_⟩;exact ⟨Nat.zero_le _,Et _ _⟩
     rintro mm aW _ ⟨i,aC,rfl,rfl,⟨hi,hU⟩⟩
     obtain ⟨az,rfl⟩:∃ az:Nat→Value,aW=.slice (some ⟨0,0,none⟩) n c::.func (.func 75) #[] #[.pointer (some ⟨16,0,none⟩),.pointer (some ⟨17,0,none⟩)]::zs az 2 5 (.int .i64 n::.int .i64 i::zs az 9 10 []):=bI aC;clear aC;conv=>whnf
     refine aN (fun h4=>?_) (fun h4=>?_)
     ·have h4:i < n:=by
       have:=of_decide_eq_true h4;omega
      have e8:IntKind.i64.wrap ((i:Int)+1)=((i+1:Nat):Int):=by rw [ay (by omega) (by omega)]; rfl
      obtain ⟨p,kN,vt,aZ⟩:=rG (l:=L) (i:=i) (by omega)
      rw [← hg] at aZ;conv=>whnf
      refine ⟨⟨by omega,by omega⟩,?_⟩
      simp only [toNat_cast,aB,Nat.zero_add];conv=>whnf
      refine ⟨by show i < n; omega,?_⟩
      conv=>whnf
      rw [aZ];conv=>whnf
      obtain ⟨z,hz⟩:∃ z,z=sL a b p:=⟨_,rfl⟩;refine ⟨(a,b,p),[16,17],rfl,⟨sa,sb,bc p vt⟩,?_⟩;rw [show si.ae (a,b,p)=[.flat false 1 6 (fun _=>a.cells),.flat false 1 6 (fun _=>b.cells)] from rfl,show si.val (a,b,p)=.bool z from by rw [hz]; rfl,show si.new (a,b,p)=none from rfl]
      conv=>whnf
      refine ⟨NJ a,NJ b,?_⟩;conv=>whnf
      refine ⟨_,rfl,?_⟩;conv=>whnf
      cases z with
      | false =>
       conv=>whnf
       rw [e8];refine .inr ⟨[0,1,2,3,4,5,6,7,8,9,10,11,12,13,14,15,16,17],[0,1,7,8],?_⟩;conv=>whnf
       intro _;conv=>whnf
       refine ⟨_,?_,i+1,(.aa (.aa (.sk 5 (.aa (.aa (.sk 10 .nil rfl))) rfl))),rfl,rfl,?_⟩
       ·omega
       ·exact ⟨by omega,tH hU kN hz.symm⟩
      | true =>
       conv=>whnf
       refine ⟨rfl,?_⟩;conv=>whnf
       exact fin 15 (GA (by omega) qM nY fun e=>(MW xX nY).1 e j (by rw [cY]; omega) (Xd qM (by omega) ha (hb.trans (by rw [hn])) vt hz.symm))
     ·have h4:i=n:=by
       have:=of_decide_eq_false h4;omega
      subst h4;conv=>whnf
      refine ⟨rfl,?_⟩;conv=>whnf
      rw [e7];refine .inr ⟨[0,1,2,3,4],[0,1,5,6,7],?_⟩;conv=>whnf
      intro _;conv=>whnf
      refine ⟨_,?_,j+1,(.aa (.aa (.sk 3 (.aa (.aa (.aa (.sk 17 .nil rfl)))) rfl))),rfl,rfl,?_⟩
      ·omega
      ·refine ⟨by omega,fun k hk=>?_⟩
       rcases Nat.lt_or_eq_of_le (Nat.le_of_lt_succ hk) with e | e
       ·exact hB k e
       ·subst e;exact Z4 (by omega) ha (hb.trans (by rw [hn])) (EY (by rw [← hn]; exact hU))
    ·have h3:j=n:=by
      have:=of_decide_eq_false h3;omega
     subst h3;conv=>whnf
     exact fin 0 (MZ (by omega) qM nY ((MW xX nY).2 fun k hk=>hB k (by rw [cY] at hk; omega)))
open Go Go.Ae
def Ew1:Env:=En [(23,.q aX),(56,.q eL),(67,.q mR)]
theorem acS:EnvOk Tryz.prog Ew1:=bH ⟨yC,Eu,Zi,trivial⟩ trivial
theorem UX:dk Tryz.prog 19 kt:=by
 refine eI acS aP Tryz.func19 (enters_of Tryz.func19 (by kernel_rfl) rfl) ?_ ?_ ?_
 ·intro ⟨i,_⟩ b hb;cases i with
  | none=>simp [kt,PL.ae] at hb
  | some i=>simp [kt,PL.ae] at hb; rw [hb]; rfl
 ·intro i b hb; simp [kt] at hb
 intro ⟨i,p⟩ hp;have hp:(i.list.length≤1099511627776∧∀ v∈i.list,v.sz 2048)∧p.sz 2048:=hp;obtain ⟨⟨hlen,bc⟩,sp⟩:=hp;cases i with
 | none =>
  conv=>whnf
  refine ⟨none,[],rfl,⟨Nat.zero_le _,fun v hv=>nomatch hv⟩,?_⟩
  rw [show aX.ae none=[] from rfl,show aX.val none=.int .i64 4 from rfl,show aX.new none=none from rfl]
  conv=>whnf
  refine ⟨_,rfl,?_⟩;conv=>whnf
  exact ⟨_,rfl,.refl _⟩
 | some i =>
  obtain ⟨L,c⟩:=i;have hlen:L.length≤1099511627776:=hlen;have bc:∀ v∈L,PV.sz 2048 v:=bc;obtain ⟨n,hn⟩:∃ n,n=L.length:=⟨_,rfl⟩;obtain ⟨g,hg⟩:∃ g,g=di L:=⟨_,rfl⟩;have fin:∀ z e:Int,qI L p=(z,e)→∃ v',cR (List.range 1) 3 (kt.val (some (L,c),p))=some v'∧fe (.tuple ⟨[.int .i64 z,.int .i64 e]⟩) v':=fun z e h=>⟨_,by
   rw [show kt.val (some (L,c),p)=ZE.v (qI L p) from rfl,h]; rfl,.refl _⟩
  rw [show kt.ae (some (L,c),p)=[.flat false n 6 g] from by rw [hn,hg]; rfl,show kt.args (some (L,c),p)=[.slice (some ⟨0,0,none⟩) n c,p.v] from by rw [hn]; rfl]
  rw [← hn] at hlen;conv=>whnf
  refine ⟨some (L,c),[0],by rw [show aX.args (some (L,c))=[.slice (some ⟨0,0,none⟩) n c] from by rw [hn]; rfl]; rfl,⟨by show L.length≤_; omega,bc⟩,?_⟩
  rw [show aX.ae (some (L,c))=[.flat false n 6 g] from by rw [hn,hg]; rfl,show aX.val (some (L,c))=.int .i64 (bz L) from rfl,show aX.new (some (L,c))=none from rfl]
  conv=>whnf
  refine ⟨ar.aE (fun h=>h) (fun r hr=>by rw [hg]; rfl),?_⟩
  conv=>whnf
  refine ⟨_,rfl,?_⟩;obtain ⟨e,he⟩:∃ z,z=bz L:=⟨_,rfl⟩;rw [← he];conv=>whnf
  by_cases h1:e=0
  ·rw [show (e != 0)=false from by simp [h1]]
   conv=>whnf
   refine ⟨some ([p],1),[2],rfl,⟨by show 1≤1099511627776; decide,(fun v hv=>by rw [List.mem_singleton.1 hv]; exact sp)⟩,?_⟩
   rw [show eL.ae (some ([p],1))=[.flat false 1 6 (di [p])] from rfl,show eL.val (some ([p],1))=.bool (!dL [p]) from rfl,show eL.new (some ([p],1))=none from rfl]
   conv=>whnf
   refine ⟨NG [p],?_⟩;conv=>whnf
   refine ⟨_,rfl,?_⟩;obtain ⟨r,hr⟩:∃ z,z=dL [p]:=⟨_,rfl⟩;rw [← hr];conv=>whnf
   cases r with
   | true =>
    conv=>whnf
    exact fin 0 1 (Ow fun h=>ad2 hr h.2)
   | false =>
    conv=>whnf
    obtain ⟨w,hw⟩:∃ w,w=c8 (aV L) p.p:=⟨_,rfl⟩;refine ⟨(some (L,c),p),[0],by rw [show mR.args (some (L,c),p)=[.slice (some ⟨0,0,none⟩) n c,p.v] from by rw [hn]; rfl]; rfl,⟨⟨by show L.length≤_; omega,bc⟩,sp⟩,?_⟩
    rw [show mR.ae (some (L,c),p)=[.flat false n 6 g] from by rw [hn,hg]; rfl,show mR.val (some (L,c),p)=.int .i64 w from by rw [hw]; rfl,show mR.new (some (L,c),p)=none from rfl]
    conv=>whnf
    refine ⟨ar.aE (fun h=>h) (fun r hr=>by rw [hg]; rfl),?_⟩
    conv=>whnf
    refine ⟨_,rfl,?_⟩;conv=>whnf
    exact fin w 0 (by rw [hw]; exact NP ⟨by rw [← he]; exact h1,ack hr⟩)
  ·rw [show (e != 0)=true from by simp [h1]]
   conv=>whnf
   exact fin 0 1 (Ow fun h=>h1 (by rw [he]; exact h.1))
open Go Go.Ae
theorem abz:bh Tryz.prog 110 u7:=by
 refine bk qm aP Tryz.func110 (enters_of Tryz.func110 (by kernel_rfl) rfl) (fun _=>rfl) (fun _=>rfl) ?_
 intro ⟨a,b,p⟩ hp;conv=>whnf
 rw [Df b p];by_cases h:b=p
 ·rw [decide_eq_true h,show u7.val (a,b,p)=.bool false from congrArg Value.bool (decide_eq_false fun e=>e h)]; rfl
 ·rw [decide_eq_false h,show u7.val (a,b,p)=.bool true from congrArg Value.bool (decide_eq_true h)]; rfl
theorem abA:bh Tryz.prog 111 u9:=by
 refine bk qm aP Tryz.func111 (enters_of Tryz.func111 (by kernel_rfl) rfl) (fun _=>rfl) (fun _=>rfl) ?_
 intro ⟨a,b,p⟩ hp;have hp:a.sz 1048576∧b.sz 1048576∧p.sz 1048576:=hp;obtain ⟨sa,sb,sp⟩:=hp;conv=>whnf
 obtain ⟨z,ez,pz⟩:=eU (a8 (ao a.p b.p p.p) 0);refine ⟨(a,b,p),rfl,⟨PV.aQ sa (by decide),PV.aQ sb (by decide),PV.aQ sp (by decide)⟩,?_⟩
 rw [show lW.val (a,b,p)=.int .i64 z from ez]
 conv=>whnf
 by_cases h:z=0
 ·rw [show u9.val (a,b,p)=.bool false from congrArg Value.bool (decide_eq_false fun e=>e (by rw [← pz]; exact h)),show (z != 0)=false from by simp [h]]
 ·rw [show u9.val (a,b,p)=.bool true from congrArg Value.bool (decide_eq_true (by rw [← pz]; exact h)),show (z != 0)=true from by simp [h]]
def Ex1:Env:=En [(110,.p u7),(111,.p u9)]
theorem acT:EnvOk Tryz.prog Ex1:=bH ⟨abz,abA,trivial⟩ trivial
theorem Zj:dk Tryz.prog 109 (j5 110 111):=by
 refine eI acT aP Tryz.func109 (enters_of Tryz.func109 (by kernel_rfl) rfl) ?_ ?_ ?_
 ·intro ⟨i,b⟩ B hb;cases i with
  | none=>simp [j5,QL.ae] at hb
  | some i=>simp [j5,QL.ae] at hb; rw [hb]; rfl
 ·intro i B hb;exact BK hb
 intro ⟨i,b⟩ hp;have hp:i.list.length≤549755813888∧∀ v∈i.list,Q2.sz 262144 v:=hp;obtain ⟨hlen,bc⟩:=hp;cases i with
 | none =>
  cases b <;> (conv=>whnf) <;> refine .inr ⟨1,?_⟩ <;> (conv=>whnf) <;> exact ⟨_,rfl,.refl _⟩
 | some i =>
  obtain ⟨L,c⟩:=i;have hlen:L.length≤549755813888:=hlen;have bc:∀ v∈L,Q2.sz 262144 v:=bc;obtain ⟨n,hn⟩:∃ n,n=L.length:=⟨_,rfl⟩;obtain ⟨g,hg⟩:∃ g,g=bP L:=⟨_,rfl⟩;cases b with
  | false =>
   rw [show (j5 110 111).ae (some (L,c),false)=[.flat false n 6 g] from by rw [hn,hg]; rfl,show (j5 110 111).args (some (L,c),false)=[.slice (some ⟨0,0,none⟩) n c,.func (.func 110) #[] #[]] from by rw [hn]; rfl]
   rw [← hn] at hlen;conv=>whnf
   refine .inl ⟨fun mm tz hz=>∃ (j:Nat) (O:List Q2) (q:Nat) (F:Nat→List Value),bB (some (.slice (some ⟨0,0,none⟩) n c)::some (.func (.func 110) #[] #[])::aG 3 (some (eD 1 q)::aG 2 (some (.slice (some ⟨0,0,none⟩) n c)::some (.int .i64 n)::some (.int .i64 j)::aG 32 []))) tz∧hz=[some (.flat false n 6 g)]++zG 6 F q∧n - j=mm∧((j≤n∧q=O.length)∧O=qk L j∧(∀ r,r < q→F r=bP O r)),.inr ⟨[0],[0,1,5,8,9,10],?_⟩,?_⟩
   ·conv=>whnf
    intro _;conv=>whnf
    refine ⟨_,0,[],0,fun _=>[],(.aa (.aa (.sk 3 (.aa (.sk 2 (.aa (.aa (.aa (.sk 32 .nil rfl)))) rfl)) rfl))),rfl,rfl,?_⟩
    exact ⟨⟨Nat.zero_le _,rfl⟩,rfl,fun r hr=>absurd hr (Nat.not_lt_zero r)⟩
   rintro mm aW _ ⟨j,O,q,F,aC,rfl,rfl,⟨⟨hj,hq⟩,hO,hF⟩⟩
   obtain ⟨az,rfl⟩:∃ az:Nat→Value,aW=.slice (some ⟨0,0,none⟩) n c::.func (.func 110) #[] #[]::zs az 2 3 (eD 1 q::zs az 6 2 (.slice (some ⟨0,0,none⟩) n c::.int .i64 n::.int .i64 j::zs az 11 32 [])):=bI aC;clear aC;have tj:=V4 L j;rw [← hO,← hq] at tj;cases q with
   | zero =>
    obtain rfl:O=[]:=List.eq_nil_of_length_eq_zero hq.symm;conv=>whnf
    refine aN (fun h1=>?_) (fun h1=>?_)
    ·have h1:j < n:=by
      have:=of_decide_eq_true h1;omega
     have e7:IntKind.i64.wrap ((j:Int)+1)=((j+1:Nat):Int):=by rw [ay (by omega) (by omega)]; rfl
     obtain ⟨a,ca,ra,pa,sa,qa⟩:=g9 (L:=L) (k:=dz n j) (by rw [← hn]; exact jf h1) bc
     obtain ⟨b,cb,rb,pb,sb,qb⟩:=g9 (L:=L) (k:=j) (by omega) bc
     obtain ⟨d,cd,rd,pd,sd,qd⟩:=g9 (L:=L) (k:=aY n j) (by rw [← hn]; exact cO h1) bc
     rw [← hg] at ra rb rd;have lP:=CS h1 (by omega)
     have cT:=ld h1 (by omega)
     have kN:dz n j < n:=jf h1;have cE:=cO h1;obtain ⟨u,hu⟩:∃ u,u=dz n j:=⟨_,rfl⟩;obtain ⟨w,hw⟩:∃ u,u=aY n j:=⟨_,rfl⟩;rw [← hu] at lP kN ra;rw [← hw] at cT cE rd;conv=>whnf
     refine ⟨⟨by omega,by omega⟩,?_⟩
     simp only [toNat_cast,aB,Nat.zero_add];conv=>whnf
     refine ⟨by show j < n; omega,?_⟩
     conv=>whnf
     rw [rb];conv=>whnf
     refine .inl ⟨21,[[],[],[],[],[3],[2,3,4],[2,3,4,5],[],[7],[2,3,4,5,6,7,8],[1,2,3,4,5,6,7,8,9],[1,2,3,4,5,6,7,8,9,10],[],[],[],[14],[],[16],[14,15,16,17],[13,14,15,16,17,18],[13,14,15,16,17,18,19],[0,1,2,3,4,5,6,7,8,9,10,11,12,13,14,15,16,17,18,19,20]],by kernel_rfl,?_⟩
     conv=>whnf
     rw [show decide ((n:Int)≠0)=true from decide_eq_true (by omega)]
     conv=>whnf
     rw [lP];refine ⟨⟨by omega,by omega⟩,?_⟩
     simp only [toNat_cast,aB,Nat.zero_add];conv=>whnf
     refine ⟨by show u < n; omega,?_⟩
     conv=>whnf
     rw [ra];conv=>whnf
     rw [show decide ((n:Int)≠0)=true from decide_eq_true (by omega)]
     conv=>whnf
     rw [cT];refine ⟨⟨by omega,by omega⟩,?_⟩
     simp only [toNat_cast,aB,Nat.zero_add];conv=>whnf
     refine ⟨by show w < n; omega,?_⟩
     conv=>whnf
     rw [rd];conv=>whnf
     obtain ⟨z,hz,ax⟩:=M0 hn h1 pa cb cd;rw [← hO] at ax;refine ⟨(a,b,d),rfl,⟨PV.aQ sa (by decide),PV.aQ sb (by decide),PV.aQ sd (by decide)⟩,?_⟩
     rw [show u7.val (a,b,d)=.bool z from hz]
     conv=>whnf
     cases z with
     | false =>
      conv=>whnf
      rw [e7];refine .inr ⟨[0],[0,1,5,8,9,10],?_⟩;conv=>whnf
      intro _;conv=>whnf
      refine ⟨_,?_,j+1,[],0,F,(.aa (.aa (.sk 3 (.aa (.sk 2 (.aa (.aa (.aa (.sk 32 .nil rfl)))) rfl)) rfl))),rfl,rfl,?_⟩
      ·omega
      ·exact ⟨⟨by omega,rfl⟩,by rw [ax]; rfl,hF⟩
     | true =>
      conv=>whnf
      refine ⟨by show (0+1)*80≤140737488355328; decide,?_⟩
      conv=>whnf
      rw [e7];refine .inr ⟨[0,24],[0,1,5,8,9,10],?_⟩;conv=>whnf
      intro _;conv=>whnf
      refine ⟨_,?_,j+1,[aw L j],1,_,(.aa (.aa (.sk 3 (.aa (.sk 2 (.aa (.aa (.aa (.sk 32 .nil rfl)))) rfl)) rfl))),rfl,rfl,?_⟩
      ·omega
      ·exact ⟨⟨by omega,rfl⟩,by rw [ax]; rfl,wF cb rfl⟩
    ·have h1:j=n:=by
      have:=of_decide_eq_false h1;omega
     subst h1;have hE:gw L=[]:=by rw [hO,hn]; exact (Mh L).symm
     conv=>whnf
     rw [show (j5 110 111).new (some (L,c),false)=none from by show cg (gw L)=none; rw [hE]; rfl]
     exact ⟨.slice none 0 0,by rw [show (j5 110 111).val (some (L,c),false)=.slice none 0 0 from by show eD _ (gw L).length=_; rw [hE]; rfl]; rfl,.refl _⟩
   | succ q =>
    conv=>whnf
    refine aN (fun h1=>?_) (fun h1=>?_)
    ·have h1:j < n:=by
      have:=of_decide_eq_true h1;omega
     have e7:IntKind.i64.wrap ((j:Int)+1)=((j+1:Nat):Int):=by rw [ay (by omega) (by omega)]; rfl
     obtain ⟨a,ca,ra,pa,sa,qa⟩:=g9 (L:=L) (k:=dz n j) (by rw [← hn]; exact jf h1) bc
     obtain ⟨b,cb,rb,pb,sb,qb⟩:=g9 (L:=L) (k:=j) (by omega) bc
     obtain ⟨d,cd,rd,pd,sd,qd⟩:=g9 (L:=L) (k:=aY n j) (by rw [← hn]; exact cO h1) bc
     rw [← hg] at ra rb rd;have lP:=CS h1 (by omega)
     have cT:=ld h1 (by omega)
     have kN:dz n j < n:=jf h1;have cE:=cO h1;obtain ⟨u,hu⟩:∃ u,u=dz n j:=⟨_,rfl⟩;obtain ⟨w,hw⟩:∃ u,u=aY n j:=⟨_,rfl⟩;rw [← hu] at lP kN ra;rw [← hw] at cT cE rd;conv=>whnf
     refine ⟨⟨by omega,by omega⟩,?_⟩
     simp only [toNat_cast,aB,Nat.zero_add];conv=>whnf
     refine ⟨by show j < n; omega,?_⟩
     conv=>whnf
     rw [rb];conv=>whnf
     refine .inl ⟨21,[[],[],[],[],[3],[2,3,4],[2,3,4,5],[],[7],[2,3,4,5,6,7,8],[1,2,3,4,5,6,7,8,9],[1,2,3,4,5,6,7,8,9,10],[],[],[],[14],[],[16],[14,15,16,17],[13,14,15,16,17,18],[13,14,15,16,17,18,19],[0,1,2,3,4,5,6,7,8,9,10,11,12,13,14,15,16,17,18,19,20]],by kernel_rfl,?_⟩
     conv=>whnf
     rw [show decide ((n:Int)≠0)=true from decide_eq_true (by omega)]
     conv=>whnf
     rw [lP];refine ⟨⟨by omega,by omega⟩,?_⟩
     simp only [toNat_cast,aB,Nat.zero_add];conv=>whnf
     refine ⟨by show u < n; omega,?_⟩
     conv=>whnf
     rw [ra];conv=>whnf
     rw [show decide ((n:Int)≠0)=true from decide_eq_true (by omega)]
     conv=>whnf
     rw [cT];refine ⟨⟨by omega,by omega⟩,?_⟩
     simp only [toNat_cast,aB,Nat.zero_add];conv=>whnf
     refine ⟨by show w < n; omega,?_⟩
     conv=>whnf
     rw [rd];conv=>whnf
     obtain ⟨z,hz,ax⟩:=M0 hn h1 pa cb cd;rw [← hO] at ax;refine ⟨(a,b,d),rfl,⟨PV.aQ sa (by decide),PV.aQ sb (by decide),PV.aQ sd (by decide)⟩,?_⟩
     rw [show u7.val (a,b,d)=.bool z from hz]
     conv=>whnf
     cases z with
     | false =>
      conv=>whnf
      rw [e7];refine .inr ⟨[0,1],[0,1,5,8,9,10],?_⟩;conv=>whnf
      intro _;conv=>whnf
      refine ⟨_,?_,j+1,O,q+1,F,(.aa (.aa (.sk 3 (.aa (.sk 2 (.aa (.aa (.aa (.sk 32 .nil rfl)))) rfl)) rfl))),rfl,rfl,?_⟩
      ·omega
      ·exact ⟨⟨by omega,hq⟩,by rw [ax]; simp,hF⟩
     | true =>
      conv=>whnf
      refine ⟨⟨by show 1≤1; decide,rfl,by show (q+1+1)*80≤140737488355328; omega⟩,?_⟩
      conv=>whnf
      refine ⟨[0,1,8,9,10],?_⟩;conv=>whnf
      intro _;conv=>whnf
      rw [e7];refine .inr ⟨[0,1],[0,1,5,8,9,10],?_⟩;conv=>whnf
      intro _;conv=>whnf
      refine ⟨_,?_,j+1,O++[aw L j],q+1+1,_,(.aa (.aa (.sk 3 (.aa (.sk 2 (.aa (.aa (.aa (.sk 32 .nil rfl)))) rfl)) rfl))),rfl,rfl,?_⟩
      ·omega
      ·exact ⟨⟨by omega,by rw [List.length_append,← hq]; rfl⟩,by rw [ax]; simp,rM hq hF cb rfl⟩
    ·have h1:j=n:=by
      have:=of_decide_eq_false h1;omega
     subst h1;have hE:gw L=O:=by rw [hO,hn]; exact (Mh L).symm
     conv=>whnf
     rw [show (j5 110 111).new (some (L,c),false)=some (.flat true (q+1) 6 (bP O)) from by show cg (gw L)=_; rw [hE]; unfold cg; rw [← hq],show (j5 110 111).val (some (L,c),false)=.slice (some ⟨1,0,none⟩) (q+1) aO from by show eD _ (gw L).length=_; rw [hE,← hq]; rfl]
     refine ⟨1,?_⟩;conv=>whnf
     exact ⟨⟨rfl,ar.rH (fun h=>h) hF (fun r hr=>rfl)⟩,_,rfl,.refl _⟩
  | true =>
   rw [show (j5 110 111).ae (some (L,c),true)=[.flat false n 6 g] from by rw [hn,hg]; rfl,show (j5 110 111).args (some (L,c),true)=[.slice (some ⟨0,0,none⟩) n c,.func (.func 111) #[] #[]] from by rw [hn]; rfl]
   rw [← hn] at hlen;conv=>whnf
   refine .inl ⟨fun mm tz hz=>∃ (j:Nat) (O:List Q2) (q:Nat) (F:Nat→List Value),bB (some (.slice (some ⟨0,0,none⟩) n c)::some (.func (.func 111) #[] #[])::aG 3 (some (eD 1 q)::aG 2 (some (.slice (some ⟨0,0,none⟩) n c)::some (.int .i64 n)::some (.int .i64 j)::aG 32 []))) tz∧hz=[some (.flat false n 6 g)]++zG 6 F q∧n - j=mm∧((j≤n∧q=O.length)∧O=ss L j∧(∀ r,r < q→F r=bP O r)),.inr ⟨[0],[0,1,5,8,9,10],?_⟩,?_⟩
   ·conv=>whnf
    intro _;conv=>whnf
    refine ⟨_,0,[],0,fun _=>[],(.aa (.aa (.sk 3 (.aa (.sk 2 (.aa (.aa (.aa (.sk 32 .nil rfl)))) rfl)) rfl))),rfl,rfl,?_⟩
    exact ⟨⟨Nat.zero_le _,rfl⟩,rfl,fun r hr=>absurd hr (Nat.not_lt_zero r)⟩
   rintro mm aW _ ⟨j,O,q,F,aC,rfl,rfl,⟨⟨hj,hq⟩,hO,hF⟩⟩
   obtain ⟨az,rfl⟩:∃ az:Nat→Value,aW=.slice (some ⟨0,0,none⟩) n c::.func (.func 111) #[] #[]::zs az 2 3 (eD 1 q::zs az 6 2 (.slice (some ⟨0,0,none⟩) n c::.int .i64 n::.int .i64 j::zs az 11 32 [])):=bI aC;clear aC;have tj:=V5 L j;rw [← hO,← hq] at tj;cases q with
   | zero =>
    obtain rfl:O=[]:=List.eq_nil_of_length_eq_zero hq.symm;conv=>whnf
    refine aN (fun h1=>?_) (fun h1=>?_)
    ·have h1:j < n:=by
      have:=of_decide_eq_true h1;omega
     have e7:IntKind.i64.wrap ((j:Int)+1)=((j+1:Nat):Int):=by rw [ay (by omega) (by omega)]; rfl
     obtain ⟨a,ca,ra,pa,sa,qa⟩:=g9 (L:=L) (k:=dz n j) (by rw [← hn]; exact jf h1) bc
     obtain ⟨b,cb,rb,pb,sb,qb⟩:=g9 (L:=L) (k:=j) (by omega) bc
     obtain ⟨d,cd,rd,pd,sd,qd⟩:=g9 (L:=L) (k:=aY n j) (by rw [← hn]; exact cO h1) bc
     rw [← hg] at ra rb rd;have lP:=CS h1 (by omega)
     have cT:=ld h1 (by omega)
     have kN:dz n j < n:=jf h1;have cE:=cO h1;obtain ⟨u,hu⟩:∃ u,u=dz n j:=⟨_,rfl⟩;obtain ⟨w,hw⟩:∃ u,u=aY n j:=⟨_,rfl⟩;rw [← hu] at lP kN ra;rw [← hw] at cT cE rd;conv=>whnf
     refine ⟨⟨by omega,by omega⟩,?_⟩
     simp only [toNat_cast,aB,Nat.zero_add];conv=>whnf
     refine ⟨by show j < n; omega,?_⟩
     conv=>whnf
     rw [rb];conv=>whnf
     refine .inl ⟨21,[[],[],[],[],[3],[2,3,4],[2,3,4,5],[],[7],[2,3,4,5,6,7,8],[1,2,3,4,5,6,7,8,9],[1,2,3,4,5,6,7,8,9,10],[],[],[],[14],[],[16],[14,15,16,17],[13,14,15,16,17,18],[13,14,15,16,17,18,19],[0,1,2,3,4,5,6,7,8,9,10,11,12,13,14,15,16,17,18,19,20]],by kernel_rfl,?_⟩
     conv=>whnf
     rw [show decide ((n:Int)≠0)=true from decide_eq_true (by omega)]
     conv=>whnf
     rw [lP];refine ⟨⟨by omega,by omega⟩,?_⟩
     simp only [toNat_cast,aB,Nat.zero_add];conv=>whnf
     refine ⟨by show u < n; omega,?_⟩
     conv=>whnf
     rw [ra];conv=>whnf
     rw [show decide ((n:Int)≠0)=true from decide_eq_true (by omega)]
     conv=>whnf
     rw [cT];refine ⟨⟨by omega,by omega⟩,?_⟩
     simp only [toNat_cast,aB,Nat.zero_add];conv=>whnf
     refine ⟨by show w < n; omega,?_⟩
     conv=>whnf
     rw [rd];conv=>whnf
     obtain ⟨z,hz,ax⟩:=M1 hn h1 pa cb cd;rw [← hO] at ax;refine ⟨(a,b,d),rfl,⟨PV.aQ sa (by decide),PV.aQ sb (by decide),PV.aQ sd (by decide)⟩,?_⟩
     rw [show u9.val (a,b,d)=.bool z from hz]
     conv=>whnf
     cases z with
     | false =>
      conv=>whnf
      rw [e7];refine .inr ⟨[0],[0,1,5,8,9,10],?_⟩;conv=>whnf
      intro _;conv=>whnf
      refine ⟨_,?_,j+1,[],0,F,(.aa (.aa (.sk 3 (.aa (.sk 2 (.aa (.aa (.aa (.sk 32 .nil rfl)))) rfl)) rfl))),rfl,rfl,?_⟩
      ·omega
      ·exact ⟨⟨by omega,rfl⟩,by rw [ax]; rfl,hF⟩
     | true =>
      conv=>whnf
      refine ⟨by show (0+1)*80≤140737488355328; decide,?_⟩
      conv=>whnf
      rw [e7];refine .inr ⟨[0,24],[0,1,5,8,9,10],?_⟩;conv=>whnf
      intro _;conv=>whnf
      refine ⟨_,?_,j+1,[aw L j],1,_,(.aa (.aa (.sk 3 (.aa (.sk 2 (.aa (.aa (.aa (.sk 32 .nil rfl)))) rfl)) rfl))),rfl,rfl,?_⟩
      ·omega
      ·exact ⟨⟨by omega,rfl⟩,by rw [ax]; rfl,wF cb rfl⟩
    ·have h1:j=n:=by
      have:=of_decide_eq_false h1;omega
     subst h1;have hE:jz L=[]:=by rw [hO,hn]; exact (Mi L).symm
     conv=>whnf
     rw [show (j5 110 111).new (some (L,c),true)=none from by show cg (jz L)=none; rw [hE]; rfl]
     exact ⟨.slice none 0 0,by rw [show (j5 110 111).val (some (L,c),true)=.slice none 0 0 from by show eD _ (jz L).length=_; rw [hE]; rfl]; rfl,.refl _⟩
   | succ q =>
    conv=>whnf
    refine aN (fun h1=>?_) (fun h1=>?_)
    ·have h1:j < n:=by
      have:=of_decide_eq_true h1;omega
     have e7:IntKind.i64.wrap ((j:Int)+1)=((j+1:Nat):Int):=by rw [ay (by omega) (by omega)]; rfl
     obtain ⟨a,ca,ra,pa,sa,qa⟩:=g9 (L:=L) (k:=dz n j) (by rw [← hn]; exact jf h1) bc
     obtain ⟨b,cb,rb,pb,sb,qb⟩:=g9 (L:=L) (k:=j) (by omega) bc
     obtain ⟨d,cd,rd,pd,sd,qd⟩:=g9 (L:=L) (k:=aY n j) (by rw [← hn]; exact cO h1) bc
     rw [← hg] at ra rb rd;have lP:=CS h1 (by omega)
     have cT:=ld h1 (by omega)
     have kN:dz n j < n:=jf h1;have cE:=cO h1;obtain ⟨u,hu⟩:∃ u,u=dz n j:=⟨_,rfl⟩;obtain ⟨w,hw⟩:∃ u,u=aY n j:=⟨_,rfl⟩;rw [← hu] at lP kN ra;rw [← hw] at cT cE rd;conv=>whnf
     refine ⟨⟨by omega,by omega⟩,?_⟩
     simp only [toNat_cast,aB,Nat.zero_add];conv=>whnf
     refine ⟨by show j < n; omega,?_⟩
     conv=>whnf
     rw [rb];conv=>whnf
     refine .inl ⟨21,[[],[],[],[],[3],[2,3,4],[2,3,4,5],[],[7],[2,3,4,5,6,7,8],[1,2,3,4,5,6,7,8,9],[1,2,3,4,5,6,7,8,9,10],[],[],[],[14],[],[16],[14,15,16,17],[13,14,15,16,17,18],[13,14,15,16,17,18,19],[0,1,2,3,4,5,6,7,8,9,10,11,12,13,14,15,16,17,18,19,20]],by kernel_rfl,?_⟩
     conv=>whnf
     rw [show decide ((n:Int)≠0)=true from decide_eq_true (by omega)]
     conv=>whnf
     rw [lP];refine ⟨⟨by omega,by omega⟩,?_⟩
     simp only [toNat_cast,aB,Nat.zero_add];conv=>whnf
     refine ⟨by show u < n; omega,?_⟩
     conv=>whnf
     rw [ra];conv=>whnf
     rw [show decide ((n:Int)≠0)=true from decide_eq_true (by omega)]
     conv=>whnf
     rw [cT];refine ⟨⟨by omega,by omega⟩,?_⟩
     simp only [toNat_cast,aB,Nat.zero_add];conv=>whnf
     refine ⟨by show w < n; omega,?_⟩
     conv=>whnf
     rw [rd];conv=>whnf
     obtain ⟨z,hz,ax⟩:=M1 hn h1 pa cb cd;rw [← hO] at ax;refine ⟨(a,b,d),rfl,⟨PV.aQ sa (by decide),PV.aQ sb (by decide),PV.aQ sd (by decide)⟩,?_⟩
     rw [show u9.val (a,b,d)=.bool z from hz]
     conv=>whnf
     cases z with
     | false =>
      conv=>whnf
      rw [e7];refine .inr ⟨[0,1],[0,1,5,8,9,10],?_⟩;conv=>whnf
      intro _;conv=>whnf
      refine ⟨_,?_,j+1,O,q+1,F,(.aa (.aa (.sk 3 (.aa (.sk 2 (.aa (.aa (.aa (.sk 32 .nil rfl)))) rfl)) rfl))),rfl,rfl,?_⟩
      ·omega
      ·exact ⟨⟨by omega,hq⟩,by rw [ax]; simp,hF⟩
     | true =>
      conv=>whnf
      refine ⟨⟨by show 1≤1; decide,rfl,by show (q+1+1)*80≤140737488355328; omega⟩,?_⟩
      conv=>whnf
      refine ⟨[0,1,8,9,10],?_⟩;conv=>whnf
      intro _;conv=>whnf
      rw [e7];refine .inr ⟨[0,1],[0,1,5,8,9,10],?_⟩;conv=>whnf
      intro _;conv=>whnf
      refine ⟨_,?_,j+1,O++[aw L j],q+1+1,_,(.aa (.aa (.sk 3 (.aa (.sk 2 (.aa (.aa (.aa (.sk 32 .nil rfl)))) rfl)) rfl))),rfl,rfl,?_⟩
      ·omega
      ·exact ⟨⟨by omega,by rw [List.length_append,← hq]; rfl⟩,by rw [ax]; simp,rM hq hF cb rfl⟩
    ·have h1:j=n:=by
      have:=of_decide_eq_false h1;omega
     subst h1;have hE:jz L=O:=by rw [hO,hn]; exact (Mi L).symm
     conv=>whnf
     rw [show (j5 110 111).new (some (L,c),true)=some (.flat true (q+1) 6 (bP O)) from by show cg (jz L)=_; rw [hE]; unfold cg; rw [← hq],show (j5 110 111).val (some (L,c),true)=.slice (some ⟨1,0,none⟩) (q+1) aO from by show eD _ (jz L).length=_; rw [hE,← hq]; rfl]
     refine ⟨1,?_⟩;conv=>whnf
     exact ⟨⟨rfl,ar.rH (fun h=>h) hF (fun r hr=>rfl)⟩,_,rfl,.refl _⟩
open Go Go.Ae
def JD:Env:=En [(33,.p mo)]
theorem acU:EnvOk Tryz.prog JD:=bH ⟨yX,trivial⟩ trivial
theorem Wx:gf Tryz.prog 145 (cl JD cK Tryz.f145):=by
 exact ji acU aP Tryz.func145 (enters_of Tryz.func145 (by kernel_rfl) rfl)
def JE:Env:=En [] [(145,cl JD cK Tryz.f145)] [] true
theorem acV:EnvOk Tryz.prog JE:=bH trivial ⟨Wx,trivial⟩
theorem TO:gf Tryz.prog 112 (cl JE cK Tryz.f112):=by
 exact ji acV aP Tryz.func112 (enters_of Tryz.func112 (by kernel_rfl) rfl)
abbrev jx:cG:=j5 110 111
def Ey2:Env:=En [(109,.q jx),(74,.p oW)] [(112,cl JE cK Tryz.f112)]
theorem acW:EnvOk Tryz.prog Ey2:=bH ⟨Zj,NZ,trivial⟩ ⟨TO,trivial⟩
theorem Zk:dk Tryz.prog 58 fk:=by
 refine eI acW aP Tryz.func58 (enters_of Tryz.func58 (by kernel_rfl) rfl) ?_ ?_ ?_
 ·intro i B hb;cases i with
  | none=>simp [fk,QL.ae] at hb
  | some i=>simp [fk,QL.ae] at hb; rw [hb]; rfl
 ·intro i B hb;exact BK hb
 intro i hp;have hp:i.list.length≤549755813888∧∀ v∈i.list,Q2.sz 262144 v:=hp;obtain ⟨hlen,bc⟩:=hp;cases i with
 | none =>
  conv=>whnf
  refine ⟨(none,false),[],rfl,⟨Nat.zero_le _,fun v hv=>nomatch hv⟩,?_⟩
  rw [show jx.ae (none,false)=[] from rfl,show jx.val (none,false)=.slice none 0 0 from rfl,show jx.new (none,false)=none from rfl]
  conv=>whnf
  refine ⟨_,rfl,?_⟩;conv=>whnf
  refine ⟨(none,true),[],rfl,⟨Nat.zero_le _,fun v hv=>nomatch hv⟩,?_⟩
  rw [show jx.ae (none,true)=[] from rfl,show jx.val (none,true)=.slice none 0 0 from rfl,show jx.new (none,true)=none from rfl]
  conv=>whnf
  refine ⟨_,rfl,?_⟩;conv=>whnf
  exact ⟨_,rfl,.refl _⟩
 | some i =>
  obtain ⟨L,c⟩:=i;have hlen:L.length≤549755813888:=hlen;have bc:∀ v∈L,Q2.sz 262144 v:=bc;obtain ⟨n,hn⟩:∃ n,n=L.length:=⟨_,rfl⟩;obtain ⟨g,hg⟩:∃ g,g=bP L:=⟨_,rfl⟩;obtain ⟨D,hD⟩:∃ D,D=sj false L:=⟨_,rfl⟩;obtain ⟨C,hC⟩:∃ C,C=sj true D:=⟨_,rfl⟩;have hR:fH L=if C.length < 3 then [] else eV C:=by rw [UK,← hD,← hC]
  have JF:D.length≤n∧∀ v∈D,Q2.sz 262144 v:=⟨by rw [hD,hn]; exact (x6 L).length_le,fun v hv=>bc v ((x6 L).subset (by rw [hD] at hv; exact hv))⟩
  have Dr:C.length≤n∧∀ v∈C,Q2.sz 262144 v:=⟨Nat.le_trans (by rw [hC]; exact (A5 D).length_le) JF.1,fun v hv=>JF.2 v ((A5 D).subset (by rw [hC] at hv; exact hv))⟩
  obtain ⟨cu,dp⟩:∃ c,c=aO:=⟨_,rfl⟩;obtain ⟨K,hK⟩:∃ K,K=iT fk (some (L,c)):=⟨_,rfl⟩;have sO:∀ H:aA,fH L=[]→K (.slice none 0 0) H:=fun H h=>by
   rw [hK];unfold iT;rw [show fk.new (some (L,c))=none from by show cg (fH L)=none; rw [h]; rfl,show fk.val (some (L,c))=.slice none 0 0 from by show eD _ (fH L).length=_; rw [h]; rfl]
   exact ⟨_,rfl,.refl _⟩
  rw [show fk.ae (some (L,c))=[.flat false n 6 g] from by rw [hn,hg]; rfl,show fk.args (some (L,c))=[.slice (some ⟨0,0,none⟩) n c] from by rw [hn]; rfl,← hK]
  rw [← hn] at hlen;conv=>whnf
  refine ⟨(some (L,c),false),[0],by rw [show jx.args (some (L,c),false)=[.slice (some ⟨0,0,none⟩) n c,.func (.func 110) #[] #[]] from by rw [hn]; rfl]; rfl,⟨by show L.length≤_; omega,bc⟩,?_⟩
  obtain ⟨d,hd⟩:∃ d,d=D.length:=⟨_,rfl⟩;rw [show jx.ae (some (L,c),false)=[.flat false n 6 g] from by rw [hn,hg]; rfl,show jx.val (some (L,c),false)=eD 1 d from by rw [hd,hD]; rfl,show jx.new (some (L,c),false)=cg D from by rw [hD]; rfl]
  cases d with
  | zero =>
   obtain rfl:D=[]:=List.eq_nil_of_length_eq_zero hd.symm;conv=>whnf
   refine ⟨ar.aE (fun h=>h) (fun r hr=>by rw [hg]; rfl),?_⟩
   conv=>whnf
   refine ⟨_,rfl,?_⟩;conv=>whnf
   refine ⟨(none,true),[],rfl,⟨Nat.zero_le _,fun v hv=>nomatch hv⟩,?_⟩
   rw [show jx.ae (none,true)=[] from rfl,show jx.val (none,true)=.slice none 0 0 from rfl,show jx.new (none,true)=none from rfl]
   conv=>whnf
   refine ⟨_,rfl,?_⟩;conv=>whnf
   exact sO _ (by rw [hR,hC]; rfl)
  | succ d =>
   obtain ⟨G,hG⟩:∃ G,G=bP D:=⟨_,rfl⟩;rw [show cg D=some (.flat true (d+1) 6 G) from by unfold cg; rw [← hd,hG]]
   conv=>whnf
   refine ⟨ar.aE (fun h=>h) (fun r hr=>by rw [hg]; rfl),?_⟩
   conv=>whnf
   refine ⟨_,rfl,?_⟩;conv=>whnf
   obtain ⟨e,he⟩:∃ d,d=C.length:=⟨_,rfl⟩;refine ⟨(some (D,aO),true),[1],by rw [show jx.args (some (D,aO),true)=[.slice (some ⟨0,0,none⟩) (d+1) aO,.func (.func 111) #[] #[]] from by rw [hd]; rfl]; rfl,⟨by show D.length≤_; omega,JF.2⟩,?_⟩
   rw [show jx.ae (some (D,aO),true)=[.flat false (d+1) 6 G] from by rw [hd,hG]; rfl,show jx.val (some (D,aO),true)=eD 1 e from by rw [he,hC]; rfl,show jx.new (some (D,aO),true)=cg C from by rw [hC]; rfl]
   cases e with
   | zero =>
    obtain rfl:C=[]:=List.eq_nil_of_length_eq_zero he.symm;conv=>whnf
    refine ⟨ar.aE (fun h=>by cases h) (fun r hr=>by rw [hG]; rfl),?_⟩
    conv=>whnf
    refine ⟨_,rfl,?_⟩;conv=>whnf
    exact sO _ (by rw [hR]; rfl)
   | succ e =>
    obtain ⟨E,hE⟩:∃ G,G=bP C:=⟨_,rfl⟩;rw [show cg C=some (.flat true (e+1) 6 E) from by unfold cg; rw [← he,hE]]
    conv=>whnf
    refine ⟨ar.aE (fun h=>by cases h) (fun r hr=>by rw [hG]; rfl),?_⟩
    conv=>whnf
    refine ⟨_,rfl,?_⟩;conv=>whnf
    by_cases h3:e+1 < 3
    ·rw [show decide (((e+1:Nat):Int) < 3)=true from decide_eq_true (by omega)]
     conv=>whnf
     exact sO _ (by rw [hR,if_pos (by omega)])
    rw [show decide (((e+1:Nat):Int) < 3)=false from decide_eq_false (by omega)]
    rw [if_neg (by omega)] at hR
    obtain ⟨N,hN⟩:∃ N,N=e+1:=⟨_,rfl⟩;rw [← hN] at he;rw [← hN];obtain ⟨M,hM⟩:∃ N,N=d+1:=⟨_,rfl⟩;rw [← hM,← dp];conv=>whnf
    refine .inl ⟨fun mm tz hz=>∃ (i:Nat) (m:Nat),bB (some (.slice (some ⟨2,0,none⟩) N cu)::aG 2 (some (.int .i64 m)::aG 9 (some (.slice (some ⟨2,0,none⟩) N cu)::some (.int .i64 N)::some (.int .i64 i)::aG 21 []))) tz∧hz=[some (.flat false n 6 g),some (.flat true M 6 G),some (.flat true N 6 E)]∧N - i=mm∧(i≤N∧m=nE C i),.inr ⟨[0,1,2],[0,3,13,14,15],?_⟩,?_⟩
    ·conv=>whnf
     intro _;conv=>whnf
     refine ⟨_,0,0,(.aa (.sk 2 (.aa (.sk 9 (.aa (.aa (.aa (.sk 21 .nil rfl)))) rfl)) rfl)),rfl,rfl,?_⟩;exact ⟨Nat.zero_le _,rfl⟩
    rintro mm aW _ ⟨i,m,aC,rfl,rfl,⟨hi,hm⟩⟩
    obtain ⟨az,rfl⟩:∃ az:Nat→Value,aW=.slice (some ⟨2,0,none⟩) N cu::zs az 1 2 (.int .i64 m::zs az 4 9 (.slice (some ⟨2,0,none⟩) N cu::.int .i64 N::.int .i64 i::zs az 16 21 [])):=bI aC;clear aC;have kO:m < N:=by rw [hm,he]; exact (Kn C i (by omega)).1 (by omega)
    conv=>whnf
    refine aN (fun h1=>?_) (fun h1=>?_)
    ·have h1:i < N:=by
      have:=of_decide_eq_true h1;omega
     have e7:IntKind.i64.wrap ((i:Int)+1)=((i+1:Nat):Int):=by rw [ay (by omega) (by omega)]; rfl
     obtain ⟨p,cp,rp,pp,sp,qp⟩:=g9 (L:=C) (k:=i) (by omega) Dr.2
     obtain ⟨q,cq,rq,pq,sq,qq⟩:=g9 (L:=C) (k:=m) (by omega) Dr.2
     rw [← hE] at rp rq;conv=>whnf
     refine ⟨⟨by omega,by omega⟩,?_⟩
     simp only [toNat_cast,aB,Nat.zero_add];conv=>whnf
     refine ⟨by show i < N; omega,?_⟩
     conv=>whnf
     rw [rp];conv=>whnf
     refine .inl ⟨5,[[],[],[],[1,2],[1,2,3],[0,1,2,3,4],[0,1,2,3,4,5]],by kernel_rfl,?_⟩
     conv=>whnf
     refine ⟨⟨by omega,by omega⟩,?_⟩
     simp only [toNat_cast,aB,Nat.zero_add];conv=>whnf
     refine ⟨by show m < N; omega,?_⟩
     conv=>whnf
     rw [rq];conv=>whnf
     obtain ⟨z,ez,pz⟩:=eU (fC p.p q.p);refine ⟨(p,q),rfl,⟨PV.aQ sp (by decide),PV.aQ sq (by decide)⟩,?_⟩
     rw [show oW.val (p,q)=.int .i64 z from ez]
     conv=>whnf
     rw [pp,pq] at pz;have tj:nE C (i+1)=if z < 0 then i else m:=by
      show (if fC (aw C i) (aw C (nE C i)) < 0 then i else nE C i)=_
      rw [pz,hm]
     refine aN (fun J=>?_) (fun J=>?_)
     ·have J:z < 0:=of_decide_eq_true J;conv=>whnf
      rw [e7];refine .inr ⟨[0,1,2],[0,3,13,14,15],?_⟩;conv=>whnf
      intro _;conv=>whnf
      refine ⟨_,?_,i+1,i,(.aa (.sk 2 (.aa (.sk 9 (.aa (.aa (.aa (.sk 21 .nil rfl)))) rfl)) rfl)),rfl,rfl,?_⟩
      ·omega
      ·exact ⟨by omega,by rw [tj,if_pos J]⟩
     ·have J:¬ z < 0:=of_decide_eq_false J;conv=>whnf
      rw [e7];refine .inr ⟨[0,1,2],[0,3,13,14,15],?_⟩;conv=>whnf
      intro _;conv=>whnf
      refine ⟨_,?_,i+1,m,(.aa (.sk 2 (.aa (.sk 9 (.aa (.aa (.aa (.sk 21 .nil rfl)))) rfl)) rfl)),rfl,rfl,?_⟩
      ·omega
      ·exact ⟨by omega,by rw [tj,if_neg J]⟩
    ·have h1:i=N:=by
      have:=of_decide_eq_false h1;omega
     subst h1;conv=>whnf
     refine .inl ⟨6,[[],[],[0,1],[],[],[3,4],[0,1,2,3,4,5],[0,1,2,3,4,5,6],[0,1,2,3,4,5,6,7]],by kernel_rfl,?_⟩
     conv=>whnf
     refine ⟨⟨by omega,by omega,by omega⟩,?_⟩
     rw [show Int.toNat (i:Int) - Int.toNat (m:Int)=i - m from rfl,show Int.toNat (m:Int)=m from rfl,aB,Nat.zero_add]
     conv=>whnf
     refine ⟨⟨by omega,by omega,by omega⟩,?_⟩
     conv=>whnf
     obtain ⟨a,ha⟩:∃ a,a=i - m:=⟨_,rfl⟩;obtain ⟨ca,hca⟩:∃ a,a=uj cu m:=⟨_,rfl⟩;obtain ⟨cb,hcb⟩:∃ a,a=uj cu (Int.toNat 0):=⟨_,rfl⟩;rw [← ha,← hca,← hcb,show e9 0 (Int.toNat 0)=0 from rfl,show Int.toNat (m:Int) - Int.toNat 0=m from rfl,Nat.zero_add]
     have w1:IntKind.i64.wrap (0+(a:Int))=(a:Int):=by rw [ay (by omega) (by omega)]; omega
     have w2:IntKind.i64.wrap ((a:Int)+(m:Int))=(i:Int):=by rw [ay (by omega) (by omega)]; omega
     refine .inr ⟨3,?_⟩;conv=>whnf
     refine ⟨by decide,?_⟩
     conv=>whnf
     rw [w1,show decide ((a:Int) < 0)=false from decide_eq_false (by omega)]
     conv=>whnf
     refine ⟨by decide,?_⟩
     conv=>whnf
     rw [w2,show decide ((i:Int) < 0)=false from decide_eq_false (by omega)]
     conv=>whnf
     have w3:IntKind.i64.wrap ((i:Int) - IntKind.i64.wrap (0 - ((0:Nat):Int)))=(i:Int):=by
      rw [show IntKind.i64.wrap (0 - ((0:Nat):Int))=0 from rfl,ay (by omega) (by omega)]; omega
     rw [w3,show decide ((i:Int) > 0)=true from decide_eq_true (by omega)]
     conv=>whnf
     refine ⟨⟨by omega,by omega,by omega⟩,?_⟩
     conv=>whnf
     refine ⟨⟨by omega,by show (i:Int)*((80:Nat):Int)≤_; omega⟩,?_⟩
     conv=>whnf
     refine ⟨⟨by omega,by omega,by omega⟩,?_⟩
     rw [show (0:Int).toNat=0 from rfl,show e9 0 0=0 from rfl]
     conv=>whnf
     refine .inr ⟨3,?_⟩;conv=>whnf
     refine ⟨by decide,?_⟩
     conv=>whnf
     refine ⟨by omega,?_⟩
     conv=>whnf
     rw [show Int.toNat (((0:Nat):Int)) - 0=0 from rfl,show (Src.fl a fun j=>E (e9 (0+m) j)).m=a from rfl,Nat.zero_add]
     refine ⟨⟨by decide,⟨Nat.zero_le _,rfl⟩,by show (0+a)*80≤_; omega⟩,?_⟩
     conv=>whnf
     refine ⟨[25,26,27],?_⟩;conv=>whnf
     intro _;conv=>whnf
     refine ⟨by decide,?_⟩
     conv=>whnf
     refine ⟨by omega,?_⟩
     conv=>whnf
     rw [show (Src.fl m fun j=>E (e9 0 j)).m=m from rfl]
     refine ⟨⟨by decide,⟨Nat.le_refl _,rfl⟩,by show (0+a+m)*80≤_; omega⟩,?_⟩
     conv=>whnf
     refine ⟨[25,26,27],?_⟩;conv=>whnf
     intro _;conv=>whnf
     rw [show 0+a+m=i from by omega]
     have hl:(fH L).length=i:=by rw [hR,A4]; omega
     rw [hK];unfold iT;rw [show fk.new (some (L,c))=some (.flat true i 6 (bP (fH L))) from Xe hl (by omega),show fk.val (some (L,c))=.slice (some ⟨1,0,none⟩) i aO from (congrArg (eD 1) hl).trans (Xf (by omega))]
     refine ⟨10,?_⟩;conv=>whnf
     refine ⟨⟨rfl,ar.rH (fun h=>h) (fun r hr=>?_) (fun r hr=>rfl)⟩,_,rfl,.refl _⟩
     rw [hR,UE (L:=C) (fun r hr=>by rw [hE]) (by omega) (by omega) r (by omega),hm,he]
     rfl
open Go Go.Ae
def JG:Env:=En [(70,.p pW),(34,.p iC),(38,.p gH),(71,.p qj),(39,.p xC)] [(64,cl mI cK Tryz.f64)] [(118,ug)]
theorem acX:EnvOk Tryz.prog JG:=bH ⟨Mv,F9,wT,N0,abw,trivial⟩ ⟨wG,trivial⟩
theorem abB:gG Tryz.prog JG:=vy ⟨wm,trivial⟩
def P3:Nat→FT→Nu→FT:=fun l G nu=>cl { JG with ys:=[(l,G)],nu:=nu } cK Tryz.f114
theorem Zl:zv Tryz.prog 114 P3:=by
 exact ON acX aP Tryz.func114 (enters_of Tryz.func114 (by kernel_rfl) rfl) (hI:=abB)
def DY:Env:=En [] [] [(114,P3)]
theorem acY:EnvOk Tryz.prog DY:=bH trivial trivial
theorem abC:gG Tryz.prog DY:=vy ⟨Zl,trivial⟩
theorem Zm:gf Tryz.prog 113 (cl DY cK Tryz.f113):=by
 exact ji acY aP Tryz.func113 (enters_of Tryz.func113 (by kernel_rfl) rfl) (hI:=abC)
def Ez3:Env:=En [] [(113,cl DY cK Tryz.f113)]
theorem acZ:EnvOk Tryz.prog Ez3:=bH trivial ⟨Zm,trivial⟩
abbrev iw:cG:=Ij 114
theorem abD:dk Tryz.prog 59 iw:=by
 refine eI acZ aP Tryz.func59 (enters_of Tryz.func59 (by kernel_rfl) rfl) ?_ ?_ ?_
 ·intro ⟨i,_⟩ B hb;cases i with
  | none=>simp [iw,Ij,QL.ae] at hb; rcases hb with rfl | rfl | rfl <;> rfl
  | some i=>simp [iw,Ij,QL.ae] at hb; rcases hb with rfl | rfl | rfl | rfl <;> rfl
 ·intro i B hb;exact BK hb
 intro ⟨i,a,b⟩ hp;have hp:i.list.length≤1073741824∧(∀ v∈i.list,Q2.sz 2048 v)∧a.sz 2048∧b.sz 2048:=hp;obtain ⟨hlen,bc,sa,sb⟩:=hp;have qa:=PV.dy sa (by decide)
 have qb:=PV.dy sb (by decide)
 cases i with
 | none =>
  conv=>whnf
  intro yl nu fn tm df;conv=>whnf
  intro JH nu2 Rd Re Rf;conv=>whnf
  refine .inr ⟨1,?_⟩;conv=>whnf
  exact ⟨_,rfl,.refl _⟩
 | some i =>
  obtain ⟨L,c⟩:=i;have hlen:L.length≤1073741824:=hlen;have bc:∀ v∈L,Q2.sz 2048 v:=bc;obtain ⟨n,hn⟩:∃ n,n=L.length:=⟨_,rfl⟩;obtain ⟨g,hg⟩:∃ g,g=bP L:=⟨_,rfl⟩;obtain ⟨K,hK⟩:∃ K,K=iT iw (some (L,c),(a,b)):=⟨_,rfl⟩;rw [show iw.ae (some (L,c),(a,b))=[.flat false n 6 g,.aS false 1 [[.slice (some ⟨0,0,none⟩) n c]],.aS false 6 [a.cells],.aS false 6 [b.cells]] from by rw [hn,hg]; rfl,show iw.args (some (L,c),(a,b))=[.func (.func 114) #[] #[.pointer (some ⟨1,0,none⟩),.pointer (some ⟨2,0,none⟩),.pointer (some ⟨3,0,none⟩)]] from rfl,← hK]
  rw [← hn] at hlen;conv=>whnf
  intro yl nu fn tm df;conv=>whnf
  intro JH nu2 Rd Re Rf;conv=>whnf
  refine .inl ⟨fun mm tz hz=>∃ (j:Nat) (O:List Q2) (q:Nat) (F:Nat→List Value),bB (some (.func (.yield JH) #[] #[])::some (.pointer (some ⟨7,0,none⟩))::aG 3 (some (.slice (some ⟨0,0,none⟩) n c)::some (.int .i64 n)::some (.int .i64 j)::aG 17 [])) tz∧hz=[some (.flat false n 6 g),some (.aS false 1 [[.slice (some ⟨0,0,none⟩) n c]]),some (.aS false 6 [a.cells]),some (.aS false 6 [b.cells]),some (.aS true 1 [[eD 9 q]]),some (.cc (qE Tryz.f113 fn tm df)),some (.aS true 1 [[.func (.yield yl) #[] #[]]]),some (.aS true 1 [[.slice (some ⟨0,0,none⟩) n c]]),some (.cc (qE Tryz.f114 Rd Re Rf))]++zG 6 F q∧n - j=mm∧((j≤n∧q=O.length)∧O=((ba L).take j).flatMap (m9 (dP a.p b.p))∧∀ r,r < q→F r=bP O r),.inr ⟨[0,1,2,3,4,5,6,7,8],[0,1,5,6,7],?_⟩,?_⟩
  ·conv=>whnf
   intro _;conv=>whnf
   refine ⟨_,0,[],0,fun _=>[],(.aa (.aa (.sk 3 (.aa (.aa (.aa (.sk 17 .nil rfl)))) rfl))),rfl,rfl,?_⟩
   exact ⟨⟨Nat.zero_le _,rfl⟩,rfl,fun r hr=>absurd hr (Nat.not_lt_zero r)⟩
  rintro mm aW _ ⟨j,O,q,F,aC,rfl,rfl,⟨⟨hj,hq⟩,hO,hF⟩⟩
  obtain ⟨az,rfl⟩:∃ az:Nat→Value,aW=.func (.yield JH) #[] #[]::.pointer (some ⟨7,0,none⟩)::zs az 2 3 (.slice (some ⟨0,0,none⟩) n c::.int .i64 n::.int .i64 j::zs az 8 17 []):=bI aC;clear aC;have tj:=Xg (dP a.p b.p) L j;rw [← hO,← hq] at tj;cases q with
  | zero =>
   obtain rfl:O=[]:=List.eq_nil_of_length_eq_zero hq.symm;conv=>whnf
   refine aN (fun h7=>?_) (fun h7=>?_)
   ·have h7:j < n:=by
     have:=of_decide_eq_true h7;omega
    have e8:IntKind.i64.wrap ((j:Int)+1)=((j+1:Nat):Int):=by rw [ay (by omega) (by omega)]; rfl
    obtain ⟨u,cu,ru,pu,su,qu⟩:=g9 (L:=L) (k:=j) (by omega) bc
    obtain ⟨v,cv,rv,pv,sv,qv⟩:=g9 (L:=L) (k:=aY n j) (by rw [hn]; exact cO (by omega)) bc
    have cT:=ld h7 (by omega)
    have cE:=cO h7;have gX:(ba L)[j]?=some (u.p,v.p):=by rw [pu,pv]; rw [hn] at cE ⊢; exact pL (g7 (by omega)) (g7 cE)
    rw [← pu] at cu;obtain ⟨k,hk⟩:∃ u,u=aY n j:=⟨_,rfl⟩;rw [← hk] at cT cE rv;rw [← hg] at ru rv;conv=>whnf
    refine ⟨⟨by omega,by omega⟩,?_⟩
    simp only [toNat_cast,aB,Nat.zero_add];conv=>whnf
    refine ⟨by show j < n; omega,?_⟩
    conv=>whnf
    rw [ru];conv=>whnf
    refine .inl ⟨10,[[],[],[],[],[3],[],[5],[3,4,5,6],[2,3,4,5,6,7],[2,3,4,5,6,7,8],[0,1,2,3,4,5,6,7,8,9],[0,1,2,3,4,5,6,7,8,9,10]],by kernel_rfl,?_⟩
    conv=>whnf
    rw [show decide ((n:Int)≠0)=true from decide_eq_true (by omega)]
    conv=>whnf
    rw [cT];refine ⟨⟨by omega,by omega⟩,?_⟩
    simp only [toNat_cast,aB,Nat.zero_add];conv=>whnf
    refine ⟨by show k < n; omega,?_⟩
    conv=>whnf
    rw [rv];conv=>whnf
    refine ⟨rfl,?_⟩;conv=>whnf
    refine ⟨rfl,?_⟩;conv=>whnf
    refine ⟨rfl,?_⟩;conv=>whnf
    refine .inl ⟨10,[[],[],[],[0,1,2],[],[],[],[0,1,2,3,4,5,6],[],[],[0,1,2,3,4,5,6,7,8,9],[0,1,2,3,4,5,6,7,8,9,10]],by kernel_rfl,?_⟩
    conv=>whnf
    obtain ⟨x,ex,px,sx,qx⟩:=gI (xt qa qb qu);refine ⟨(a,b,u),rfl,⟨PV.aQ sa (by decide),PV.aQ sb (by decide),PV.aQ su (by decide)⟩,?_⟩
    rw [show pW.val (a,b,u)=x.v from ex]
    conv=>whnf
    obtain ⟨y,ey,py,sy,qy⟩:=gI (xt qa qb qv);refine ⟨(a,b,v),rfl,⟨PV.aQ sa (by decide),PV.aQ sb (by decide),PV.aQ sv (by decide)⟩,?_⟩
    rw [show pW.val (a,b,v)=y.v from ey]
    conv=>whnf
    obtain ⟨z,ez,pz⟩:=eU (a8 x.q 0);refine ⟨x,rfl,RV.bV sx (by decide),?_⟩
    rw [show iC.val x=.int .i64 z from ez]
    conv=>whnf
    have hz:=pJ x.q 0;rw [← pz] at hz;have ax:=Mj (w:=cB (atR u.p v.p (x.q / (x.q - y.q)))) gX hO (px.trans (oQ _ _ _).symm) (py.trans (oQ _ _ _).symm) (ia _);rw [← pz] at ax;by_cases h8:z ≥ 0
    ·rw [show decide (z ≥ 0)=true from decide_eq_true h8]
     rw [if_pos h8] at ax;conv=>whnf
     refine ⟨rfl,?_⟩;conv=>whnf
     refine ⟨rfl,?_⟩;conv=>whnf
     refine ⟨rfl,?_⟩;conv=>whnf
     refine ⟨by decide,?_⟩
     conv=>whnf
     refine ⟨rfl,?_⟩;conv=>whnf
     refine .inl ⟨3,[[],[0],[],[0,1,2],[0,1,2,3],[0,1,2,3,4]],by kernel_rfl,?_⟩
     conv=>whnf
     obtain ⟨z3,vD,vE⟩:=eU (a8 x.q 0);refine ⟨x,rfl,RV.bV sx (by decide),?_⟩
     rw [show iC.val x=.int .i64 z3 from vD]
     conv=>whnf
     obtain ⟨z2,vF,ot⟩:=eU (a8 y.q 0);refine ⟨y,rfl,RV.bV sy (by decide),?_⟩
     rw [show iC.val y=.int .i64 z2 from vF]
     conv=>whnf
     have ny:=pJ y.q 0;rw [← ot] at ny;obtain rfl:z3=z:=vE.trans pz.symm;rw [show IntKind.i64.wrap (z3*z2)=z3*z2 from by rcases hz with rfl | rfl | rfl <;> rcases ny with rfl | rfl | rfl <;> rfl]
     rw [← ot] at ax;by_cases h9:z3*z2 < 0
     ·rw [show decide (z3*z2 < 0)=true from decide_eq_true h9]
      rw [if_pos h9] at ax;conv=>whnf
      refine .inr (.inr (.inl ⟨9,1,[[],[],[],[1,2],[0,1,2,3],[0,1,2,3,4],[0,1,2,3,4,5],[0,1,2,3,4,5],[],[0,1,2,3,4,5,6,8],[0,1,2,3,4,5,6,7,8,9]],[7],by kernel_rfl,?_⟩))
      conv=>whnf
      obtain ⟨d2,km,vG,vH,vI⟩:=gI (QB.sub qx qy);refine ⟨(x,y),rfl,⟨RV.bV sx (by decide),RV.bV sy (by decide)⟩,?_⟩
      rw [show gH.val (x,y)=d2.v from km]
      conv=>whnf
      obtain ⟨t,et,pt,st,qt⟩:=gI (QB.div qx vI (by decide))
      obtain ⟨e,ee,pe⟩:=eU (if d2.q=0 then 10 else 0)
      refine ⟨(x,d2),rfl,⟨RV.bV sx (by decide),RV.bV vH (by decide)⟩,?_⟩
      rw [show qj.val (x,d2)=.tuple ⟨[t.v,.int .i64 e]⟩ from by rw [← et,← ee]; rfl]
      conv=>whnf
      refine .inl ⟨5,[[],[],[],[],[1,2,3],[0,1,2,3,4],[0,1,2,3,4,5]],by kernel_rfl,?_⟩
      conv=>whnf
      obtain ⟨w,ew,pw,sw,qw⟩:=sh (zj qu qv qt);refine ⟨((u,v),t),rfl,⟨⟨PV.aQ su (by decide),PV.aQ sv (by decide)⟩,RV.aQ st (by decide)⟩,?_⟩
      rw [show xC.val ((u,v),t)=w.v from ew]
      conv=>whnf
      have cw:=(PV.nU ew).symm;rw [← pw] at cw;rw [show (cB (atR u.p v.p (x.q / (x.q - y.q)))).p=w.p from by rw [ia,pw,pt,vG]] at ax
      refine ⟨rfl,?_⟩;conv=>whnf
      refine ⟨rfl,?_⟩;conv=>whnf
      refine ⟨rfl,?_⟩;conv=>whnf
      refine ⟨⟨rfl,by show (0+1+1)*80≤140737488355328; decide⟩,?_⟩
      conv=>whnf
      refine ⟨rfl,?_⟩;conv=>whnf
      refine ⟨rfl,?_⟩;conv=>whnf
      rw [e8];refine .inr ⟨[0,1,2,3,4,5,6,7,8,54],[0,1,5,6,7],?_⟩;conv=>whnf
      intro _;conv=>whnf
      refine ⟨_,?_,j+1,[u.p]++[w.p],0+1+1,_,(.aa (.aa (.sk 3 (.aa (.aa (.aa (.sk 17 .nil rfl)))) rfl))),rfl,rfl,?_⟩
      ·omega
      ·exact ⟨⟨by omega,rfl⟩,by rw [ax]; rfl,rM (O:=[u.p]) rfl (wF cu rfl) cw rfl⟩
     ·rw [show decide (z3*z2 < 0)=false from decide_eq_false h9]
      rw [if_neg h9] at ax;conv=>whnf
      refine ⟨rfl,?_⟩;conv=>whnf
      rw [e8];refine .inr ⟨[0,1,2,3,4,5,6,7,8,34],[0,1,5,6,7],?_⟩;conv=>whnf
      intro _;conv=>whnf
      refine ⟨_,?_,j+1,[u.p],0+1,_,(.aa (.aa (.sk 3 (.aa (.aa (.aa (.sk 17 .nil rfl)))) rfl))),rfl,rfl,?_⟩
      ·omega
      ·exact ⟨⟨by omega,rfl⟩,by rw [ax]; rfl,wF cu rfl⟩
    ·rw [show decide (z ≥ 0)=false from decide_eq_false h8]
     rw [if_neg h8] at ax;conv=>whnf
     refine .inl ⟨3,[[],[0],[],[0,1,2],[0,1,2,3],[0,1,2,3,4]],by kernel_rfl,?_⟩
     conv=>whnf
     obtain ⟨z3,vD,vE⟩:=eU (a8 x.q 0);refine ⟨x,rfl,RV.bV sx (by decide),?_⟩
     rw [show iC.val x=.int .i64 z3 from vD]
     conv=>whnf
     obtain ⟨z2,vF,ot⟩:=eU (a8 y.q 0);refine ⟨y,rfl,RV.bV sy (by decide),?_⟩
     rw [show iC.val y=.int .i64 z2 from vF]
     conv=>whnf
     have ny:=pJ y.q 0;rw [← ot] at ny;obtain rfl:z3=z:=vE.trans pz.symm;rw [show IntKind.i64.wrap (z3*z2)=z3*z2 from by rcases hz with rfl | rfl | rfl <;> rcases ny with rfl | rfl | rfl <;> rfl]
     rw [← ot] at ax;by_cases h9:z3*z2 < 0
     ·rw [show decide (z3*z2 < 0)=true from decide_eq_true h9]
      rw [if_pos h9] at ax;conv=>whnf
      refine .inr (.inr (.inl ⟨9,1,[[],[],[],[1,2],[0,1,2,3],[0,1,2,3,4],[0,1,2,3,4,5],[0,1,2,3,4,5],[],[0,1,2,3,4,5,6,8],[0,1,2,3,4,5,6,7,8,9]],[7],by kernel_rfl,?_⟩))
      conv=>whnf
      obtain ⟨d2,km,vG,vH,vI⟩:=gI (QB.sub qx qy);refine ⟨(x,y),rfl,⟨RV.bV sx (by decide),RV.bV sy (by decide)⟩,?_⟩
      rw [show gH.val (x,y)=d2.v from km]
      conv=>whnf
      obtain ⟨t,et,pt,st,qt⟩:=gI (QB.div qx vI (by decide))
      obtain ⟨e,ee,pe⟩:=eU (if d2.q=0 then 10 else 0)
      refine ⟨(x,d2),rfl,⟨RV.bV sx (by decide),RV.bV vH (by decide)⟩,?_⟩
      rw [show qj.val (x,d2)=.tuple ⟨[t.v,.int .i64 e]⟩ from by rw [← et,← ee]; rfl]
      conv=>whnf
      refine .inl ⟨5,[[],[],[],[],[1,2,3],[0,1,2,3,4],[0,1,2,3,4,5]],by kernel_rfl,?_⟩
      conv=>whnf
      obtain ⟨w,ew,pw,sw,qw⟩:=sh (zj qu qv qt);refine ⟨((u,v),t),rfl,⟨⟨PV.aQ su (by decide),PV.aQ sv (by decide)⟩,RV.aQ st (by decide)⟩,?_⟩
      rw [show xC.val ((u,v),t)=w.v from ew]
      conv=>whnf
      have cw:=(PV.nU ew).symm;rw [← pw] at cw;rw [show (cB (atR u.p v.p (x.q / (x.q - y.q)))).p=w.p from by rw [ia,pw,pt,vG]] at ax
      refine ⟨rfl,?_⟩;conv=>whnf
      refine ⟨rfl,?_⟩;conv=>whnf
      refine ⟨rfl,?_⟩;conv=>whnf
      refine ⟨by decide,?_⟩
      conv=>whnf
      refine ⟨rfl,?_⟩;conv=>whnf
      refine ⟨rfl,?_⟩;conv=>whnf
      rw [e8];refine .inr ⟨[0,1,2,3,4,5,6,7,8,51],[0,1,5,6,7],?_⟩;conv=>whnf
      intro _;conv=>whnf
      refine ⟨_,?_,j+1,[w.p],0+1,_,(.aa (.aa (.sk 3 (.aa (.aa (.aa (.sk 17 .nil rfl)))) rfl))),rfl,rfl,?_⟩
      ·omega
      ·exact ⟨⟨by omega,rfl⟩,by rw [ax]; rfl,wF cw rfl⟩
     ·rw [show decide (z3*z2 < 0)=false from decide_eq_false h9]
      rw [if_neg h9] at ax;conv=>whnf
      refine ⟨rfl,?_⟩;conv=>whnf
      rw [e8];refine .inr ⟨[0,1,2,3,4,5,6,7,8],[0,1,5,6,7],?_⟩;conv=>whnf
      intro _;conv=>whnf
      refine ⟨_,?_,j+1,[],0,fun _=>[],(.aa (.aa (.sk 3 (.aa (.aa (.aa (.sk 17 .nil rfl)))) rfl))),rfl,rfl,?_⟩
      ·omega
      ·exact ⟨⟨by omega,rfl⟩,by rw [ax]; rfl,fun r hr=>absurd hr (Nat.not_lt_zero r)⟩
   ·have h7:j=n:=by
     have:=of_decide_eq_false h7;omega
    subst h7;have zM:dc (dP a.p b.p) L=[]:=by rw [hO,hn]; exact (M3 _ L).symm
    conv=>whnf
    rw [hK];unfold iT;rw [show iw.new (some (L,c),(a,b))=none from by show cg (dc (dP a.p b.p) L)=none; rw [zM]; rfl,show iw.val (some (L,c),(a,b))=.slice none 0 0 from by show eD _ (dc (dP a.p b.p) L).length=_; rw [zM]; rfl]
    exact ⟨_,rfl,.refl _⟩
  | succ q =>
   conv=>whnf
   refine aN (fun h7=>?_) (fun h7=>?_)
   ·have h7:j < n:=by
     have:=of_decide_eq_true h7;omega
    have e8:IntKind.i64.wrap ((j:Int)+1)=((j+1:Nat):Int):=by rw [ay (by omega) (by omega)]; rfl
    obtain ⟨u,cu,ru,pu,su,qu⟩:=g9 (L:=L) (k:=j) (by omega) bc
    obtain ⟨v,cv,rv,pv,sv,qv⟩:=g9 (L:=L) (k:=aY n j) (by rw [hn]; exact cO (by omega)) bc
    have cT:=ld h7 (by omega)
    have cE:=cO h7;have gX:(ba L)[j]?=some (u.p,v.p):=by rw [pu,pv]; rw [hn] at cE ⊢; exact pL (g7 (by omega)) (g7 cE)
    rw [← pu] at cu;obtain ⟨k,hk⟩:∃ u,u=aY n j:=⟨_,rfl⟩;rw [← hk] at cT cE rv;rw [← hg] at ru rv;conv=>whnf
    refine ⟨⟨by omega,by omega⟩,?_⟩
    simp only [toNat_cast,aB,Nat.zero_add];conv=>whnf
    refine ⟨by show j < n; omega,?_⟩
    conv=>whnf
    rw [ru];conv=>whnf
    refine .inl ⟨10,[[],[],[],[],[3],[],[5],[3,4,5,6],[2,3,4,5,6,7],[2,3,4,5,6,7,8],[0,1,2,3,4,5,6,7,8,9],[0,1,2,3,4,5,6,7,8,9,10]],by kernel_rfl,?_⟩
    conv=>whnf
    rw [show decide ((n:Int)≠0)=true from decide_eq_true (by omega)]
    conv=>whnf
    rw [cT];refine ⟨⟨by omega,by omega⟩,?_⟩
    simp only [toNat_cast,aB,Nat.zero_add];conv=>whnf
    refine ⟨by show k < n; omega,?_⟩
    conv=>whnf
    rw [rv];conv=>whnf
    refine ⟨rfl,?_⟩;conv=>whnf
    refine ⟨rfl,?_⟩;conv=>whnf
    refine ⟨rfl,?_⟩;conv=>whnf
    refine .inl ⟨10,[[],[],[],[0,1,2],[],[],[],[0,1,2,3,4,5,6],[],[],[0,1,2,3,4,5,6,7,8,9],[0,1,2,3,4,5,6,7,8,9,10]],by kernel_rfl,?_⟩
    conv=>whnf
    obtain ⟨x,ex,px,sx,qx⟩:=gI (xt qa qb qu);refine ⟨(a,b,u),rfl,⟨PV.aQ sa (by decide),PV.aQ sb (by decide),PV.aQ su (by decide)⟩,?_⟩
    rw [show pW.val (a,b,u)=x.v from ex]
    conv=>whnf
    obtain ⟨y,ey,py,sy,qy⟩:=gI (xt qa qb qv);refine ⟨(a,b,v),rfl,⟨PV.aQ sa (by decide),PV.aQ sb (by decide),PV.aQ sv (by decide)⟩,?_⟩
    rw [show pW.val (a,b,v)=y.v from ey]
    conv=>whnf
    obtain ⟨z,ez,pz⟩:=eU (a8 x.q 0);refine ⟨x,rfl,RV.bV sx (by decide),?_⟩
    rw [show iC.val x=.int .i64 z from ez]
    conv=>whnf
    have hz:=pJ x.q 0;rw [← pz] at hz;have ax:=Mj (w:=cB (atR u.p v.p (x.q / (x.q - y.q)))) gX hO (px.trans (oQ _ _ _).symm) (py.trans (oQ _ _ _).symm) (ia _);rw [← pz] at ax;by_cases h8:z ≥ 0
    ·rw [show decide (z ≥ 0)=true from decide_eq_true h8]
     rw [if_pos h8] at ax;conv=>whnf
     refine ⟨rfl,?_⟩;conv=>whnf
     refine ⟨rfl,?_⟩;conv=>whnf
     refine ⟨rfl,?_⟩;conv=>whnf
     refine ⟨⟨rfl,by show (q+1+1)*80≤140737488355328; omega⟩,?_⟩
     conv=>whnf
     refine ⟨rfl,?_⟩;conv=>whnf
     refine .inl ⟨3,[[],[0],[],[0,1,2],[0,1,2,3],[0,1,2,3,4]],by kernel_rfl,?_⟩
     conv=>whnf
     obtain ⟨z3,vD,vE⟩:=eU (a8 x.q 0);refine ⟨x,rfl,RV.bV sx (by decide),?_⟩
     rw [show iC.val x=.int .i64 z3 from vD]
     conv=>whnf
     obtain ⟨z2,vF,ot⟩:=eU (a8 y.q 0);refine ⟨y,rfl,RV.bV sy (by decide),?_⟩
     rw [show iC.val y=.int .i64 z2 from vF]
     conv=>whnf
     have ny:=pJ y.q 0;rw [← ot] at ny;obtain rfl:z3=z:=vE.trans pz.symm;rw [show IntKind.i64.wrap (z3*z2)=z3*z2 from by rcases hz with rfl | rfl | rfl <;> rcases ny with rfl | rfl | rfl <;> rfl]
     rw [← ot] at ax;by_cases h9:z3*z2 < 0
     ·rw [show decide (z3*z2 < 0)=true from decide_eq_true h9]
      rw [if_pos h9] at ax;conv=>whnf
      refine .inr (.inr (.inl ⟨9,1,[[],[],[],[1,2],[0,1,2,3],[0,1,2,3,4],[0,1,2,3,4,5],[0,1,2,3,4,5],[],[0,1,2,3,4,5,6,8],[0,1,2,3,4,5,6,7,8,9]],[7],by kernel_rfl,?_⟩))
      conv=>whnf
      obtain ⟨d2,km,vG,vH,vI⟩:=gI (QB.sub qx qy);refine ⟨(x,y),rfl,⟨RV.bV sx (by decide),RV.bV sy (by decide)⟩,?_⟩
      rw [show gH.val (x,y)=d2.v from km]
      conv=>whnf
      obtain ⟨t,et,pt,st,qt⟩:=gI (QB.div qx vI (by decide))
      obtain ⟨e,ee,pe⟩:=eU (if d2.q=0 then 10 else 0)
      refine ⟨(x,d2),rfl,⟨RV.bV sx (by decide),RV.bV vH (by decide)⟩,?_⟩
      rw [show qj.val (x,d2)=.tuple ⟨[t.v,.int .i64 e]⟩ from by rw [← et,← ee]; rfl]
      conv=>whnf
      refine .inl ⟨5,[[],[],[],[],[1,2,3],[0,1,2,3,4],[0,1,2,3,4,5]],by kernel_rfl,?_⟩
      conv=>whnf
      obtain ⟨w,ew,pw,sw,qw⟩:=sh (zj qu qv qt);refine ⟨((u,v),t),rfl,⟨⟨PV.aQ su (by decide),PV.aQ sv (by decide)⟩,RV.aQ st (by decide)⟩,?_⟩
      rw [show xC.val ((u,v),t)=w.v from ew]
      conv=>whnf
      have cw:=(PV.nU ew).symm;rw [← pw] at cw;rw [show (cB (atR u.p v.p (x.q / (x.q - y.q)))).p=w.p from by rw [ia,pw,pt,vG]] at ax
      refine ⟨rfl,?_⟩;conv=>whnf
      refine ⟨rfl,?_⟩;conv=>whnf
      refine ⟨rfl,?_⟩;conv=>whnf
      refine ⟨⟨rfl,by show (q+1+1+1)*80≤140737488355328; omega⟩,?_⟩
      conv=>whnf
      refine ⟨rfl,?_⟩;conv=>whnf
      refine ⟨rfl,?_⟩;conv=>whnf
      rw [e8];refine .inr ⟨[0,1,2,3,4,5,6,7,8,55],[0,1,5,6,7],?_⟩;conv=>whnf
      intro _;conv=>whnf
      refine ⟨_,?_,j+1,(O++[u.p])++[w.p],q+1+1+1,_,(.aa (.aa (.sk 3 (.aa (.aa (.aa (.sk 17 .nil rfl)))) rfl))),rfl,rfl,?_⟩
      ·omega
      ·exact ⟨⟨by omega,by rw [List.length_append,List.length_append,← hq]; rfl⟩,by rw [ax]; simp,rM (O:=O++[u.p]) (by rw [List.length_append,← hq]; rfl) (rM hq hF cu rfl) cw rfl⟩
     ·rw [show decide (z3*z2 < 0)=false from decide_eq_false h9]
      rw [if_neg h9] at ax;conv=>whnf
      refine ⟨rfl,?_⟩;conv=>whnf
      rw [e8];refine .inr ⟨[0,1,2,3,4,5,6,7,8,35],[0,1,5,6,7],?_⟩;conv=>whnf
      intro _;conv=>whnf
      refine ⟨_,?_,j+1,O++[u.p],q+1+1,_,(.aa (.aa (.sk 3 (.aa (.aa (.aa (.sk 17 .nil rfl)))) rfl))),rfl,rfl,?_⟩
      ·omega
      ·exact ⟨⟨by omega,by rw [List.length_append,← hq]; rfl⟩,by rw [ax]; simp,rM hq hF cu rfl⟩
    ·rw [show decide (z ≥ 0)=false from decide_eq_false h8]
     rw [if_neg h8] at ax;conv=>whnf
     refine .inl ⟨3,[[],[0],[],[0,1,2],[0,1,2,3],[0,1,2,3,4]],by kernel_rfl,?_⟩
     conv=>whnf
     obtain ⟨z3,vD,vE⟩:=eU (a8 x.q 0);refine ⟨x,rfl,RV.bV sx (by decide),?_⟩
     rw [show iC.val x=.int .i64 z3 from vD]
     conv=>whnf
     obtain ⟨z2,vF,ot⟩:=eU (a8 y.q 0);refine ⟨y,rfl,RV.bV sy (by decide),?_⟩
     rw [show iC.val y=.int .i64 z2 from vF]
     conv=>whnf
     have ny:=pJ y.q 0;rw [← ot] at ny;obtain rfl:z3=z:=vE.trans pz.symm;rw [show IntKind.i64.wrap (z3*z2)=z3*z2 from by rcases hz with rfl | rfl | rfl <;> rcases ny with rfl | rfl | rfl <;> rfl]
     rw [← ot] at ax;by_cases h9:z3*z2 < 0
     ·rw [show decide (z3*z2 < 0)=true from decide_eq_true h9]
      rw [if_pos h9] at ax;conv=>whnf
      refine .inr (.inr (.inl ⟨9,1,[[],[],[],[1,2],[0,1,2,3],[0,1,2,3,4],[0,1,2,3,4,5],[0,1,2,3,4,5],[],[0,1,2,3,4,5,6,8],[0,1,2,3,4,5,6,7,8,9]],[7],by kernel_rfl,?_⟩))
      conv=>whnf
      obtain ⟨d2,km,vG,vH,vI⟩:=gI (QB.sub qx qy);refine ⟨(x,y),rfl,⟨RV.bV sx (by decide),RV.bV sy (by decide)⟩,?_⟩
      rw [show gH.val (x,y)=d2.v from km]
      conv=>whnf
      obtain ⟨t,et,pt,st,qt⟩:=gI (QB.div qx vI (by decide))
      obtain ⟨e,ee,pe⟩:=eU (if d2.q=0 then 10 else 0)
      refine ⟨(x,d2),rfl,⟨RV.bV sx (by decide),RV.bV vH (by decide)⟩,?_⟩
      rw [show qj.val (x,d2)=.tuple ⟨[t.v,.int .i64 e]⟩ from by rw [← et,← ee]; rfl]
      conv=>whnf
      refine .inl ⟨5,[[],[],[],[],[1,2,3],[0,1,2,3,4],[0,1,2,3,4,5]],by kernel_rfl,?_⟩
      conv=>whnf
      obtain ⟨w,ew,pw,sw,qw⟩:=sh (zj qu qv qt);refine ⟨((u,v),t),rfl,⟨⟨PV.aQ su (by decide),PV.aQ sv (by decide)⟩,RV.aQ st (by decide)⟩,?_⟩
      rw [show xC.val ((u,v),t)=w.v from ew]
      conv=>whnf
      have cw:=(PV.nU ew).symm;rw [← pw] at cw;rw [show (cB (atR u.p v.p (x.q / (x.q - y.q)))).p=w.p from by rw [ia,pw,pt,vG]] at ax
      refine ⟨rfl,?_⟩;conv=>whnf
      refine ⟨rfl,?_⟩;conv=>whnf
      refine ⟨rfl,?_⟩;conv=>whnf
      refine ⟨⟨rfl,by show (q+1+1)*80≤140737488355328; omega⟩,?_⟩
      conv=>whnf
      refine ⟨rfl,?_⟩;conv=>whnf
      refine ⟨rfl,?_⟩;conv=>whnf
      rw [e8];refine .inr ⟨[0,1,2,3,4,5,6,7,8,52],[0,1,5,6,7],?_⟩;conv=>whnf
      intro _;conv=>whnf
      refine ⟨_,?_,j+1,O++[w.p],q+1+1,_,(.aa (.aa (.sk 3 (.aa (.aa (.aa (.sk 17 .nil rfl)))) rfl))),rfl,rfl,?_⟩
      ·omega
      ·exact ⟨⟨by omega,by rw [List.length_append,← hq]; rfl⟩,by rw [ax]; simp,rM hq hF cw rfl⟩
     ·rw [show decide (z3*z2 < 0)=false from decide_eq_false h9]
      rw [if_neg h9] at ax;conv=>whnf
      refine ⟨rfl,?_⟩;conv=>whnf
      rw [e8];refine .inr ⟨[0,1,2,3,4,5,6,7,8,9],[0,1,5,6,7],?_⟩;conv=>whnf
      intro _;conv=>whnf
      refine ⟨_,?_,j+1,O,q+1,F,(.aa (.aa (.sk 3 (.aa (.aa (.aa (.sk 17 .nil rfl)))) rfl))),rfl,rfl,?_⟩
      ·omega
      ·exact ⟨⟨by omega,hq⟩,by rw [ax]; simp,hF⟩
   ·have h7:j=n:=by
     have:=of_decide_eq_false h7;omega
    subst h7;have zM:dc (dP a.p b.p) L=O:=by rw [hO,hn]; exact (M3 _ L).symm
    conv=>whnf
    rw [hK];unfold iT;rw [show iw.new (some (L,c),(a,b))=some (.flat true (q+1) 6 (bP O)) from by show cg (dc (dP a.p b.p) L)=_; rw [zM]; unfold cg; rw [← hq],show iw.val (some (L,c),(a,b))=.slice (some ⟨4,0,none⟩) (q+1) aO from by show eD _ (dc (dP a.p b.p) L).length=_; rw [zM,← hq]; rfl]
    refine ⟨9,?_⟩;conv=>whnf
    exact ⟨⟨rfl,ar.rH (fun h=>h) hF (fun r hr=>rfl)⟩,_,rfl,.refl _⟩
open Go Go.Ae
theorem Zn:gf Tryz.prog 60 (cl mI cK Tryz.f60):=by
 exact ji CW aP Tryz.func60 (enters_of Tryz.func60 (by kernel_rfl) rfl)
theorem TP:gf Tryz.prog 57 (cl mI cK Tryz.f57):=by
 exact ji CW aP Tryz.func57 (enters_of Tryz.func57 (by kernel_rfl) rfl)
open Go Go.Ae
def Rg:Env:=En [(23,.q aX),(58,.q fk),(59,.r iw)] [(60,cl mI cK Tryz.f60),(57,cl mI cK Tryz.f57),(64,cl mI cK Tryz.f64)] [(118,ug)]
theorem ac0:EnvOk Tryz.prog Rg:=bH ⟨yC,Zk,abD,trivial⟩ ⟨Zn,TP,wG,trivial⟩
theorem abE:gG Tryz.prog Rg:=vy ⟨wm,trivial⟩
theorem Ng:dk Tryz.prog 16 bJ:=by
 refine eI ac0 aP Tryz.func16 (enters_of Tryz.func16 (by kernel_rfl) rfl) ?_ ?_ ?_ (hI:=abE)
 ·intro ⟨i,k⟩ B hb;cases i <;> cases k <;> simp [bJ,PL.ae] at hb
  ·rw [hb]; rfl
  ·rw [hb]; rfl
  ·rcases hb with rfl | rfl <;> rfl
 ·intro i B hb;exact BK hb
 intro ⟨i,k⟩ hp;have hp:((i.list.length≤1099511627776∧∀ v∈i.list,v.sz 2048)∧k.list.length≤1099511627776∧∀ v∈k.list,v.sz 2048)∧xG i.list k.list:=hp;obtain ⟨⟨⟨qn,o8⟩,uR,lH⟩,bf⟩:=hp;cases i with
 | none =>
  cases k with
  | none =>
   conv=>whnf
   refine ⟨none,[],rfl,⟨Nat.zero_le _,fun v hv=>nomatch hv⟩,?_⟩
   rw [show aX.ae none=[] from rfl,show aX.val none=.int .i64 4 from rfl,show aX.new none=none from rfl]
   conv=>whnf
   refine ⟨_,rfl,?_⟩;conv=>whnf
   exact ⟨_,rfl,.refl _⟩
  | some k =>
   conv=>whnf
   refine ⟨none,[],rfl,⟨Nat.zero_le _,fun v hv=>nomatch hv⟩,?_⟩
   rw [show aX.ae none=[] from rfl,show aX.val none=.int .i64 4 from rfl,show aX.new none=none from rfl]
   conv=>whnf
   refine ⟨_,rfl,?_⟩;conv=>whnf
   exact ⟨_,rfl,.refl _⟩
 | some i =>
  obtain ⟨A,c⟩:=i;have qn:A.length≤1099511627776:=qn;have o8:∀ v∈A,PV.sz 2048 v:=o8;obtain ⟨na,bt⟩:∃ n,n=A.length:=⟨_,rfl⟩;obtain ⟨ga,bC⟩:∃ g,g=di A:=⟨_,rfl⟩;cases k with
  | none =>
   obtain ⟨K,hK⟩:∃ K,K=iT bJ (some (A,c),none):=⟨_,rfl⟩;have fin:∀ H:aA,K (.tuple ⟨[.slice none 0 0,.int .i64 1]⟩) H:=fun H=>by
    have h:dg A []=([],1):=HA fun e=>by have:=e.2; cases this
    rw [hK];unfold iT;rw [show bJ.new (some (A,c),none)=none from by show cg (dg A []).1=none; rw [h]; rfl,show bJ.val (some (A,c),none)=.tuple ⟨[.slice none 0 0,.int .i64 1]⟩ from by show Value.tuple ⟨[eD _ (dg A []).1.length,.int .i64 (dg A []).2]⟩=_; rw [h]; rfl]
    exact ⟨_,rfl,.refl _⟩
   rw [show bJ.ae (some (A,c),none)=[.flat false na 6 ga] from by rw [bt,bC]; rfl,show bJ.args (some (A,c),none)=[.slice (some ⟨0,0,none⟩) na c,.slice none 0 0] from by rw [bt]; rfl,← hK]
   rw [← bt] at qn;conv=>whnf
   refine ⟨some (A,c),[0],by rw [show aX.args (some (A,c))=[.slice (some ⟨0,0,none⟩) na c] from by rw [bt]; rfl]; rfl,⟨by show A.length≤_; omega,o8⟩,?_⟩
   rw [show aX.ae (some (A,c))=[.flat false na 6 ga] from by rw [bt,bC]; rfl,show aX.val (some (A,c))=.int .i64 (bz A) from rfl,show aX.new (some (A,c))=none from rfl]
   conv=>whnf
   refine ⟨ar.aE (fun h=>h) (fun r hr=>by rw [bC]; rfl),?_⟩
   conv=>whnf
   refine ⟨_,rfl,?_⟩;obtain ⟨e,he⟩:∃ z,z=bz A:=⟨_,rfl⟩;rw [← he];conv=>whnf
   by_cases h1:e=0
   ·rw [show (e != 0)=false from by simp [h1]]
    conv=>whnf
    refine ⟨none,[],rfl,⟨Nat.zero_le _,fun v hv=>nomatch hv⟩,?_⟩
    rw [show aX.ae none=[] from rfl,show aX.val none=.int .i64 4 from rfl,show aX.new none=none from rfl]
    conv=>whnf
    refine ⟨_,rfl,?_⟩;conv=>whnf
    exact fin _
   ·rw [show (e != 0)=true from by simp [h1]]
    conv=>whnf
    exact fin _
  | some k =>
   obtain ⟨B,d⟩:=k;have uR:B.length≤1099511627776:=uR;have lH:∀ v∈B,PV.sz 2048 v:=lH;have bf:xG A B:=bf;obtain ⟨nb,bX⟩:∃ n,n=B.length:=⟨_,rfl⟩;obtain ⟨gb,cU⟩:∃ g,g=di B:=⟨_,rfl⟩;obtain ⟨K,hK⟩:∃ K,K=iT bJ (some (A,c),some (B,d)):=⟨_,rfl⟩;have sO:∀ (e:Int) (H:aA),dg A B=([],e)→K (.tuple ⟨[.slice none 0 0,.int .i64 e]⟩) H:=fun e H h=>by
    rw [hK];unfold iT;rw [show bJ.new (some (A,c),some (B,d))=none from by show cg (dg A B).1=none; rw [h]; rfl,show bJ.val (some (A,c),some (B,d))=.tuple ⟨[.slice none 0 0,.int .i64 e]⟩ from by show Value.tuple ⟨[eD _ (dg A B).1.length,.int .i64 (dg A B).2]⟩=_; rw [h]; rfl]
    exact ⟨_,rfl,.refl _⟩
   rw [show bJ.ae (some (A,c),some (B,d))=[.flat false na 6 ga,.flat false nb 6 gb] from by rw [bt,bC,bX,cU]; rfl,show bJ.args (some (A,c),some (B,d))=[.slice (some ⟨0,0,none⟩) na c,.slice (some ⟨1,0,none⟩) nb d] from by rw [bt,bX]; rfl,← hK]
   rw [← bt] at qn;rw [← bX] at uR;conv=>whnf
   refine ⟨some (A,c),[0],by rw [show aX.args (some (A,c))=[.slice (some ⟨0,0,none⟩) na c] from by rw [bt]; rfl]; rfl,⟨by show A.length≤_; omega,o8⟩,?_⟩
   rw [show aX.ae (some (A,c))=[.flat false na 6 ga] from by rw [bt,bC]; rfl,show aX.val (some (A,c))=.int .i64 (bz A) from rfl,show aX.new (some (A,c))=none from rfl]
   conv=>whnf
   refine ⟨ar.aE (fun h=>h) (fun r hr=>by rw [bC]; rfl),?_⟩
   conv=>whnf
   refine ⟨_,rfl,?_⟩;obtain ⟨e,he⟩:∃ z,z=bz A:=⟨_,rfl⟩;rw [← he];conv=>whnf
   by_cases h1:e=0
   ·rw [show (e != 0)=false from by simp [h1]]
    conv=>whnf
    refine ⟨some (B,d),[1],by rw [show aX.args (some (B,d))=[.slice (some ⟨0,0,none⟩) nb d] from by rw [bX]; rfl]; rfl,⟨by show B.length≤_; omega,lH⟩,?_⟩
    rw [show aX.ae (some (B,d))=[.flat false nb 6 gb] from by rw [bX,cU]; rfl,show aX.val (some (B,d))=.int .i64 (bz B) from rfl,show aX.new (some (B,d))=none from rfl]
    conv=>whnf
    refine ⟨ar.aE (fun h=>h) (fun r hr=>by rw [cU]; rfl),?_⟩
    conv=>whnf
    refine ⟨_,rfl,?_⟩;obtain ⟨e2,cj⟩:∃ z,z=bz B:=⟨_,rfl⟩;rw [← cj];conv=>whnf
    by_cases J:e2=0
    ·rw [show (e2 != 0)=false from by simp [J]]
     have AD:bz A=0:=by rw [← he]; exact h1
     have DZ:bz B=0:=by rw [← cj]; exact J
     have bf:=bf AD DZ;have hzA:=oD AD;have hzB:=oD DZ;have JI:ga=bP (aV A):=by rw [F5 AD,bC]
     have hnA:na=(aV A).length:=by rw [cY,bt]
     conv=>whnf
     intro yl nu fn tm df;conv=>whnf
     refine .inl ⟨fun mm tz hz=>∃ (j:Nat) (p:Nat) (F:Nat→List Value),bB (some (.func (.yield yl) #[] #[])::some (.pointer (some ⟨3,0,none⟩))::aG 3 (some (.slice (some ⟨1,0,none⟩) nb d)::some (.int .i64 nb)::some (.int .i64 j)::aG 17 [])) tz∧hz=[some (.flat false na 6 ga),some (.flat false nb 6 gb),some (.aS true 1 [[ad4 (.slice (some ⟨0,0,none⟩) na c) p j]]),some (.aS true 1 [[.slice (some ⟨1,0,none⟩) nb d]]),some (.cc (qE Tryz.f16 fn tm df))]++ad5 F p j∧nb - j=mm∧((j≤nb∧(0 < j→p=(jg (aV A) (aV B) j).length))∧(0 < j→∀ r,r < p→F r=bP (jg (aV A) (aV B) j) r)),.inr ⟨[0,1,2,3,4],[0,1,5,6,7],?_⟩,?_⟩
     ·conv=>whnf
      intro _;conv=>whnf
      refine ⟨_,0,0,fun _=>[],(.aa (.aa (.sk 3 (.aa (.aa (.aa (.sk 17 .nil rfl)))) rfl))),rfl,rfl,?_⟩
      exact ⟨⟨Nat.zero_le _,fun h=>absurd h (Nat.lt_irrefl 0)⟩,fun h=>absurd h (Nat.lt_irrefl 0)⟩
     rintro mm aW _ ⟨j,p,F,aC,rfl,rfl,⟨⟨hj,vw⟩,hF⟩⟩
     obtain ⟨az,rfl⟩:∃ az:Nat→Value,aW=.func (.yield yl) #[] #[]::.pointer (some ⟨3,0,none⟩)::zs az 2 3 (.slice (some ⟨1,0,none⟩) nb d::.int .i64 nb::.int .i64 j::zs az 8 17 []):=bI aC;clear aC;cases j with
     | zero =>
      conv=>whnf
      refine aN (fun h3=>?_) (fun h3=>?_)
      ·have h3:0 < nb:=by
        have:=of_decide_eq_true h3;omega
       have e7:IntKind.i64.wrap (((0:Nat):Int)+1)=((0+1:Nat):Int):=by rw [ay (by omega) (by omega)]; rfl
       obtain ⟨a,b,ra,rb,⟨ma,mb⟩,gX,cE,_,_⟩:=tO bX h3;have sa:=lH a ma;have sb:=lH b mb;have cT:=ld h3 (by omega)
       obtain ⟨u,hu⟩:∃ u,u=aY nb (0):=⟨_,rfl⟩;rw [← hu] at cT cE rb;rw [← cU] at ra rb;obtain ⟨vJ,vK⟩:=bf (0) (by rw [cY]; omega)
       have hf:=F6 (a:=a.p) (b:=b.p) vJ vK (PV.dy sa (by decide)) (PV.dy sb (by decide))
       obtain ⟨C,hC⟩:∃ C,C=dc (dP a.p b.p) (jg (aV A) (aV B) (0)):=⟨_,rfl⟩;obtain ⟨R,hR⟩:∃ R,R=fH C:=⟨_,rfl⟩;have nO:=E2 gX hC hR;obtain ⟨m,hm⟩:∃ m,m=C.length:=⟨_,rfl⟩;obtain ⟨q,hq⟩:∃ m,m=R.length:=⟨_,rfl⟩;conv=>whnf
       refine ⟨⟨by omega,by omega⟩,?_⟩
       simp only [toNat_cast,aB,Nat.zero_add];conv=>whnf
       refine ⟨by show 0 < nb; omega,?_⟩
       conv=>whnf
       rw [ra];conv=>whnf
       refine .inl ⟨10,[[],[],[],[],[3],[],[5],[3,4,5,6],[2,3,4,5,6,7],[2,3,4,5,6,7,8],[0,1,2,3,4,5,6,7,8,9],[0,1,2,3,4,5,6,7,8,9,10]],by kernel_rfl,?_⟩
       conv=>whnf
       rw [show decide ((nb:Int)≠0)=true from decide_eq_true (by omega)]
       conv=>whnf
       rw [cT];refine ⟨⟨by omega,by omega⟩,?_⟩
       simp only [toNat_cast,aB,Nat.zero_add];conv=>whnf
       refine ⟨by show u < nb; omega,?_⟩
       conv=>whnf
       rw [rb];conv=>whnf
       refine ⟨rfl,?_⟩;conv=>whnf
       refine ⟨rfl,?_⟩;conv=>whnf
       refine ⟨rfl,?_⟩;conv=>whnf
       refine ⟨(some (aV A,c),(a,b)),[0,18,19,20],rfl,⟨vJ,vK,sa,sb⟩,?_⟩;rw [show iw.ae (some (aV A,c),(a,b))=[.flat false na 6 ga,.aS false 1 [[.slice (some ⟨0,0,none⟩) na c]],.aS false 6 [a.cells],.aS false 6 [b.cells]] from by rw [hnA,JI]; rfl,show iw.val (some (aV A,c),(a,b))=eD 4 m from by rw [hm,hC]; rfl]
       rw [show iw.new (some (aV A,c),(a,b))=cg C from by rw [hC]; rfl]
       cases m with
       | zero =>
        obtain rfl:C=[]:=List.eq_nil_of_length_eq_zero hm.symm;conv=>whnf
        refine ⟨.inl (ar.aE (fun h=>h) (fun r hr=>by rw [JI]; rfl)),?_⟩
        conv=>whnf
        refine ⟨.inr ⟨_,_,_,_,rfl,rfl,rfl⟩,?_⟩;conv=>whnf
        refine ⟨.inr ⟨_,_,_,_,rfl,rfl,rfl⟩,?_⟩;conv=>whnf
        refine ⟨.inr ⟨_,_,_,_,rfl,rfl,rfl⟩,?_⟩;conv=>whnf
        refine ⟨_,rfl,?_⟩;conv=>whnf
        refine ⟨none,[],rfl,⟨Nat.zero_le _,fun v hv=>nomatch hv⟩,?_⟩
        rw [show fk.ae none=[] from rfl,show fk.val none=.slice none 0 0 from rfl,show fk.new none=none from rfl]
        conv=>whnf
        refine ⟨_,rfl,?_⟩;conv=>whnf
        rw [show fH []=[] from rfl] at hR
        subst hR;refine ⟨rfl,?_⟩;conv=>whnf
        rw [e7];refine .inr ⟨[0,1,2,3,4],[0,1,5,6,7],?_⟩;conv=>whnf
        intro _;conv=>whnf
        refine ⟨_,?_,0+1,0,fun _=>[],(.aa (.aa (.sk 3 (.aa (.aa (.aa (.sk 17 .nil rfl)))) rfl))),rfl,rfl,?_⟩
        ·omega
        ·exact ⟨⟨by omega,fun _=>congrArg List.length nO⟩,fun _ r hr=>absurd hr (Nat.not_lt_zero r)⟩
       | succ m =>
        rw [show cg C=some (.flat true (m+1) 6 (bP C)) from by unfold cg; rw [← hm]]
        conv=>whnf
        refine ⟨.inl (ar.aE (fun h=>h) (fun r hr=>by rw [JI]; rfl)),?_⟩
        conv=>whnf
        refine ⟨.inr ⟨_,_,_,_,rfl,rfl,rfl⟩,?_⟩;conv=>whnf
        refine ⟨.inr ⟨_,_,_,_,rfl,rfl,rfl⟩,?_⟩;conv=>whnf
        refine ⟨.inr ⟨_,_,_,_,rfl,rfl,rfl⟩,?_⟩;conv=>whnf
        refine ⟨_,rfl,?_⟩;conv=>whnf
        refine ⟨some (C,aO),[21],by rw [show fk.args (some (C,aO))=[.slice (some ⟨0,0,none⟩) (m+1) aO] from by rw [hm]; rfl]; rfl,⟨by rw [hC]; exact hf.1,fun v hv=>hf.2 v (by rw [← hC]; exact hv)⟩,?_⟩
        obtain ⟨G,hG⟩:∃ G,G=bP C:=⟨_,rfl⟩;rw [← hG,show fk.ae (some (C,aO))=[.flat false (m+1) 6 G] from by rw [hm,hG]; rfl,show fk.val (some (C,aO))=eD 1 q from by rw [hq,hR]; rfl,show fk.new (some (C,aO))=cg R from by rw [hR]; rfl]
        cases q with
        | zero =>
         obtain rfl:R=[]:=List.eq_nil_of_length_eq_zero hq.symm;conv=>whnf
         refine ⟨ar.aE (fun h=>by cases h) (fun r hr=>by rw [hG]; rfl),?_⟩
         conv=>whnf
         refine ⟨_,rfl,?_⟩;conv=>whnf
         refine ⟨rfl,?_⟩;conv=>whnf
         rw [e7];refine .inr ⟨[0,1,2,3,4],[0,1,5,6,7],?_⟩;conv=>whnf
         intro _;conv=>whnf
         refine ⟨_,?_,0+1,0,fun _=>[],(.aa (.aa (.sk 3 (.aa (.aa (.aa (.sk 17 .nil rfl)))) rfl))),rfl,rfl,?_⟩
         ·omega
         ·exact ⟨⟨by omega,fun _=>congrArg List.length nO⟩,fun _ r hr=>absurd hr (Nat.not_lt_zero r)⟩
        | succ q =>
         obtain ⟨E,hE⟩:∃ G,G=bP R:=⟨_,rfl⟩;rw [show cg R=some (.flat true (q+1) 6 E) from by unfold cg; rw [← hq,hE]]
         conv=>whnf
         refine ⟨ar.aE (fun h=>by cases h) (fun r hr=>by rw [hG]; rfl),?_⟩
         conv=>whnf
         refine ⟨_,rfl,?_⟩;conv=>whnf
         refine ⟨rfl,?_⟩;conv=>whnf
         rw [e7];refine .inr ⟨[0,1,2,3,4,22],[0,1,5,6,7],?_⟩;conv=>whnf
         intro _;conv=>whnf
         refine ⟨_,?_,0+1,q+1,E,(.aa (.aa (.sk 3 (.aa (.aa (.aa (.sk 17 .nil rfl)))) rfl))),rfl,rfl,?_⟩
         ·omega
         ·exact ⟨⟨by omega,fun _=>hq.trans (congrArg List.length nO)⟩,fun _ r hr=>by rw [hE,nO]⟩
      ·have:=of_decide_eq_false h3;omega
     | succ j =>
      have nr:=vw (Nat.succ_pos j);have D0:=hF (Nat.succ_pos j);obtain ⟨S,hS⟩:∃ S,S=jg (aV A) (aV B) (j+1):=⟨_,rfl⟩;rw [← hS] at nr D0;cases p with
      | zero =>
       obtain rfl:S=[]:=List.eq_nil_of_length_eq_zero nr.symm;conv=>whnf
       refine aN (fun h3=>?_) (fun h3=>?_)
       ·have h3:(j+1) < nb:=by
         have:=of_decide_eq_true h3;omega
        have e7:IntKind.i64.wrap ((((j+1):Nat):Int)+1)=(((j+1)+1:Nat):Int):=by rw [ay (by omega) (by omega)]; rfl
        obtain ⟨a,b,ra,rb,⟨ma,mb⟩,gX,cE,_,_⟩:=tO bX h3;have sa:=lH a ma;have sb:=lH b mb;have cT:=ld h3 (by omega)
        obtain ⟨u,hu⟩:∃ u,u=aY nb ((j+1)):=⟨_,rfl⟩;rw [← hu] at cT cE rb;rw [← cU] at ra rb;obtain ⟨vJ,vK⟩:=bf ((j+1)) (by rw [cY]; omega)
        have hf:=F6 (a:=a.p) (b:=b.p) vJ vK (PV.dy sa (by decide)) (PV.dy sb (by decide))
        obtain ⟨C,hC⟩:∃ C,C=dc (dP a.p b.p) (jg (aV A) (aV B) ((j+1))):=⟨_,rfl⟩;obtain ⟨R,hR⟩:∃ R,R=fH C:=⟨_,rfl⟩;have nO:=E2 gX hC hR;obtain ⟨m,hm⟩:∃ m,m=C.length:=⟨_,rfl⟩;obtain ⟨q,hq⟩:∃ m,m=R.length:=⟨_,rfl⟩;conv=>whnf
        refine ⟨⟨by omega,by omega⟩,?_⟩
        simp only [toNat_cast,aB,Nat.zero_add];conv=>whnf
        refine ⟨by show (j+1) < nb; omega,?_⟩
        conv=>whnf
        rw [ra];conv=>whnf
        refine .inl ⟨10,[[],[],[],[],[3],[],[5],[3,4,5,6],[2,3,4,5,6,7],[2,3,4,5,6,7,8],[0,1,2,3,4,5,6,7,8,9],[0,1,2,3,4,5,6,7,8,9,10]],by kernel_rfl,?_⟩
        conv=>whnf
        rw [show decide ((nb:Int)≠0)=true from decide_eq_true (by omega)]
        conv=>whnf
        rw [cT];refine ⟨⟨by omega,by omega⟩,?_⟩
        simp only [toNat_cast,aB,Nat.zero_add];conv=>whnf
        refine ⟨by show u < nb; omega,?_⟩
        conv=>whnf
        rw [rb];conv=>whnf
        refine ⟨rfl,?_⟩;conv=>whnf
        refine ⟨rfl,?_⟩;conv=>whnf
        refine ⟨rfl,?_⟩;conv=>whnf
        refine ⟨(none,(a,b)),[18,19,20],rfl,⟨Nat.zero_le _,(fun v hv=>nomatch hv),sa,sb⟩,?_⟩
        rw [show iw.ae (none,(a,b))=[.aS false 1 [[.slice none 0 0]],.aS false 6 [a.cells],.aS false 6 [b.cells]] from rfl,show iw.val (none,(a,b))=.slice none 0 0 from rfl,show iw.new (none,(a,b))=none from rfl]
        conv=>whnf
        refine ⟨.inr ⟨_,_,_,_,rfl,rfl,rfl⟩,?_⟩;conv=>whnf
        refine ⟨.inr ⟨_,_,_,_,rfl,rfl,rfl⟩,?_⟩;conv=>whnf
        refine ⟨.inr ⟨_,_,_,_,rfl,rfl,rfl⟩,?_⟩;conv=>whnf
        refine ⟨_,rfl,?_⟩;conv=>whnf
        refine ⟨none,[],rfl,⟨Nat.zero_le _,fun v hv=>nomatch hv⟩,?_⟩
        rw [show fk.ae none=[] from rfl,show fk.val none=.slice none 0 0 from rfl,show fk.new none=none from rfl]
        conv=>whnf
        refine ⟨_,rfl,?_⟩;conv=>whnf
        obtain rfl:C=[]:=by rw [hC,← hS]; rfl
        rw [show fH []=[] from rfl] at hR
        subst hR;refine ⟨rfl,?_⟩;conv=>whnf
        rw [e7];refine .inr ⟨[0,1,2,3,4],[0,1,5,6,7],?_⟩;conv=>whnf
        intro _;conv=>whnf
        refine ⟨_,?_,(j+1)+1,0,fun _=>[],(.aa (.aa (.sk 3 (.aa (.aa (.aa (.sk 17 .nil rfl)))) rfl))),rfl,rfl,?_⟩
        ·omega
        ·exact ⟨⟨by omega,fun _=>congrArg List.length nO⟩,fun _ r hr=>absurd hr (Nat.not_lt_zero r)⟩
       ·have h3:j+1=nb:=by
         have:=of_decide_eq_false h3;omega
        conv=>whnf
        exact sO 11 _ ((Ox ⟨AD,DZ⟩ (R:=[]) (by rw [← bX,← h3]; exact hS)).trans (Xi rfl))
      | succ p =>
       conv=>whnf
       refine aN (fun h3=>?_) (fun h3=>?_)
       ·have h3:(j+1) < nb:=by
         have:=of_decide_eq_true h3;omega
        have e7:IntKind.i64.wrap ((((j+1):Nat):Int)+1)=(((j+1)+1:Nat):Int):=by rw [ay (by omega) (by omega)]; rfl
        obtain ⟨a,b,ra,rb,⟨ma,mb⟩,gX,cE,_,_⟩:=tO bX h3;have sa:=lH a ma;have sb:=lH b mb;have cT:=ld h3 (by omega)
        obtain ⟨u,hu⟩:∃ u,u=aY nb ((j+1)):=⟨_,rfl⟩;rw [← hu] at cT cE rb;rw [← cU] at ra rb;obtain ⟨vJ,vK⟩:=bf ((j+1)) (by rw [cY]; omega)
        have hf:=F6 (a:=a.p) (b:=b.p) vJ vK (PV.dy sa (by decide)) (PV.dy sb (by decide))
        obtain ⟨C,hC⟩:∃ C,C=dc (dP a.p b.p) (jg (aV A) (aV B) ((j+1))):=⟨_,rfl⟩;obtain ⟨R,hR⟩:∃ R,R=fH C:=⟨_,rfl⟩;have nO:=E2 gX hC hR;obtain ⟨m,hm⟩:∃ m,m=C.length:=⟨_,rfl⟩;obtain ⟨q,hq⟩:∃ m,m=R.length:=⟨_,rfl⟩;conv=>whnf
        refine ⟨⟨by omega,by omega⟩,?_⟩
        simp only [toNat_cast,aB,Nat.zero_add];conv=>whnf
        refine ⟨by show (j+1) < nb; omega,?_⟩
        conv=>whnf
        rw [ra];conv=>whnf
        refine .inl ⟨10,[[],[],[],[],[3],[],[5],[3,4,5,6],[2,3,4,5,6,7],[2,3,4,5,6,7,8],[0,1,2,3,4,5,6,7,8,9],[0,1,2,3,4,5,6,7,8,9,10]],by kernel_rfl,?_⟩
        conv=>whnf
        rw [show decide ((nb:Int)≠0)=true from decide_eq_true (by omega)]
        conv=>whnf
        rw [cT];refine ⟨⟨by omega,by omega⟩,?_⟩
        simp only [toNat_cast,aB,Nat.zero_add];conv=>whnf
        refine ⟨by show u < nb; omega,?_⟩
        conv=>whnf
        rw [rb];conv=>whnf
        refine ⟨rfl,?_⟩;conv=>whnf
        refine ⟨rfl,?_⟩;conv=>whnf
        refine ⟨rfl,?_⟩;conv=>whnf
        refine ⟨(some (S,aO),(a,b)),[5,19,20,21],by rw [show iw.args (some (S,aO),(a,b))=[.func (.func 114) #[] #[.pointer (some ⟨1,0,none⟩),.pointer (some ⟨2,0,none⟩),.pointer (some ⟨3,0,none⟩)]] from rfl]; rfl,⟨by rw [hS]; exact vJ,by rw [hS]; exact vK,sa,sb⟩,?_⟩
        rw [show iw.ae (some (S,aO),(a,b))=[.flat false (p+1) 6 (bP S),.aS false 1 [[.slice (some ⟨0,0,none⟩) (p+1) aO]],.aS false 6 [a.cells],.aS false 6 [b.cells]] from by rw [nr]; rfl,show iw.val (some (S,aO),(a,b))=eD 4 m from by rw [hm,hC,← hS]; rfl]
        rw [show iw.new (some (S,aO),(a,b))=cg C from by rw [hC,← hS]; rfl]
        cases m with
        | zero =>
         obtain rfl:C=[]:=List.eq_nil_of_length_eq_zero hm.symm;conv=>whnf
         refine ⟨.inl (ar.rH (fun h=>by cases h) D0 (fun r hr=>rfl)),?_⟩
         conv=>whnf
         refine ⟨.inr ⟨_,_,_,_,rfl,rfl,rfl⟩,?_⟩;conv=>whnf
         refine ⟨.inr ⟨_,_,_,_,rfl,rfl,rfl⟩,?_⟩;conv=>whnf
         refine ⟨.inr ⟨_,_,_,_,rfl,rfl,rfl⟩,?_⟩;conv=>whnf
         refine ⟨_,rfl,?_⟩;conv=>whnf
         refine ⟨none,[],rfl,⟨Nat.zero_le _,fun v hv=>nomatch hv⟩,?_⟩
         rw [show fk.ae none=[] from rfl,show fk.val none=.slice none 0 0 from rfl,show fk.new none=none from rfl]
         conv=>whnf
         refine ⟨_,rfl,?_⟩;conv=>whnf
         rw [show fH []=[] from rfl] at hR
         subst hR;refine ⟨rfl,?_⟩;conv=>whnf
         rw [e7];refine .inr ⟨[0,1,2,3,4],[0,1,5,6,7],?_⟩;conv=>whnf
         intro _;conv=>whnf
         refine ⟨_,?_,(j+1)+1,0,fun _=>[],(.aa (.aa (.sk 3 (.aa (.aa (.aa (.sk 17 .nil rfl)))) rfl))),rfl,rfl,?_⟩
         ·omega
         ·exact ⟨⟨by omega,fun _=>congrArg List.length nO⟩,fun _ r hr=>absurd hr (Nat.not_lt_zero r)⟩
        | succ m =>
         rw [show cg C=some (.flat true (m+1) 6 (bP C)) from by unfold cg; rw [← hm]]
         conv=>whnf
         refine ⟨.inl (ar.rH (fun h=>by cases h) D0 (fun r hr=>rfl)),?_⟩
         conv=>whnf
         refine ⟨.inr ⟨_,_,_,_,rfl,rfl,rfl⟩,?_⟩;conv=>whnf
         refine ⟨.inr ⟨_,_,_,_,rfl,rfl,rfl⟩,?_⟩;conv=>whnf
         refine ⟨.inr ⟨_,_,_,_,rfl,rfl,rfl⟩,?_⟩;conv=>whnf
         refine ⟨_,rfl,?_⟩;conv=>whnf
         refine ⟨some (C,aO),[22],by rw [show fk.args (some (C,aO))=[.slice (some ⟨0,0,none⟩) (m+1) aO] from by rw [hm]; rfl]; rfl,⟨by rw [hC]; exact hf.1,fun v hv=>hf.2 v (by rw [← hC]; exact hv)⟩,?_⟩
         obtain ⟨G,hG⟩:∃ G,G=bP C:=⟨_,rfl⟩;rw [← hG,show fk.ae (some (C,aO))=[.flat false (m+1) 6 G] from by rw [hm,hG]; rfl,show fk.val (some (C,aO))=eD 1 q from by rw [hq,hR]; rfl,show fk.new (some (C,aO))=cg R from by rw [hR]; rfl]
         cases q with
         | zero =>
          obtain rfl:R=[]:=List.eq_nil_of_length_eq_zero hq.symm;conv=>whnf
          refine ⟨ar.aE (fun h=>by cases h) (fun r hr=>by rw [hG]; rfl),?_⟩
          conv=>whnf
          refine ⟨_,rfl,?_⟩;conv=>whnf
          refine ⟨rfl,?_⟩;conv=>whnf
          rw [e7];refine .inr ⟨[0,1,2,3,4],[0,1,5,6,7],?_⟩;conv=>whnf
          intro _;conv=>whnf
          refine ⟨_,?_,(j+1)+1,0,fun _=>[],(.aa (.aa (.sk 3 (.aa (.aa (.aa (.sk 17 .nil rfl)))) rfl))),rfl,rfl,?_⟩
          ·omega
          ·exact ⟨⟨by omega,fun _=>congrArg List.length nO⟩,fun _ r hr=>absurd hr (Nat.not_lt_zero r)⟩
         | succ q =>
          obtain ⟨E,hE⟩:∃ G,G=bP R:=⟨_,rfl⟩;rw [show cg R=some (.flat true (q+1) 6 E) from by unfold cg; rw [← hq,hE]]
          conv=>whnf
          refine ⟨ar.aE (fun h=>by cases h) (fun r hr=>by rw [hG]; rfl),?_⟩
          conv=>whnf
          refine ⟨_,rfl,?_⟩;conv=>whnf
          refine ⟨rfl,?_⟩;conv=>whnf
          rw [e7];refine .inr ⟨[0,1,2,3,4,23],[0,1,5,6,7],?_⟩;conv=>whnf
          intro _;conv=>whnf
          refine ⟨_,?_,(j+1)+1,q+1,E,(.aa (.aa (.sk 3 (.aa (.aa (.aa (.sk 17 .nil rfl)))) rfl))),rfl,rfl,?_⟩
          ·omega
          ·exact ⟨⟨by omega,fun _=>hq.trans (congrArg List.length nO)⟩,fun _ r hr=>by rw [hE,nO]⟩
       ·have h3:j+1=nb:=by
         have:=of_decide_eq_false h3;omega
        have hv:=Ox ⟨AD,DZ⟩ (R:=S) (by rw [← bX,← h3]; exact hS)
        conv=>whnf
        by_cases h6:64 < p+1
        ·rw [show decide (((p+1:Nat):Int) > 64)=true from decide_eq_true (by omega)]
         conv=>whnf
         exact sO 4 _ (hv.trans (Xj (by omega)))
        ·rw [show decide (((p+1:Nat):Int) > 64)=false from decide_eq_false (by omega)]
         conv=>whnf
         rw [hK];unfold iT;rw [G4 (by omega) (by omega)] at hv
         rw [show bJ.new (some (A,c),some (B,d))=some (.flat true (p+1) 6 (bP S)) from by show cg (dg A B).1=_; rw [hv]; unfold cg; rw [← nr],show bJ.val (some (A,c),some (B,d))=.tuple ⟨[.slice (some ⟨2,0,none⟩) (p+1) aO,.int .i64 0]⟩ from by show Value.tuple ⟨[eD _ (dg A B).1.length,.int .i64 (dg A B).2]⟩=_; rw [hv,← nr]; rfl]
         refine ⟨5,?_⟩;conv=>whnf
         exact ⟨⟨rfl,ar.rH (fun h=>h) D0 (fun r hr=>rfl)⟩,_,rfl,.refl _⟩
    ·rw [show (e2 != 0)=true from by simp [J]]
     conv=>whnf
     exact sO 1 _ (HA fun h=>J (by rw [cj]; exact h.2))
   ·rw [show (e != 0)=true from by simp [h1]]
    conv=>whnf
    exact sO 1 _ (HA fun h=>h1 (by rw [he]; exact h.1))
open Go Go.Ae
theorem Zo:bh Tryz.prog 101 (qK true):=by
 refine bk qm aP Tryz.func101 (enters_of Tryz.func101 (by kernel_rfl) rfl) (fun _=>rfl) (fun _=>rfl) ?_
 intro (z:Int) hp;conv=>whnf
 rfl
theorem Zp:bh Tryz.prog 103 (qK false):=by
 refine bk qm aP Tryz.func103 (enters_of Tryz.func103 (by kernel_rfl) rfl) (fun _=>rfl) (fun _=>rfl) ?_
 intro (z:Int) hp;conv=>whnf
 rfl
theorem Zq:bh Tryz.prog 105 (qK true):=by
 refine bk qm aP Tryz.func105 (enters_of Tryz.func105 (by kernel_rfl) rfl) (fun _=>rfl) (fun _=>rfl) ?_
 intro (z:Int) hp;conv=>whnf
 rfl
def JJ:Env:=En [(32,.p lW),(101,.p (qK true)),(103,.p (qK false)),(105,.p (qK true))]
theorem ac1:EnvOk Tryz.prog JJ:=bH ⟨FA,Zo,Zp,Zq,trivial⟩ trivial
theorem TQ:gf Tryz.prog 168 (cl JJ cK Tryz.f168):=by
 exact ji ac1 aP Tryz.func168 (enters_of Tryz.func168 (by kernel_rfl) rfl)
def JK:Env:=En [] [(168,cl JJ cK Tryz.f168)]
theorem ac2:EnvOk Tryz.prog JK:=bH trivial ⟨TQ,trivial⟩
theorem UY:gf Tryz.prog 106 (cl JK cK Tryz.f106):=by
 exact ji ac2 aP Tryz.func106 (enters_of Tryz.func106 (by kernel_rfl) rfl)
def JL:Env:=En [] [(106,cl JK cK Tryz.f106)]
theorem ac3:EnvOk Tryz.prog JL:=bH trivial ⟨UY,trivial⟩
theorem RW:gf Tryz.prog 49 (cl JL cK Tryz.f49):=by
 exact ji ac3 aP Tryz.func49 (enters_of Tryz.func49 (by kernel_rfl) rfl)
def Rh:Env:=En [] [(49,cl JL cK Tryz.f49),(64,cl mI cK Tryz.f64)] [(118,ug)]
theorem ac4:EnvOk Tryz.prog Rh:=bH trivial ⟨RW,wG,trivial⟩
theorem abF:gG Tryz.prog Rh:=vy ⟨wm,trivial⟩
abbrev jS:cG:=xH 101 103 105 ie
abbrev nz:cG:=xH 101 103 105 kc
theorem UZ:dk Tryz.prog 144 jS:=by
 refine eI ac4 aP Tryz.func144 (enters_of Tryz.func144 (by kernel_rfl) rfl) ?_ ?_ ?_ (hI:=abF)
 ·intro i b hb; simp [jS,xH] at hb; rcases hb with rfl | rfl <;> rfl
 ·intro i b hb; simp [jS,xH] at hb
 intro ⟨⟨⟨A,c⟩,⟨B,d⟩⟩,f,s⟩ hp;have hp:((f,s)=(101,true)∨(f,s)=(103,false)∨(f,s)=(105,true))∧(A.length≤1073741824∧∀ v∈A,Q2.sz 2048 v)∧B.length≤1073741824∧∀ v∈B,Q2.sz 2048 v:=hp;obtain ⟨vv,⟨hla,AE⟩,hlb,D1⟩:=hp;obtain ⟨n,hn⟩:∃ n,n=A.length:=⟨_,rfl⟩;obtain ⟨g,hg⟩:∃ g,g=bP A:=⟨_,rfl⟩;obtain ⟨m,hm⟩:∃ n,n=B.length:=⟨_,rfl⟩;obtain ⟨g2,s9⟩:∃ g,g=bP B:=⟨_,rfl⟩;obtain ⟨K,hK⟩:∃ K,K=iT jS (((A,c),(B,d)),(f,s)):=⟨_,rfl⟩;have fin:∀ (x:XV) (z:Bool) (H:aA),gC (ie s A B)=(x,z)→K (.tuple ⟨[x.v,.bool z]⟩) H:=fun x z H h=>by
  rw [hK];unfold iT;rw [show jS.new (((A,c),(B,d)),(f,s))=none from rfl,show jS.val (((A,c),(B,d)),(f,s))=.tuple ⟨[x.v,.bool z]⟩ from by show Value.tuple ⟨[(gC (ie s A B)).1.v,.bool (gC (ie s A B)).2]⟩=_; rw [h]]
  exact ⟨_,rfl,.refl _⟩
 rw [show jS.ae (((A,c),(B,d)),(f,s))=[.flat false n 6 g,.flat false m 6 g2] from by rw [hn,hg,hm,s9]; rfl,show jS.args (((A,c),(B,d)),(f,s))=[.slice (some ⟨0,0,none⟩) n c,.slice (some ⟨1,0,none⟩) m d,.func (.func f) #[] #[]] from by rw [hn,hm]; rfl,← hK]
 rw [← hn] at hla;rw [← hm] at hlb;conv=>whnf
 intro yl nu fn tm df;conv=>whnf
 refine .inl ⟨fun mm tz hz=>∃ (j:Nat),bB (some (.func (.yield yl) #[] #[])::some (.pointer (some ⟨6,0,none⟩))::aG 3 (some (.slice (some ⟨0,0,none⟩) n c)::some (.int .i64 n)::some (.int .i64 j)::aG 17 [])) tz∧hz=[some (.flat false n 6 g),some (.flat false m 6 g2),some (.aS true 1 [[.slice (some ⟨1,0,none⟩) m d]]),some (.aS true 1 [[.func (.func f) #[] #[]]]),some (.aS true 12 [mZ.cells]),some (.aS true 1 [[.bool false]]),some (.aS true 1 [[.slice (some ⟨0,0,none⟩) n c]]),some (.cc (qE Tryz.f144 fn tm df))]∧n - j=mm∧(j≤n∧nJ (ng s B) (ba A) j),.inr ⟨[0,1,2,3,4,5,6,7],[0,1,5,6,7],?_⟩,?_⟩
 ·conv=>whnf
  intro _;conv=>whnf
  refine ⟨_,0,(.aa (.aa (.sk 3 (.aa (.aa (.aa (.sk 17 .nil rfl)))) rfl))),rfl,rfl,?_⟩;exact ⟨Nat.zero_le _,Et _ _⟩
 rintro mm aW _ ⟨j,aC,rfl,rfl,⟨hj,hU⟩⟩
 obtain ⟨az,rfl⟩:∃ az:Nat→Value,aW=.func (.yield yl) #[] #[]::.pointer (some ⟨6,0,none⟩)::zs az 2 3 (.slice (some ⟨0,0,none⟩) n c::.int .i64 n::.int .i64 j::zs az 8 17 []):=bI aC;clear aC;conv=>whnf
 refine aN (fun h3=>?_) (fun h3=>?_)
 ·have h3:j < n:=by
   have:=of_decide_eq_true h3;omega
  have e7:IntKind.i64.wrap ((j:Int)+1)=((j+1:Nat):Int):=by rw [ay (by omega) (by omega)]; rfl
  obtain ⟨a,ca,ra,pa,sa,qa⟩:=g9 (L:=A) (k:=j) (by omega) AE
  obtain ⟨b,cb,rb,pb,sb,qb⟩:=g9 (L:=A) (k:=aY n j) (by rw [hn]; exact cO (by omega)) AE
  have cT:=ld h3 (by omega)
  have cE:=cO h3;have gX:(ba A)[j]?=some (a.p,b.p):=by rw [pa,pb]; rw [hn] at cE ⊢; exact pL (g7 (by omega)) (g7 cE)
  rw [← pa] at ca;rw [← pb] at cb;obtain ⟨u,hu⟩:∃ u,u=aY n j:=⟨_,rfl⟩;rw [← hu] at cT cE rb;rw [← hg] at ra rb;conv=>whnf
  refine ⟨⟨by omega,by omega⟩,?_⟩
  simp only [toNat_cast,aB,Nat.zero_add];conv=>whnf
  refine ⟨by show j < n; omega,?_⟩
  conv=>whnf
  rw [ra];conv=>whnf
  refine .inl ⟨10,[[],[],[],[],[3],[],[5],[3,4,5,6],[2,3,4,5,6,7],[2,3,4,5,6,7,8],[0,1,2,3,4,5,6,7,8,9],[0,1,2,3,4,5,6,7,8,9,10]],by kernel_rfl,?_⟩
  conv=>whnf
  rw [show decide ((n:Int)≠0)=true from decide_eq_true (by omega)]
  conv=>whnf
  rw [cT];refine ⟨⟨by omega,by omega⟩,?_⟩
  simp only [toNat_cast,aB,Nat.zero_add];conv=>whnf
  refine ⟨by show u < n; omega,?_⟩
  conv=>whnf
  rw [rb];conv=>whnf
  refine ⟨rfl,?_⟩;conv=>whnf
  refine ⟨rfl,?_⟩;conv=>whnf
  refine ⟨rfl,?_⟩;conv=>whnf
  refine .inl ⟨fun mm tz hz=>∃ (i:Nat),bB (some (.slice (some ⟨1,0,none⟩) m d)::some (.func (.func 168) #[] #[.pointer (some ⟨3,0,none⟩),.pointer (some ⟨19,0,none⟩),.pointer (some ⟨20,0,none⟩)])::aG 5 (some (.int .i64 m)::some (.int .i64 i)::aG 10 [])) tz∧hz=[some (.flat false n 6 g),some (.flat false m 6 g2),some (.aS true 1 [[.slice (some ⟨1,0,none⟩) m d]]),some (.aS true 1 [[.func (.func f) #[] #[]]]),some (.aS true 12 [mZ.cells]),some (.aS true 1 [[.bool false]]),some (.aS true 1 [[.slice (some ⟨0,0,none⟩) n c]]),some (.cc { qE Tryz.f144 fn tm df with state:=.busy }),some (.aS true 6 [a.cells]),none,none,none,none,none,none,none,none,none,none,some (.aS true 6 [a.cells]),some (.aS true 6 [b.cells])]∧m - i=mm∧(i≤m∧nJ (sM s a.p b.p) B i),.inr ⟨[0,1,2,3,4,5,6,7,8,9,10,11,12,13,14,15,16,17,18,19,20],[0,1,7,8],?_⟩,?_⟩
  ·conv=>whnf
   intro _;conv=>whnf
   refine ⟨_,0,(.aa (.aa (.sk 5 (.aa (.aa (.sk 10 .nil rfl))) rfl))),rfl,rfl,?_⟩;exact ⟨Nat.zero_le _,Et _ _⟩
  rintro mm aW _ ⟨i,aC,rfl,rfl,⟨hi,hV⟩⟩
  obtain ⟨az,rfl⟩:∃ az:Nat→Value,aW=.slice (some ⟨1,0,none⟩) m d::.func (.func 168) #[] #[.pointer (some ⟨3,0,none⟩),.pointer (some ⟨19,0,none⟩),.pointer (some ⟨20,0,none⟩)]::zs az 2 5 (.int .i64 m::.int .i64 i::zs az 9 10 []):=bI aC;clear aC;conv=>whnf
  refine aN (fun h4=>?_) (fun h4=>?_)
  ·have h4:i < m:=by
    have:=of_decide_eq_true h4;omega
   have e8:IntKind.i64.wrap ((i:Int)+1)=((i+1:Nat):Int):=by rw [ay (by omega) (by omega)]; rfl
   obtain ⟨x,cx,rx,px,sx,qx⟩:=g9 (L:=B) (k:=i) (by omega) D1
   rw [← s9] at rx;have JM:x.p∈B:=by rw [px]; exact eK (by omega)
   have JN:B[i]?=some x.p:=by rw [px]; exact g7 (by omega)
   conv=>whnf
   refine ⟨⟨by omega,by omega⟩,?_⟩
   simp only [toNat_cast,aB,Nat.zero_add];conv=>whnf
   refine ⟨by show i < m; omega,?_⟩
   conv=>whnf
   rw [rx];conv=>whnf
   refine .inl ⟨5,[[],[],[],[],[1,2,3],[0,1,2,3,4],[0,1,2,3,4,5],[0,1,2,3,4,5,6]],by kernel_rfl,?_⟩
   conv=>whnf
   obtain ⟨z,ez,pz⟩:=eU (a8 (ao a.p b.p x.p) 0);refine ⟨(a,b,x),rfl,⟨PV.aQ sa (by decide),PV.aQ sb (by decide),PV.aQ sx (by decide)⟩,?_⟩
   rw [show lW.val (a,b,x)=.int .i64 z from ez]
   conv=>whnf
   obtain ⟨w,hw⟩:∃ w,w=rf s z:=⟨_,rfl⟩;have gL:sM s a.p b.p x.p=!w:=by unfold sM; rw [← pz,← hw]
   rcases vv with h | h | h
   ·obtain ⟨rfl,rfl⟩:=Prod.mk.inj h;refine ⟨(z:Int),rfl,trivial,?_⟩;rw [show (qK true).val z=.bool w from by rw [hw]; rfl]
    conv=>whnf
    cases w with
    | true =>
     conv=>whnf
     rw [e8];refine .inr ⟨[0,1,2,3,4,5,6,7,8,9,10,11,12,13,14,15,16,17,18,19,20],[0,1,7,8],?_⟩;conv=>whnf
     intro _;conv=>whnf
     refine ⟨_,?_,i+1,(.aa (.aa (.sk 5 (.aa (.aa (.sk 10 .nil rfl))) rfl))),rfl,rfl,?_⟩
     ·omega
     ·exact ⟨by omega,tH hV JN gL⟩
    | false =>
     conv=>whnf
     refine ⟨rfl,?_⟩;conv=>whnf
     rw [e7];refine .inr ⟨[0,1,2,3,4,5,6,7],[0,1,5,6,7],?_⟩;conv=>whnf
     intro _;conv=>whnf
     refine ⟨_,?_,j+1,(.aa (.aa (.sk 3 (.aa (.aa (.aa (.sk 17 .nil rfl)))) rfl))),rfl,rfl,?_⟩
     ·omega
     ·exact ⟨by omega,tH hU gX (GB JM gL)⟩
   ·obtain ⟨rfl,rfl⟩:=Prod.mk.inj h;refine ⟨(z:Int),rfl,trivial,?_⟩;rw [show (qK false).val z=.bool w from by rw [hw]; rfl]
    conv=>whnf
    cases w with
    | true =>
     conv=>whnf
     rw [e8];refine .inr ⟨[0,1,2,3,4,5,6,7,8,9,10,11,12,13,14,15,16,17,18,19,20],[0,1,7,8],?_⟩;conv=>whnf
     intro _;conv=>whnf
     refine ⟨_,?_,i+1,(.aa (.aa (.sk 5 (.aa (.aa (.sk 10 .nil rfl))) rfl))),rfl,rfl,?_⟩
     ·omega
     ·exact ⟨by omega,tH hV JN gL⟩
    | false =>
     conv=>whnf
     refine ⟨rfl,?_⟩;conv=>whnf
     rw [e7];refine .inr ⟨[0,1,2,3,4,5,6,7],[0,1,5,6,7],?_⟩;conv=>whnf
     intro _;conv=>whnf
     refine ⟨_,?_,j+1,(.aa (.aa (.sk 3 (.aa (.aa (.aa (.sk 17 .nil rfl)))) rfl))),rfl,rfl,?_⟩
     ·omega
     ·exact ⟨by omega,tH hU gX (GB JM gL)⟩
   ·obtain ⟨rfl,rfl⟩:=Prod.mk.inj h;refine ⟨(z:Int),rfl,trivial,?_⟩;rw [show (qK true).val z=.bool w from by rw [hw]; rfl]
    conv=>whnf
    cases w with
    | true =>
     conv=>whnf
     rw [e8];refine .inr ⟨[0,1,2,3,4,5,6,7,8,9,10,11,12,13,14,15,16,17,18,19,20],[0,1,7,8],?_⟩;conv=>whnf
     intro _;conv=>whnf
     refine ⟨_,?_,i+1,(.aa (.aa (.sk 5 (.aa (.aa (.sk 10 .nil rfl))) rfl))),rfl,rfl,?_⟩
     ·omega
     ·exact ⟨by omega,tH hV JN gL⟩
    | false =>
     conv=>whnf
     refine ⟨rfl,?_⟩;conv=>whnf
     rw [e7];refine .inr ⟨[0,1,2,3,4,5,6,7],[0,1,5,6,7],?_⟩;conv=>whnf
     intro _;conv=>whnf
     refine ⟨_,?_,j+1,(.aa (.aa (.sk 3 (.aa (.aa (.aa (.sk 17 .nil rfl)))) rfl))),rfl,rfl,?_⟩
     ·omega
     ·exact ⟨by omega,tH hU gX (GB JM gL)⟩
  ·have h4:i=m:=by
    have:=of_decide_eq_false h4;omega
   subst h4;conv=>whnf
   refine ⟨rfl,?_⟩;conv=>whnf
   refine fin (a,b) true _ ?_;rw [V7 hU gX (Xl (EY (by rw [← hm]; exact hV)))]
   show ((cB a.p,cB b.p),true)=((a,b),true)
   rw [← ca,← cb]
 ·have h3:j=n:=by
   have:=of_decide_eq_false h3;omega
  subst h3;conv=>whnf
  exact fin mZ false _ (by rw [V8 hn hU]; rfl)
end Go.Proofs.YtlapbjdhekcipaaGreat
