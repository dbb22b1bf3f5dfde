import Derived.Test.YtlapbjdhekcipaaGreatII
set_option linter.unusedVariables false
set_option linter.unusedSimpArgs false
set_option maxRecDepth 20000
set_option maxHeartbeats 4000000
namespace Go.Proofs.YtlapbjdhekcipaaGreat
open Go Go.Ae
def mu:Env:=En [(85,.p kv)]
theorem CG:EnvOk Tryz.prog mu:=bC ⟨BR,trivial⟩ trivial
def tN:Nat→FT→Nu→FT:=fun l G nu=>b9 { mu with ys:=[(l,G)],nu:=nu } cG Tryz.f118
theorem vY:zc Tryz.prog 118 tN:=by
 exact Og CG aK Tryz.func118 (enters_of Tryz.func118 (by kernel_rfl) rfl)
theorem wj:fJ Tryz.prog 64 (b9 mu cG Tryz.f64):=by
 exact iU CG aK Tryz.func64 (enters_of Tryz.func64 (by kernel_rfl) rfl)
def Qr:Env:=En [(32,.p kj)] [(64,b9 mu cG Tryz.f64)] [(118,tN)]
theorem ab6:EnvOk Tryz.prog Qr:=bC ⟨Be,trivial⟩ ⟨wj,trivial⟩
theorem aaP:gw Tryz.prog Qr:=vj ⟨vY,trivial⟩
theorem YD:c7 Tryz.prog 67 mD:=by
 refine dR ab6 aK Tryz.func67 (enters_of Tryz.func67 (by kernel_rfl) rfl) ?_ ?_ ?_ (hI:=aaP)
 ·intro ⟨i,_⟩ b hb;cases i with
  | none=>simp [mD,PL.aj] at hb
  | some i=>simp [mD,PL.aj] at hb; rw [hb]; rfl
 ·intro i b hb; simp [mD] at hb
 intro ⟨i,p⟩ hp;have hp:(i.list.length≤1099511627776∧∀ v∈i.list,v.sz 2048)∧p.sz 2048:=hp;obtain ⟨⟨hlen,aT⟩,sp⟩:=hp;have qp:=PV.cj sp (by decide)
 cases i with
 | none =>
  conv=>whnf
  intro yl nu fn tm df;conv=>whnf
  refine .inr ⟨1,?_⟩;conv=>whnf
  exact ⟨.int .i64 1,rfl,.refl _⟩
 | some i =>
  obtain ⟨L,c⟩:=i;have hlen:L.length≤1099511627776:=hlen;have aT:∀ v∈L,PV.sz 2048 v:=aT;obtain ⟨n,hn⟩:∃ n,n=L.length:=⟨_,rfl⟩;obtain ⟨g,hg⟩:∃ g,g=c6 L:=⟨_,rfl⟩;have fin:∀ z:Int,z=eK (aU L) p.p→∃ v',cL (List.range 1) 3 (mD.val (some (L,c),p))=some v'∧eT (.int .i64 z) v':=fun z h=>⟨.int .i64 z,by rw [h]; rfl,.refl _⟩
  rw [show mD.aj (some (L,c),p)=[.flat false n 6 g] from by rw [hn,hg]; rfl,show mD.args (some (L,c),p)=[.slice (some ⟨0,0,none⟩) n c,p.v] from by rw [hn]; rfl]
  rw [← hn] at hlen;conv=>whnf
  intro yl nu fn tm df;conv=>whnf
  refine .inl ⟨fun mm tz hz=>∃ (j:Nat) (o:Int),bt (some (.func (.yield yl) #[] #[])::some (.pointer (some ⟨3,0,none⟩))::aC 3 (some (.slice (some ⟨0,0,none⟩) n c)::some (.int .i64 n)::some (.int .i64 j)::aC 17 [])) tz∧hz=[some (.flat false n 6 g),some (.aL true 6 [p.cells]),some (.aL true 1 [[.int .i64 o]]),some (.aL true 1 [[.slice (some ⟨0,0,none⟩) n c]]),some (.bX (p5 Tryz.f67 fn tm df))]∧n - j=mm∧(j≤n∧o=rI (aU L) p.p j),.inr ⟨[0,1,2,3,4],[0,1,5,6,7],?_⟩,?_⟩
  ·conv=>whnf
   intro _;conv=>whnf
   refine ⟨_,0,1,(.aa (.aa (.sk 3 (.aa (.aa (.aa (.sk 17 .nil rfl)))) rfl))),rfl,rfl,?_⟩;exact ⟨Nat.zero_le _,rfl⟩
  rintro mm aS _ ⟨j,o,aw,rfl,rfl,⟨hj,ho⟩⟩
  obtain ⟨az,rfl⟩:∃ az:Nat→Value,aS=.func (.yield yl) #[] #[]::.pointer (some ⟨3,0,none⟩)::zs az 2 3 (.slice (some ⟨0,0,none⟩) n c::.int .i64 n::.int .i64 j::zs az 8 17 []):=bF aw;clear aw;conv=>whnf
  refine aI (fun h3=>?_) (fun h3=>?_)
  ·have h3:j < n:=by
    have:=of_decide_eq_true h3;omega
   have e7:IntKind.i64.wrap ((j:Int)+1)=((j+1:Nat):Int):=by rw [ax (by omega) (by omega)]; rfl
   obtain ⟨a,b,ra,rb,⟨ma,mb⟩,fI,bZ,_,_⟩:=pf hn h3;have sa:=aT a ma;have sb:=aT b mb;have qa:=PV.cj sa (by decide)
   have qb:=PV.cj sb (by decide)
   have cg:=jS h3 (by omega)
   obtain ⟨u,hu⟩:∃ u,u=aN n j:=⟨_,rfl⟩;rw [← hu] at cg bZ rb;rw [← hg] at ra rb;have aq:=Ko (p:=p.p) fI;rw [← ho] at aq;conv=>whnf
   refine ⟨⟨by omega,by omega⟩,?_⟩
   simp only [toNat_cast,au,Nat.zero_add];conv=>whnf
   refine ⟨by show j < n; omega,?_⟩
   conv=>whnf
   rw [ra];conv=>whnf
   refine .inl ⟨10,[[],[],[],[],[3],[],[5],[3,4,5,6],[2,3,4,5,6,7],[2,3,4,5,6,7,8],[0,1,2,3,4,5,6,7,8,9],[0,1,2,3,4,5,6,7,8,9,10]],by kernel_rfl,?_⟩
   conv=>whnf
   rw [show decide ((n:Int)≠0)=true from decide_eq_true (by omega)]
   conv=>whnf
   rw [cg];refine ⟨⟨by omega,by omega⟩,?_⟩
   simp only [toNat_cast,au,Nat.zero_add];conv=>whnf
   refine ⟨by show u < n; omega,?_⟩
   conv=>whnf
   rw [rb];conv=>whnf
   refine ⟨rfl,?_⟩;conv=>whnf
   refine ⟨rfl,?_⟩;conv=>whnf
   refine ⟨rfl,?_⟩;conv=>whnf
   refine .inl ⟨5,[[],[],[],[],[1,2,3],[0,1,2,3,4],[0,1,2,3,4,5]],by kernel_rfl,?_⟩
   conv=>whnf
   obtain ⟨z,ez,pz⟩:=dT (aV (ao a.p b.p p.p) 0);refine ⟨(a,b,p),rfl,⟨PV.aR sa (by decide),PV.aR sb (by decide),PV.aR sp (by decide)⟩,?_⟩
   rw [show kj.val (a,b,p)=.int .i64 z from ez]
   conv=>whnf
   rw [← pz] at aq;refine ⟨rfl,?_⟩;conv=>whnf
   rw [e7];refine .inr ⟨[0,1,2,3,4],[0,1,5,6,7],?_⟩;conv=>whnf
   intro _;conv=>whnf
   refine ⟨_,?_,j+1,if z < o then z else o,(.aa (.aa (.sk 3 (.aa (.aa (.aa (.sk 17 .nil rfl)))) rfl))),rfl,rfl,?_⟩
   ·omega
   ·exact ⟨by omega,aq.symm⟩
  ·have h3:j=n:=by
    have:=of_decide_eq_false h3;omega
   subst h3;conv=>whnf
   exact fin o (ho.trans (by rw [hn]; exact K2))
def Qs:Env:=En [(56,.q dU)] [(64,b9 mu cG Tryz.f64),(49,b9 DG cG Tryz.f49)] [(118,tN)]
theorem ab7:EnvOk Tryz.prog Qs:=bC ⟨D2,trivial⟩ ⟨wj,J4,trivial⟩
theorem aaQ:gw Tryz.prog Qs:=vj ⟨vY,trivial⟩
theorem Bv:c7 Tryz.prog 23 bm:=by
 refine dR ab7 aK Tryz.func23 (enters_of Tryz.func23 (by kernel_rfl) rfl) ?_ ?_ ?_ (hI:=aaQ)
 ·intro i b hb;cases i with
  | none=>simp [bm,PL.aj] at hb
  | some i=>simp [bm,PL.aj] at hb; rw [hb]; rfl
 ·intro i b hb; simp [bm] at hb
 intro i hp;have hp:i.list.length≤1099511627776∧∀ v∈i.list,v.sz 2048:=hp;obtain ⟨hlen,aT⟩:=hp;cases i with
 | none =>
  conv=>whnf
  exact ⟨.int .i64 4,rfl,.refl _⟩
 | some i =>
  obtain ⟨L,c⟩:=i;have hlen:L.length≤1099511627776:=hlen;have aT:∀ v∈L,PV.sz 2048 v:=aT;obtain ⟨n,hn⟩:∃ n,n=L.length:=⟨_,rfl⟩;obtain ⟨g,hg⟩:∃ g,g=c6 L:=⟨_,rfl⟩;have fin:∀ z:Int,bz L=z→∃ v',cL (List.range 1) 3 (bm.val (some (L,c)))=some v'∧eT (.int .i64 z) v':=fun z h=>⟨.int .i64 z,by rw [← h]; rfl,.refl _⟩
  rw [show bm.aj (some (L,c))=[.flat false n 6 g] from by rw [hn,hg]; rfl,show bm.args (some (L,c))=[.slice (some ⟨0,0,none⟩) n c] from by rw [hn]; rfl]
  rw [← hn] at hlen;conv=>whnf
  by_cases h1:n < 3
  ·rw [show decide ((n:Int) < 3)=true from decide_eq_true (by omega)]
   conv=>whnf
   exact fin 4 (BL (.inl (by omega)))
  rw [show decide ((n:Int) < 3)=false from decide_eq_false (by omega)]
  conv=>whnf
  by_cases J:64 < n
  ·rw [show decide ((n:Int) > 64)=true from decide_eq_true (by omega)]
   conv=>whnf
   exact fin 4 (BL (.inr (by omega)))
  rw [show decide ((n:Int) > 64)=false from decide_eq_false (by omega)]
  conv=>whnf
  obtain ⟨z,hz⟩:∃ z,z=dz L:=⟨_,rfl⟩;refine ⟨some (L,c),[0],by rw [show dU.args (some (L,c))=[.slice (some ⟨0,0,none⟩) n c] from by rw [hn]; rfl]; rfl,⟨by show L.length≤_; omega,aT⟩,?_⟩
  rw [show dU.aj (some (L,c))=[.flat false n 6 g] from by rw [hn,hg]; rfl,show dU.val (some (L,c))=.bool (!z) from by rw [hz]; rfl,show dU.new (some (L,c))=none from rfl]
  conv=>whnf
  refine ⟨aP.aY (fun h=>h) (fun r hr=>by rw [hg]; rfl),?_⟩
  conv=>whnf
  refine ⟨_,rfl,?_⟩;conv=>whnf
  cases z with
  | true =>
   conv=>whnf
   exact fin 1 (Nj (by omega) hz.symm)
  | false =>
   conv=>whnf
   refine ⟨⟨by decide,by omega,by omega⟩,?_⟩
   conv=>whnf
   obtain ⟨m,hm⟩:∃ m,m=n - 1:=⟨_,rfl⟩;obtain ⟨c1,ve⟩:∃ x,x=tQ c (Int.toNat 1):=⟨_,rfl⟩;rw [← ve,show Int.toNat (n:Int) - Int.toNat 1=m from hm.symm,show eJ 0 (Int.toNat 1)=1 from rfl]
   have qj:dz L=false:=hz.symm;have h0:=o8 (L:=L) (k:=0) (by omega)
   have so:=aT _ (nj (L:=L) (k:=0) (by omega))
   have po:=jz (L:=L) (k:=0) (by omega)
   obtain ⟨o,ho⟩:∃ o,o=g7 L 0:=⟨_,rfl⟩;rw [← ho] at h0 so po;rw [← hg] at h0;have qo:=PV.cj so (by decide)
   refine .inl ⟨fun mm tz hz=>∃ (i:Nat),bt (some (.slice (some ⟨0,1,none⟩) m c1)::some (.func (.func 73) #[] #[.pointer (some ⟨1,0,none⟩)])::aC 5 (some (.int .i64 m)::some (.int .i64 i)::aC 10 [])) tz∧hz=[some (.flat false n 6 g),some (.aL true 1 [[.slice (some ⟨0,0,none⟩) n c]]),some (.aL true 1 [[.int .i64 0]])]∧m - i=mm∧(i≤m∧xf (aU L) i),.inr ⟨[0,1,2],[0,1,7,8],?_⟩,?_⟩
   ·conv=>whnf
    intro _;conv=>whnf
    refine ⟨_,0,(.aa (.aa (.sk 5 (.aa (.aa (.sk 10 .nil rfl))) rfl))),rfl,rfl,?_⟩;exact ⟨Nat.zero_le _,Kp _⟩
   rintro mm aS _ ⟨i,aw,rfl,rfl,⟨hi,hU⟩⟩
   obtain ⟨az,rfl⟩:∃ az:Nat→Value,aS=.slice (some ⟨0,1,none⟩) m c1::.func (.func 73) #[] #[.pointer (some ⟨1,0,none⟩)]::zs az 2 5 (.int .i64 m::.int .i64 i::zs az 9 10 []):=bF aw;clear aw;conv=>whnf
   refine aI (fun h3=>?_) (fun h3=>?_)
   ·have h3:i < m:=by
     have:=of_decide_eq_true h3;omega
    have e7:IntKind.i64.wrap ((i:Int)+1)=((i+1:Nat):Int):=by rw [ax (by omega) (by omega)]; rfl
    have ra:=o8 (L:=L) (k:=i+1) (by omega)
    have sa:=aT _ (nj (L:=L) (k:=i+1) (by omega))
    have pa:=jz (L:=L) (k:=i+1) (by omega)
    obtain ⟨a,ha⟩:∃ o,o=g7 L (i+1):=⟨_,rfl⟩;rw [← ha] at ra sa pa;rw [← hg] at ra;have qa:=PV.cj sa (by decide)
    conv=>whnf
    refine ⟨⟨by omega,by omega⟩,?_⟩
    simp only [toNat_cast,au,Nat.zero_add,Nat.add_comm 1 i];conv=>whnf
    refine ⟨by show i+1 < n; omega,?_⟩
    conv=>whnf
    rw [ra];conv=>whnf
    refine .inl ⟨4,[[],[],[1],[1,2],[0,1,2,3],[0,1,2,3,4],[0,1,2,3,4,5]],by kernel_rfl,?_⟩
    conv=>whnf
    have zA:g (Int.toNat 0)=o.cells:=h0;refine ⟨⟨by omega,by omega⟩,?_⟩
    simp only [toNat_cast,au,Nat.zero_add];conv=>whnf
    refine ⟨by show 0 < n; omega,?_⟩
    conv=>whnf
    rw [zA];conv=>whnf
    obtain ⟨z,ez,pz⟩:=dT (fk a.p o.p);refine ⟨(a,o),rfl,⟨PV.aR sa (by decide),PV.aR so (by decide)⟩,?_⟩
    rw [show oz.val (a,o)=.int .i64 z from ez]
    conv=>whnf
    rw [pa,po] at pz;by_cases h4:im (an (aU L) 0) (an (aU L) (i+1))
    ·have:=NX.1 h4;rw [show decide (z≤0)=false from decide_eq_false (by omega)]
     conv=>whnf
     rw [e7];refine .inr ⟨[0,1,2],[0,1,7,8],?_⟩;conv=>whnf
     intro _;conv=>whnf
     refine ⟨_,?_,i+1,(.aa (.aa (.sk 5 (.aa (.aa (.sk 10 .nil rfl))) rfl))),rfl,rfl,?_⟩
     ·omega
     ·exact ⟨by omega,K3 hU h4⟩
    ·have:¬ 0 < fk (an (aU L) (i+1)) (an (aU L) 0):=fun e=>h4 (NX.2 e)
     rw [show decide (z≤0)=true from decide_eq_true (by omega)]
     conv=>whnf
     exact fin 8 (Nk (by omega) qj fun e=>h4 (e (i+1) (by omega) (by rw [c4]; omega)))
   ·have h3:i=m:=by
     have:=of_decide_eq_false h3;omega
    have nI:=LK hU (by rw [c4]; omega)
    have xK:3≤(aU L).length:=by rw [c4]; omega
    conv=>whnf
    intro yl nu fn tm df;conv=>whnf
    skip
    refine .inl ⟨fun mm tz hz=>∃ (j:Nat),bt (some (.func (.yield yl) #[] #[])::some (.pointer (some ⟨3,0,none⟩))::aC 3 (some (.slice (some ⟨0,0,none⟩) n c)::some (.int .i64 n)::some (.int .i64 j)::aC 17 [])) tz∧hz=[some (.flat false n 6 g),some (.aL true 1 [[.slice (some ⟨0,0,none⟩) n c]]),some (.aL true 1 [[.int .i64 0]]),some (.aL true 1 [[.slice (some ⟨0,0,none⟩) n c]]),some (.bX (p5 Tryz.f23 fn tm df))]∧n - j=mm∧(j≤n∧∀ k,k < j→¬ yJ (aU L) k),.inr ⟨[0,1,2,3,4],[0,1,5,6,7],?_⟩,?_⟩
    ·conv=>whnf
     intro _;conv=>whnf
     refine ⟨_,0,(.aa (.aa (.sk 3 (.aa (.aa (.aa (.sk 17 .nil rfl)))) rfl))),rfl,rfl,?_⟩;exact ⟨Nat.zero_le _,fun k hk=>absurd hk (Nat.not_lt_zero k)⟩
    rintro mm aS _ ⟨j,aw,rfl,rfl,⟨hj,hB⟩⟩
    obtain ⟨az,rfl⟩:∃ az:Nat→Value,aS=.func (.yield yl) #[] #[]::.pointer (some ⟨3,0,none⟩)::zs az 2 3 (.slice (some ⟨0,0,none⟩) n c::.int .i64 n::.int .i64 j::zs az 8 17 []):=bF aw;clear aw;conv=>whnf
    refine aI (fun h3=>?_) (fun h3=>?_)
    ·have h3:j < n:=by
      have:=of_decide_eq_true h3;omega
     have e7:IntKind.i64.wrap ((j:Int)+1)=((j+1:Nat):Int):=by rw [ax (by omega) (by omega)]; rfl
     obtain ⟨a,b,ra,rb,⟨ma,mb⟩,_,bZ,ha,hb⟩:=pf hn h3;have sa:=aT a ma;have sb:=aT b mb;have cg:=jS h3 (by omega)
     obtain ⟨u,hu⟩:∃ u,u=aN n j:=⟨_,rfl⟩;rw [← hu] at cg bZ rb;rw [← hg] at ra rb;conv=>whnf
     refine ⟨⟨by omega,by omega⟩,?_⟩
     simp only [toNat_cast,au,Nat.zero_add];conv=>whnf
     refine ⟨by show j < n; omega,?_⟩
     conv=>whnf
     rw [ra];conv=>whnf
     refine .inl ⟨10,[[],[],[],[],[3],[],[5],[3,4,5,6],[2,3,4,5,6,7],[2,3,4,5,6,7,8],[0,1,2,3,4,5,6,7,8,9],[0,1,2,3,4,5,6,7,8,9,10]],by kernel_rfl,?_⟩
     conv=>whnf
     rw [show decide ((n:Int)≠0)=true from decide_eq_true (by omega)]
     conv=>whnf
     rw [cg];refine ⟨⟨by omega,by omega⟩,?_⟩
     simp only [toNat_cast,au,Nat.zero_add];conv=>whnf
     refine ⟨by show u < n; omega,?_⟩
     conv=>whnf
     rw [rb];conv=>whnf
     refine ⟨rfl,?_⟩;conv=>whnf
     refine ⟨rfl,?_⟩;conv=>whnf
     refine ⟨rfl,?_⟩;conv=>whnf
     refine .inl ⟨fun mm tz hz=>∃ (i:Nat),bt (some (.slice (some ⟨0,0,none⟩) n c)::some (.func (.func 75) #[] #[.pointer (some ⟨16,0,none⟩),.pointer (some ⟨17,0,none⟩)])::aC 5 (some (.int .i64 n)::some (.int .i64 i)::aC 10 [])) tz∧hz=[some (.flat false n 6 g),some (.aL true 1 [[.slice (some ⟨0,0,none⟩) n c]]),some (.aL true 1 [[.int .i64 0]]),some (.aL true 1 [[.slice (some ⟨0,0,none⟩) n c]]),some (.bX { p5 Tryz.f23 fn tm df with state:=.busy }),some (.aL true 6 [a.cells]),none,none,none,none,none,none,none,none,none,none,some (.aL true 6 [a.cells]),some (.aL true 6 [b.cells])]∧n - i=mm∧(i≤n∧nq (sf a b) L i),.inr ⟨[0,1,2,3,4,5,6,7,8,9,10,11,12,13,14,15,16,17],[0,1,7,8],?_⟩,?_⟩
     ·conv=>whnf
      intro _;conv=>whnf
      refine ⟨_,0,(.aa (.aa (.sk 5 (.aa (.aa (.sk 10 .nil rfl))) rfl))),rfl,rfl,?_⟩;exact ⟨Nat.zero_le _,D1 _ _⟩
     rintro mm aS _ ⟨i,aw,rfl,rfl,⟨hi,hU⟩⟩
     obtain ⟨az,rfl⟩:∃ az:Nat→Value,aS=.slice (some ⟨0,0,none⟩) n c::.func (.func 75) #[] #[.pointer (some ⟨16,0,none⟩),.pointer (some ⟨17,0,none⟩)]::zs az 2 5 (.int .i64 n::.int .i64 i::zs az 9 10 []):=bF aw;clear aw;conv=>whnf
     refine aI (fun h4=>?_) (fun h4=>?_)
     ·have h4:i < n:=by
       have:=of_decide_eq_true h4;omega
      have e8:IntKind.i64.wrap ((i:Int)+1)=((i+1:Nat):Int):=by rw [ax (by omega) (by omega)]; rfl
      obtain ⟨p,kK,vf,aW⟩:=re (l:=L) (i:=i) (by omega)
      rw [← hg] at aW;conv=>whnf
      refine ⟨⟨by omega,by omega⟩,?_⟩
      simp only [toNat_cast,au,Nat.zero_add];conv=>whnf
      refine ⟨by show i < n; omega,?_⟩
      conv=>whnf
      rw [aW];conv=>whnf
      obtain ⟨z,hz⟩:∃ z,z=sf a b p:=⟨_,rfl⟩;refine ⟨(a,b,p),[16,17],rfl,⟨sa,sb,aT p vf⟩,?_⟩;rw [show rR.aj (a,b,p)=[.flat false 1 6 (fun _=>a.cells),.flat false 1 6 (fun _=>b.cells)] from rfl,show rR.val (a,b,p)=.bool z from by rw [hz]; rfl,show rR.new (a,b,p)=none from rfl]
      conv=>whnf
      refine ⟨Ng a,Ng b,?_⟩;conv=>whnf
      refine ⟨_,rfl,?_⟩;conv=>whnf
      cases z with
      | false =>
       conv=>whnf
       rw [e8];refine .inr ⟨[0,1,2,3,4,5,6,7,8,9,10,11,12,13,14,15,16,17],[0,1,7,8],?_⟩;conv=>whnf
       intro _;conv=>whnf
       refine ⟨_,?_,i+1,(.aa (.aa (.sk 5 (.aa (.aa (.sk 10 .nil rfl))) rfl))),rfl,rfl,?_⟩
       ·omega
       ·exact ⟨by omega,s7 hU kK hz.symm⟩
      | true =>
       conv=>whnf
       refine ⟨rfl,?_⟩;conv=>whnf
       exact fin 15 (Gh (by omega) qj nI fun e=>(Mv xK nI).1 e j (by rw [c4]; omega) (Wx qj (by omega) ha (hb.trans (by rw [hn])) vf hz.symm))
     ·have h4:i=n:=by
       have:=of_decide_eq_false h4;omega
      subst h4;conv=>whnf
      refine ⟨rfl,?_⟩;conv=>whnf
      rw [e7];refine .inr ⟨[0,1,2,3,4],[0,1,5,6,7],?_⟩;conv=>whnf
      intro _;conv=>whnf
      refine ⟨_,?_,j+1,(.aa (.aa (.sk 3 (.aa (.aa (.aa (.sk 17 .nil rfl)))) rfl))),rfl,rfl,?_⟩
      ·omega
      ·refine ⟨by omega,fun k hk=>?_⟩
       rcases Nat.lt_or_eq_of_le (Nat.le_of_lt_succ hk) with e | e
       ·exact hB k e
       ·subst e;exact Zo (by omega) ha (hb.trans (by rw [hn])) (ED (by rw [← hn]; exact hU))
    ·have h3:j=n:=by
      have:=of_decide_eq_false h3;omega
     subst h3;conv=>whnf
     exact fin 0 (My (by omega) qj nI ((Mv xK nI).2 fun k hk=>hB k (by rw [c4] at hk; omega)))
open Go Go.Ae
def Ew1:Env:=En [(23,.q bm),(56,.q dU),(67,.q mD)]
theorem ab8:EnvOk Tryz.prog Ew1:=bC ⟨Bv,D2,YD,trivial⟩ trivial
theorem Uh:c7 Tryz.prog 19 kh:=by
 refine dR ab8 aK Tryz.func19 (enters_of Tryz.func19 (by kernel_rfl) rfl) ?_ ?_ ?_
 ·intro ⟨i,_⟩ b hb;cases i with
  | none=>simp [kh,PL.aj] at hb
  | some i=>simp [kh,PL.aj] at hb; rw [hb]; rfl
 ·intro i b hb; simp [kh] at hb
 intro ⟨i,p⟩ hp;have hp:(i.list.length≤1099511627776∧∀ v∈i.list,v.sz 2048)∧p.sz 2048:=hp;obtain ⟨⟨hlen,aT⟩,sp⟩:=hp;cases i with
 | none =>
  conv=>whnf
  refine ⟨none,[],rfl,⟨Nat.zero_le _,fun v hv=>nomatch hv⟩,?_⟩
  rw [show bm.aj none=[] from rfl,show bm.val none=.int .i64 4 from rfl,show bm.new none=none from rfl]
  conv=>whnf
  refine ⟨_,rfl,?_⟩;conv=>whnf
  exact ⟨_,rfl,.refl _⟩
 | some i =>
  obtain ⟨L,c⟩:=i;have hlen:L.length≤1099511627776:=hlen;have aT:∀ v∈L,PV.sz 2048 v:=aT;obtain ⟨n,hn⟩:∃ n,n=L.length:=⟨_,rfl⟩;obtain ⟨g,hg⟩:∃ g,g=c6 L:=⟨_,rfl⟩;have fin:∀ z e:Int,p9 L p=(z,e)→∃ v',cL (List.range 1) 3 (kh.val (some (L,c),p))=some v'∧eT (.tuple ⟨[.int .i64 z,.int .i64 e]⟩) v':=fun z e h=>⟨_,by
   rw [show kh.val (some (L,c),p)=ZE.v (p9 L p) from rfl,h]; rfl,.refl _⟩
  rw [show kh.aj (some (L,c),p)=[.flat false n 6 g] from by rw [hn,hg]; rfl,show kh.args (some (L,c),p)=[.slice (some ⟨0,0,none⟩) n c,p.v] from by rw [hn]; rfl]
  rw [← hn] at hlen;conv=>whnf
  refine ⟨some (L,c),[0],by rw [show bm.args (some (L,c))=[.slice (some ⟨0,0,none⟩) n c] from by rw [hn]; rfl]; rfl,⟨by show L.length≤_; omega,aT⟩,?_⟩
  rw [show bm.aj (some (L,c))=[.flat false n 6 g] from by rw [hn,hg]; rfl,show bm.val (some (L,c))=.int .i64 (bz L) from rfl,show bm.new (some (L,c))=none from rfl]
  conv=>whnf
  refine ⟨aP.aY (fun h=>h) (fun r hr=>by rw [hg]; rfl),?_⟩
  conv=>whnf
  refine ⟨_,rfl,?_⟩;obtain ⟨e,he⟩:∃ z,z=bz L:=⟨_,rfl⟩;rw [← he];conv=>whnf
  by_cases h1:e=0
  ·rw [show (e != 0)=false from by simp [h1]]
   conv=>whnf
   refine ⟨some ([p],1),[2],rfl,⟨by show 1≤1099511627776; decide,(fun v hv=>by rw [List.mem_singleton.1 hv]; exact sp)⟩,?_⟩
   rw [show dU.aj (some ([p],1))=[.flat false 1 6 (c6 [p])] from rfl,show dU.val (some ([p],1))=.bool (!dz [p]) from rfl,show dU.new (some ([p],1))=none from rfl]
   conv=>whnf
   refine ⟨Nd [p],?_⟩;conv=>whnf
   refine ⟨_,rfl,?_⟩;obtain ⟨r,hr⟩:∃ z,z=dz [p]:=⟨_,rfl⟩;rw [← hr];conv=>whnf
   cases r with
   | true =>
    conv=>whnf
    exact fin 0 1 (NY fun h=>adm hr h.2)
   | false =>
    conv=>whnf
    obtain ⟨w,hw⟩:∃ w,w=eK (aU L) p.p:=⟨_,rfl⟩;refine ⟨(some (L,c),p),[0],by rw [show mD.args (some (L,c),p)=[.slice (some ⟨0,0,none⟩) n c,p.v] from by rw [hn]; rfl]; rfl,⟨⟨by show L.length≤_; omega,aT⟩,sp⟩,?_⟩
    rw [show mD.aj (some (L,c),p)=[.flat false n 6 g] from by rw [hn,hg]; rfl,show mD.val (some (L,c),p)=.int .i64 w from by rw [hw]; rfl,show mD.new (some (L,c),p)=none from rfl]
    conv=>whnf
    refine ⟨aP.aY (fun h=>h) (fun r hr=>by rw [hg]; rfl),?_⟩
    conv=>whnf
    refine ⟨_,rfl,?_⟩;conv=>whnf
    exact fin w 0 (by rw [hw]; exact Nl ⟨by rw [← he]; exact h1,abC hr⟩)
  ·rw [show (e != 0)=true from by simp [h1]]
   conv=>whnf
   exact fin 0 1 (NY fun h=>h1 (by rw [he]; exact h.1))
open Go Go.Ae
theorem aaR:bc Tryz.prog 110 uJ:=by
 refine bf pT aK Tryz.func110 (enters_of Tryz.func110 (by kernel_rfl) rfl) (fun _=>rfl) (fun _=>rfl) ?_
 intro ⟨a,b,p⟩ hp;conv=>whnf
 rw [C0 b p];by_cases h:b=p
 ·rw [decide_eq_true h,show uJ.val (a,b,p)=.bool false from congrArg Value.bool (decide_eq_false fun e=>e h)]; rfl
 ·rw [decide_eq_false h,show uJ.val (a,b,p)=.bool true from congrArg Value.bool (decide_eq_true h)]; rfl
theorem aaS:bc Tryz.prog 111 uK:=by
 refine bf pT aK Tryz.func111 (enters_of Tryz.func111 (by kernel_rfl) rfl) (fun _=>rfl) (fun _=>rfl) ?_
 intro ⟨a,b,p⟩ hp;have hp:a.sz 1048576∧b.sz 1048576∧p.sz 1048576:=hp;obtain ⟨sa,sb,sp⟩:=hp;conv=>whnf
 obtain ⟨z,ez,pz⟩:=dT (aV (ao a.p b.p p.p) 0);refine ⟨(a,b,p),rfl,⟨PV.aR sa (by decide),PV.aR sb (by decide),PV.aR sp (by decide)⟩,?_⟩
 rw [show kj.val (a,b,p)=.int .i64 z from ez]
 conv=>whnf
 by_cases h:z=0
 ·rw [show uK.val (a,b,p)=.bool false from congrArg Value.bool (decide_eq_false fun e=>e (by rw [← pz]; exact h)),show (z != 0)=false from by simp [h]]
 ·rw [show uK.val (a,b,p)=.bool true from congrArg Value.bool (decide_eq_true (by rw [← pz]; exact h)),show (z != 0)=true from by simp [h]]
def Ex1:Env:=En [(110,.p uJ),(111,.p uK)]
theorem ab9:EnvOk Tryz.prog Ex1:=bC ⟨aaR,aaS,trivial⟩ trivial
theorem YE:c7 Tryz.prog 109 (jT 110 111):=by
 refine dR ab9 aK Tryz.func109 (enters_of Tryz.func109 (by kernel_rfl) rfl) ?_ ?_ ?_
 ·intro ⟨i,b⟩ B hb;cases i with
  | none=>simp [jT,QL.aj] at hb
  | some i=>simp [jT,QL.aj] at hb; rw [hb]; rfl
 ·intro i B hb;exact Bs hb
 intro ⟨i,b⟩ hp;have hp:i.list.length≤549755813888∧∀ v∈i.list,Q2.sz 262144 v:=hp;obtain ⟨hlen,aT⟩:=hp;cases i with
 | none =>
  cases b <;> (conv=>whnf) <;> refine .inr ⟨1,?_⟩ <;> (conv=>whnf) <;> exact ⟨_,rfl,.refl _⟩
 | some i =>
  obtain ⟨L,c⟩:=i;have hlen:L.length≤549755813888:=hlen;have aT:∀ v∈L,Q2.sz 262144 v:=aT;obtain ⟨n,hn⟩:∃ n,n=L.length:=⟨_,rfl⟩;obtain ⟨g,hg⟩:∃ g,g=bS L:=⟨_,rfl⟩;cases b with
  | false =>
   rw [show (jT 110 111).aj (some (L,c),false)=[.flat false n 6 g] from by rw [hn,hg]; rfl,show (jT 110 111).args (some (L,c),false)=[.slice (some ⟨0,0,none⟩) n c,.func (.func 110) #[] #[]] from by rw [hn]; rfl]
   rw [← hn] at hlen;conv=>whnf
   refine .inl ⟨fun mm tz hz=>∃ (j:Nat) (O:List Q2) (q:Nat) (F:Nat→List Value),bt (some (.slice (some ⟨0,0,none⟩) n c)::some (.func (.func 110) #[] #[])::aC 3 (some (ef 1 q)::aC 2 (some (.slice (some ⟨0,0,none⟩) n c)::some (.int .i64 n)::some (.int .i64 j)::aC 32 []))) tz∧hz=[some (.flat false n 6 g)]++zj 6 F q∧n - j=mm∧((j≤n∧q=O.length)∧O=pS L j∧(∀ r,r < q→F r=bS O r)),.inr ⟨[0],[0,1,5,8,9,10],?_⟩,?_⟩
   ·conv=>whnf
    intro _;conv=>whnf
    refine ⟨_,0,[],0,fun _=>[],(.aa (.aa (.sk 3 (.aa (.sk 2 (.aa (.aa (.aa (.sk 32 .nil rfl)))) rfl)) rfl))),rfl,rfl,?_⟩
    exact ⟨⟨Nat.zero_le _,rfl⟩,rfl,fun r hr=>absurd hr (Nat.not_lt_zero r)⟩
   rintro mm aS _ ⟨j,O,q,F,aw,rfl,rfl,⟨⟨hj,hq⟩,hO,hF⟩⟩
   obtain ⟨az,rfl⟩:∃ az:Nat→Value,aS=.slice (some ⟨0,0,none⟩) n c::.func (.func 110) #[] #[]::zs az 2 3 (ef 1 q::zs az 6 2 (.slice (some ⟨0,0,none⟩) n c::.int .i64 n::.int .i64 j::zs az 11 32 [])):=bF aw;clear aw;have sT:=Vq L j;rw [← hO,← hq] at sT;cases q with
   | zero =>
    obtain rfl:O=[]:=List.eq_nil_of_length_eq_zero hq.symm;conv=>whnf
    refine aI (fun h1=>?_) (fun h1=>?_)
    ·have h1:j < n:=by
      have:=of_decide_eq_true h1;omega
     have e7:IntKind.i64.wrap ((j:Int)+1)=((j+1:Nat):Int):=by rw [ax (by omega) (by omega)]; rfl
     obtain ⟨a,ca,ra,pa,sa,qa⟩:=gO (L:=L) (k:=dY n j) (by rw [← hn]; exact jP h1) aT
     obtain ⟨b,cb,rb,pb,sb,qb⟩:=gO (L:=L) (k:=j) (by omega) aT
     obtain ⟨d,cd,rd,pd,sd,qd⟩:=gO (L:=L) (k:=aN n j) (by rw [← hn]; exact ck h1) aT
     rw [← hg] at ra rb rd;have lI:=CA h1 (by omega)
     have cg:=jS h1 (by omega)
     have kK:dY n j < n:=jP h1;have bZ:=ck h1;obtain ⟨u,hu⟩:∃ u,u=dY n j:=⟨_,rfl⟩;obtain ⟨w,hw⟩:∃ u,u=aN n j:=⟨_,rfl⟩;rw [← hu] at lI kK ra;rw [← hw] at cg bZ rd;conv=>whnf
     refine ⟨⟨by omega,by omega⟩,?_⟩
     simp only [toNat_cast,au,Nat.zero_add];conv=>whnf
     refine ⟨by show j < n; omega,?_⟩
     conv=>whnf
     rw [rb];conv=>whnf
     refine .inl ⟨21,[[],[],[],[],[3],[2,3,4],[2,3,4,5],[],[7],[2,3,4,5,6,7,8],[1,2,3,4,5,6,7,8,9],[1,2,3,4,5,6,7,8,9,10],[],[],[],[14],[],[16],[14,15,16,17],[13,14,15,16,17,18],[13,14,15,16,17,18,19],[0,1,2,3,4,5,6,7,8,9,10,11,12,13,14,15,16,17,18,19,20]],by kernel_rfl,?_⟩
     conv=>whnf
     rw [show decide ((n:Int)≠0)=true from decide_eq_true (by omega)]
     conv=>whnf
     rw [lI];refine ⟨⟨by omega,by omega⟩,?_⟩
     simp only [toNat_cast,au,Nat.zero_add];conv=>whnf
     refine ⟨by show u < n; omega,?_⟩
     conv=>whnf
     rw [ra];conv=>whnf
     rw [show decide ((n:Int)≠0)=true from decide_eq_true (by omega)]
     conv=>whnf
     rw [cg];refine ⟨⟨by omega,by omega⟩,?_⟩
     simp only [toNat_cast,au,Nat.zero_add];conv=>whnf
     refine ⟨by show w < n; omega,?_⟩
     conv=>whnf
     rw [rd];conv=>whnf
     obtain ⟨z,hz,aq⟩:=Mz hn h1 pa cb cd;rw [← hO] at aq;refine ⟨(a,b,d),rfl,⟨PV.aR sa (by decide),PV.aR sb (by decide),PV.aR sd (by decide)⟩,?_⟩
     rw [show uJ.val (a,b,d)=.bool z from hz]
     conv=>whnf
     cases z with
     | false =>
      conv=>whnf
      rw [e7];refine .inr ⟨[0],[0,1,5,8,9,10],?_⟩;conv=>whnf
      intro _;conv=>whnf
      refine ⟨_,?_,j+1,[],0,F,(.aa (.aa (.sk 3 (.aa (.sk 2 (.aa (.aa (.aa (.sk 32 .nil rfl)))) rfl)) rfl))),rfl,rfl,?_⟩
      ·omega
      ·exact ⟨⟨by omega,rfl⟩,by rw [aq]; rfl,hF⟩
     | true =>
      conv=>whnf
      refine ⟨by show (0+1)*80≤140737488355328; decide,?_⟩
      conv=>whnf
      rw [e7];refine .inr ⟨[0,24],[0,1,5,8,9,10],?_⟩;conv=>whnf
      intro _;conv=>whnf
      refine ⟨_,?_,j+1,[an L j],1,_,(.aa (.aa (.sk 3 (.aa (.sk 2 (.aa (.aa (.aa (.sk 32 .nil rfl)))) rfl)) rfl))),rfl,rfl,?_⟩
      ·omega
      ·exact ⟨⟨by omega,rfl⟩,by rw [aq]; rfl,wh cb rfl⟩
    ·have h1:j=n:=by
      have:=of_decide_eq_false h1;omega
     subst h1;have hE:gi L=[]:=by rw [hO,hn]; exact (LM L).symm
     conv=>whnf
     rw [show (jT 110 111).new (some (L,c),false)=none from by show cQ (gi L)=none; rw [hE]; rfl]
     exact ⟨.slice none 0 0,by rw [show (jT 110 111).val (some (L,c),false)=.slice none 0 0 from by show ef _ (gi L).length=_; rw [hE]; rfl]; rfl,.refl _⟩
   | succ q =>
    conv=>whnf
    refine aI (fun h1=>?_) (fun h1=>?_)
    ·have h1:j < n:=by
      have:=of_decide_eq_true h1;omega
     have e7:IntKind.i64.wrap ((j:Int)+1)=((j+1:Nat):Int):=by rw [ax (by omega) (by omega)]; rfl
     obtain ⟨a,ca,ra,pa,sa,qa⟩:=gO (L:=L) (k:=dY n j) (by rw [← hn]; exact jP h1) aT
     obtain ⟨b,cb,rb,pb,sb,qb⟩:=gO (L:=L) (k:=j) (by omega) aT
     obtain ⟨d,cd,rd,pd,sd,qd⟩:=gO (L:=L) (k:=aN n j) (by rw [← hn]; exact ck h1) aT
     rw [← hg] at ra rb rd;have lI:=CA h1 (by omega)
     have cg:=jS h1 (by omega)
     have kK:dY n j < n:=jP h1;have bZ:=ck h1;obtain ⟨u,hu⟩:∃ u,u=dY n j:=⟨_,rfl⟩;obtain ⟨w,hw⟩:∃ u,u=aN n j:=⟨_,rfl⟩;rw [← hu] at lI kK ra;rw [← hw] at cg bZ rd;conv=>whnf
     refine ⟨⟨by omega,by omega⟩,?_⟩
     simp only [toNat_cast,au,Nat.zero_add];conv=>whnf
     refine ⟨by show j < n; omega,?_⟩
     conv=>whnf
     rw [rb];conv=>whnf
     refine .inl ⟨21,[[],[],[],[],[3],[2,3,4],[2,3,4,5],[],[7],[2,3,4,5,6,7,8],[1,2,3,4,5,6,7,8,9],[1,2,3,4,5,6,7,8,9,10],[],[],[],[14],[],[16],[14,15,16,17],[13,14,15,16,17,18],[13,14,15,16,17,18,19],[0,1,2,3,4,5,6,7,8,9,10,11,12,13,14,15,16,17,18,19,20]],by kernel_rfl,?_⟩
     conv=>whnf
     rw [show decide ((n:Int)≠0)=true from decide_eq_true (by omega)]
     conv=>whnf
     rw [lI];refine ⟨⟨by omega,by omega⟩,?_⟩
     simp only [toNat_cast,au,Nat.zero_add];conv=>whnf
     refine ⟨by show u < n; omega,?_⟩
     conv=>whnf
     rw [ra];conv=>whnf
     rw [show decide ((n:Int)≠0)=true from decide_eq_true (by omega)]
     conv=>whnf
     rw [cg];refine ⟨⟨by omega,by omega⟩,?_⟩
     simp only [toNat_cast,au,Nat.zero_add];conv=>whnf
     refine ⟨by show w < n; omega,?_⟩
     conv=>whnf
     rw [rd];conv=>whnf
     obtain ⟨z,hz,aq⟩:=Mz hn h1 pa cb cd;rw [← hO] at aq;refine ⟨(a,b,d),rfl,⟨PV.aR sa (by decide),PV.aR sb (by decide),PV.aR sd (by decide)⟩,?_⟩
     rw [show uJ.val (a,b,d)=.bool z from hz]
     conv=>whnf
     cases z with
     | false =>
      conv=>whnf
      rw [e7];refine .inr ⟨[0,1],[0,1,5,8,9,10],?_⟩;conv=>whnf
      intro _;conv=>whnf
      refine ⟨_,?_,j+1,O,q+1,F,(.aa (.aa (.sk 3 (.aa (.sk 2 (.aa (.aa (.aa (.sk 32 .nil rfl)))) rfl)) rfl))),rfl,rfl,?_⟩
      ·omega
      ·exact ⟨⟨by omega,hq⟩,by rw [aq]; simp,hF⟩
     | true =>
      conv=>whnf
      refine ⟨⟨by show 1≤1; decide,rfl,by show (q+1+1)*80≤140737488355328; omega⟩,?_⟩
      conv=>whnf
      refine ⟨[0,1,8,9,10],?_⟩;conv=>whnf
      intro _;conv=>whnf
      rw [e7];refine .inr ⟨[0,1],[0,1,5,8,9,10],?_⟩;conv=>whnf
      intro _;conv=>whnf
      refine ⟨_,?_,j+1,O++[an L j],q+1+1,_,(.aa (.aa (.sk 3 (.aa (.sk 2 (.aa (.aa (.aa (.sk 32 .nil rfl)))) rfl)) rfl))),rfl,rfl,?_⟩
      ·omega
      ·exact ⟨⟨by omega,by rw [List.length_append,← hq]; rfl⟩,by rw [aq]; simp,rl hq hF cb rfl⟩
    ·have h1:j=n:=by
      have:=of_decide_eq_false h1;omega
     subst h1;have hE:gi L=O:=by rw [hO,hn]; exact (LM L).symm
     conv=>whnf
     rw [show (jT 110 111).new (some (L,c),false)=some (.flat true (q+1) 6 (bS O)) from by show cQ (gi L)=_; rw [hE]; unfold cQ; rw [← hq],show (jT 110 111).val (some (L,c),false)=.slice (some ⟨1,0,none⟩) (q+1) aJ from by show ef _ (gi L).length=_; rw [hE,← hq]; rfl]
     refine ⟨1,?_⟩;conv=>whnf
     exact ⟨⟨rfl,aP.rf (fun h=>h) hF (fun r hr=>rfl)⟩,_,rfl,.refl _⟩
  | true =>
   rw [show (jT 110 111).aj (some (L,c),true)=[.flat false n 6 g] from by rw [hn,hg]; rfl,show (jT 110 111).args (some (L,c),true)=[.slice (some ⟨0,0,none⟩) n c,.func (.func 111) #[] #[]] from by rw [hn]; rfl]
   rw [← hn] at hlen;conv=>whnf
   refine .inl ⟨fun mm tz hz=>∃ (j:Nat) (O:List Q2) (q:Nat) (F:Nat→List Value),bt (some (.slice (some ⟨0,0,none⟩) n c)::some (.func (.func 111) #[] #[])::aC 3 (some (ef 1 q)::aC 2 (some (.slice (some ⟨0,0,none⟩) n c)::some (.int .i64 n)::some (.int .i64 j)::aC 32 []))) tz∧hz=[some (.flat false n 6 g)]++zj 6 F q∧n - j=mm∧((j≤n∧q=O.length)∧O=rT L j∧(∀ r,r < q→F r=bS O r)),.inr ⟨[0],[0,1,5,8,9,10],?_⟩,?_⟩
   ·conv=>whnf
    intro _;conv=>whnf
    refine ⟨_,0,[],0,fun _=>[],(.aa (.aa (.sk 3 (.aa (.sk 2 (.aa (.aa (.aa (.sk 32 .nil rfl)))) rfl)) rfl))),rfl,rfl,?_⟩
    exact ⟨⟨Nat.zero_le _,rfl⟩,rfl,fun r hr=>absurd hr (Nat.not_lt_zero r)⟩
   rintro mm aS _ ⟨j,O,q,F,aw,rfl,rfl,⟨⟨hj,hq⟩,hO,hF⟩⟩
   obtain ⟨az,rfl⟩:∃ az:Nat→Value,aS=.slice (some ⟨0,0,none⟩) n c::.func (.func 111) #[] #[]::zs az 2 3 (ef 1 q::zs az 6 2 (.slice (some ⟨0,0,none⟩) n c::.int .i64 n::.int .i64 j::zs az 11 32 [])):=bF aw;clear aw;have sT:=Vr L j;rw [← hO,← hq] at sT;cases q with
   | zero =>
    obtain rfl:O=[]:=List.eq_nil_of_length_eq_zero hq.symm;conv=>whnf
    refine aI (fun h1=>?_) (fun h1=>?_)
    ·have h1:j < n:=by
      have:=of_decide_eq_true h1;omega
     have e7:IntKind.i64.wrap ((j:Int)+1)=((j+1:Nat):Int):=by rw [ax (by omega) (by omega)]; rfl
     obtain ⟨a,ca,ra,pa,sa,qa⟩:=gO (L:=L) (k:=dY n j) (by rw [← hn]; exact jP h1) aT
     obtain ⟨b,cb,rb,pb,sb,qb⟩:=gO (L:=L) (k:=j) (by omega) aT
     obtain ⟨d,cd,rd,pd,sd,qd⟩:=gO (L:=L) (k:=aN n j) (by rw [← hn]; exact ck h1) aT
     rw [← hg] at ra rb rd;have lI:=CA h1 (by omega)
     have cg:=jS h1 (by omega)
     have kK:dY n j < n:=jP h1;have bZ:=ck h1;obtain ⟨u,hu⟩:∃ u,u=dY n j:=⟨_,rfl⟩;obtain ⟨w,hw⟩:∃ u,u=aN n j:=⟨_,rfl⟩;rw [← hu] at lI kK ra;rw [← hw] at cg bZ rd;conv=>whnf
     refine ⟨⟨by omega,by omega⟩,?_⟩
     simp only [toNat_cast,au,Nat.zero_add];conv=>whnf
     refine ⟨by show j < n; omega,?_⟩
     conv=>whnf
     rw [rb];conv=>whnf
     refine .inl ⟨21,[[],[],[],[],[3],[2,3,4],[2,3,4,5],[],[7],[2,3,4,5,6,7,8],[1,2,3,4,5,6,7,8,9],[1,2,3,4,5,6,7,8,9,10],[],[],[],[14],[],[16],[14,15,16,17],[13,14,15,16,17,18],[13,14,15,16,17,18,19],[0,1,2,3,4,5,6,7,8,9,10,11,12,13,14,15,16,17,18,19,20]],by kernel_rfl,?_⟩
     conv=>whnf
     rw [show decide ((n:Int)≠0)=true from decide_eq_true (by omega)]
     conv=>whnf
     rw [lI];refine ⟨⟨by omega,by omega⟩,?_⟩
     simp only [toNat_cast,au,Nat.zero_add];conv=>whnf
     refine ⟨by show u < n; omega,?_⟩
     conv=>whnf
     rw [ra];conv=>whnf
     rw [show decide ((n:Int)≠0)=true from decide_eq_true (by omega)]
     conv=>whnf
     rw [cg];refine ⟨⟨by omega,by omega⟩,?_⟩
     simp only [toNat_cast,au,Nat.zero_add];conv=>whnf
     refine ⟨by show w < n; omega,?_⟩
     conv=>whnf
     rw [rd];conv=>whnf
     obtain ⟨z,hz,aq⟩:=MA hn h1 pa cb cd;rw [← hO] at aq;refine ⟨(a,b,d),rfl,⟨PV.aR sa (by decide),PV.aR sb (by decide),PV.aR sd (by decide)⟩,?_⟩
     rw [show uK.val (a,b,d)=.bool z from hz]
     conv=>whnf
     cases z with
     | false =>
      conv=>whnf
      rw [e7];refine .inr ⟨[0],[0,1,5,8,9,10],?_⟩;conv=>whnf
      intro _;conv=>whnf
      refine ⟨_,?_,j+1,[],0,F,(.aa (.aa (.sk 3 (.aa (.sk 2 (.aa (.aa (.aa (.sk 32 .nil rfl)))) rfl)) rfl))),rfl,rfl,?_⟩
      ·omega
      ·exact ⟨⟨by omega,rfl⟩,by rw [aq]; rfl,hF⟩
     | true =>
      conv=>whnf
      refine ⟨by show (0+1)*80≤140737488355328; decide,?_⟩
      conv=>whnf
      rw [e7];refine .inr ⟨[0,24],[0,1,5,8,9,10],?_⟩;conv=>whnf
      intro _;conv=>whnf
      refine ⟨_,?_,j+1,[an L j],1,_,(.aa (.aa (.sk 3 (.aa (.sk 2 (.aa (.aa (.aa (.sk 32 .nil rfl)))) rfl)) rfl))),rfl,rfl,?_⟩
      ·omega
      ·exact ⟨⟨by omega,rfl⟩,by rw [aq]; rfl,wh cb rfl⟩
    ·have h1:j=n:=by
      have:=of_decide_eq_false h1;omega
     subst h1;have hE:jm L=[]:=by rw [hO,hn]; exact (LN L).symm
     conv=>whnf
     rw [show (jT 110 111).new (some (L,c),true)=none from by show cQ (jm L)=none; rw [hE]; rfl]
     exact ⟨.slice none 0 0,by rw [show (jT 110 111).val (some (L,c),true)=.slice none 0 0 from by show ef _ (jm L).length=_; rw [hE]; rfl]; rfl,.refl _⟩
   | succ q =>
    conv=>whnf
    refine aI (fun h1=>?_) (fun h1=>?_)
    ·have h1:j < n:=by
      have:=of_decide_eq_true h1;omega
     have e7:IntKind.i64.wrap ((j:Int)+1)=((j+1:Nat):Int):=by rw [ax (by omega) (by omega)]; rfl
     obtain ⟨a,ca,ra,pa,sa,qa⟩:=gO (L:=L) (k:=dY n j) (by rw [← hn]; exact jP h1) aT
     obtain ⟨b,cb,rb,pb,sb,qb⟩:=gO (L:=L) (k:=j) (by omega) aT
     obtain ⟨d,cd,rd,pd,sd,qd⟩:=gO (L:=L) (k:=aN n j) (by rw [← hn]; exact ck h1) aT
     rw [← hg] at ra rb rd;have lI:=CA h1 (by omega)
     have cg:=jS h1 (by omega)
     have kK:dY n j < n:=jP h1;have bZ:=ck h1;obtain ⟨u,hu⟩:∃ u,u=dY n j:=⟨_,rfl⟩;obtain ⟨w,hw⟩:∃ u,u=aN n j:=⟨_,rfl⟩;rw [← hu] at lI kK ra;rw [← hw] at cg bZ rd;conv=>whnf
     refine ⟨⟨by omega,by omega⟩,?_⟩
     simp only [toNat_cast,au,Nat.zero_add];conv=>whnf
     refine ⟨by show j < n; omega,?_⟩
     conv=>whnf
     rw [rb];conv=>whnf
     refine .inl ⟨21,[[],[],[],[],[3],[2,3,4],[2,3,4,5],[],[7],[2,3,4,5,6,7,8],[1,2,3,4,5,6,7,8,9],[1,2,3,4,5,6,7,8,9,10],[],[],[],[14],[],[16],[14,15,16,17],[13,14,15,16,17,18],[13,14,15,16,17,18,19],[0,1,2,3,4,5,6,7,8,9,10,11,12,13,14,15,16,17,18,19,20]],by kernel_rfl,?_⟩
     conv=>whnf
     rw [show decide ((n:Int)≠0)=true from decide_eq_true (by omega)]
     conv=>whnf
     rw [lI];refine ⟨⟨by omega,by omega⟩,?_⟩
     simp only [toNat_cast,au,Nat.zero_add];conv=>whnf
     refine ⟨by show u < n; omega,?_⟩
     conv=>whnf
     rw [ra];conv=>whnf
     rw [show decide ((n:Int)≠0)=true from decide_eq_true (by omega)]
     conv=>whnf
     rw [cg];refine ⟨⟨by omega,by omega⟩,?_⟩
     simp only [toNat_cast,au,Nat.zero_add];conv=>whnf
     refine ⟨by show w < n; omega,?_⟩
     conv=>whnf
     rw [rd];conv=>whnf
     obtain ⟨z,hz,aq⟩:=MA hn h1 pa cb cd;rw [← hO] at aq;refine ⟨(a,b,d),rfl,⟨PV.aR sa (by decide),PV.aR sb (by decide),PV.aR sd (by decide)⟩,?_⟩
     rw [show uK.val (a,b,d)=.bool z from hz]
     conv=>whnf
     cases z with
     | false =>
      conv=>whnf
      rw [e7];refine .inr ⟨[0,1],[0,1,5,8,9,10],?_⟩;conv=>whnf
      intro _;conv=>whnf
      refine ⟨_,?_,j+1,O,q+1,F,(.aa (.aa (.sk 3 (.aa (.sk 2 (.aa (.aa (.aa (.sk 32 .nil rfl)))) rfl)) rfl))),rfl,rfl,?_⟩
      ·omega
      ·exact ⟨⟨by omega,hq⟩,by rw [aq]; simp,hF⟩
     | true =>
      conv=>whnf
      refine ⟨⟨by show 1≤1; decide,rfl,by show (q+1+1)*80≤140737488355328; omega⟩,?_⟩
      conv=>whnf
      refine ⟨[0,1,8,9,10],?_⟩;conv=>whnf
      intro _;conv=>whnf
      rw [e7];refine .inr ⟨[0,1],[0,1,5,8,9,10],?_⟩;conv=>whnf
      intro _;conv=>whnf
      refine ⟨_,?_,j+1,O++[an L j],q+1+1,_,(.aa (.aa (.sk 3 (.aa (.sk 2 (.aa (.aa (.aa (.sk 32 .nil rfl)))) rfl)) rfl))),rfl,rfl,?_⟩
      ·omega
      ·exact ⟨⟨by omega,by rw [List.length_append,← hq]; rfl⟩,by rw [aq]; simp,rl hq hF cb rfl⟩
    ·have h1:j=n:=by
      have:=of_decide_eq_false h1;omega
     subst h1;have hE:jm L=O:=by rw [hO,hn]; exact (LN L).symm
     conv=>whnf
     rw [show (jT 110 111).new (some (L,c),true)=some (.flat true (q+1) 6 (bS O)) from by show cQ (jm L)=_; rw [hE]; unfold cQ; rw [← hq],show (jT 110 111).val (some (L,c),true)=.slice (some ⟨1,0,none⟩) (q+1) aJ from by show ef _ (jm L).length=_; rw [hE,← hq]; rfl]
     refine ⟨1,?_⟩;conv=>whnf
     exact ⟨⟨rfl,aP.rf (fun h=>h) hF (fun r hr=>rfl)⟩,_,rfl,.refl _⟩
open Go Go.Ae
def Jg:Env:=En [(33,.p mc)]
theorem aca:EnvOk Tryz.prog Jg:=bC ⟨yL,trivial⟩ trivial
theorem VS:fJ Tryz.prog 145 (b9 Jg cG Tryz.f145):=by
 exact iU aca aK Tryz.func145 (enters_of Tryz.func145 (by kernel_rfl) rfl)
def Jh:Env:=En [] [(145,b9 Jg cG Tryz.f145)] [] true
theorem acb:EnvOk Tryz.prog Jh:=bC trivial ⟨VS,trivial⟩
theorem S9:fJ Tryz.prog 112 (b9 Jh cG Tryz.f112):=by
 exact iU acb aK Tryz.func112 (enters_of Tryz.func112 (by kernel_rfl) rfl)
abbrev jk:cE:=jT 110 111
def Ey2:Env:=En [(109,.q jk),(74,.p oz)] [(112,b9 Jh cG Tryz.f112)]
theorem acd:EnvOk Tryz.prog Ey2:=bC ⟨YE,Nt,trivial⟩ ⟨S9,trivial⟩
theorem YF:c7 Tryz.prog 58 e9:=by
 refine dR acd aK Tryz.func58 (enters_of Tryz.func58 (by kernel_rfl) rfl) ?_ ?_ ?_
 ·intro i B hb;cases i with
  | none=>simp [e9,QL.aj] at hb
  | some i=>simp [e9,QL.aj] at hb; rw [hb]; rfl
 ·intro i B hb;exact Bs hb
 intro i hp;have hp:i.list.length≤549755813888∧∀ v∈i.list,Q2.sz 262144 v:=hp;obtain ⟨hlen,aT⟩:=hp;cases i with
 | none =>
  conv=>whnf
  refine ⟨(none,false),[],rfl,⟨Nat.zero_le _,fun v hv=>nomatch hv⟩,?_⟩
  rw [show jk.aj (none,false)=[] from rfl,show jk.val (none,false)=.slice none 0 0 from rfl,show jk.new (none,false)=none from rfl]
  conv=>whnf
  refine ⟨_,rfl,?_⟩;conv=>whnf
  refine ⟨(none,true),[],rfl,⟨Nat.zero_le _,fun v hv=>nomatch hv⟩,?_⟩
  rw [show jk.aj (none,true)=[] from rfl,show jk.val (none,true)=.slice none 0 0 from rfl,show jk.new (none,true)=none from rfl]
  conv=>whnf
  refine ⟨_,rfl,?_⟩;conv=>whnf
  exact ⟨_,rfl,.refl _⟩
 | some i =>
  obtain ⟨L,c⟩:=i;have hlen:L.length≤549755813888:=hlen;have aT:∀ v∈L,Q2.sz 262144 v:=aT;obtain ⟨n,hn⟩:∃ n,n=L.length:=⟨_,rfl⟩;obtain ⟨g,hg⟩:∃ g,g=bS L:=⟨_,rfl⟩;obtain ⟨D,hD⟩:∃ D,D=rS false L:=⟨_,rfl⟩;obtain ⟨C,hC⟩:∃ C,C=rS true D:=⟨_,rfl⟩;have hR:fu L=if C.length < 3 then [] else eD C:=by rw [T6,← hD,← hC]
  have Ji:D.length≤n∧∀ v∈D,Q2.sz 262144 v:=⟨by rw [hD,hn]; exact (xP L).length_le,fun v hv=>aT v ((xP L).subset (by rw [hD] at hv; exact hv))⟩
  have Da:C.length≤n∧∀ v∈C,Q2.sz 262144 v:=⟨Nat.le_trans (by rw [hC]; exact (AQ D).length_le) Ji.1,fun v hv=>Ji.2 v ((AQ D).subset (by rw [hC] at hv; exact hv))⟩
  obtain ⟨cu,fm⟩:∃ c,c=aJ:=⟨_,rfl⟩;obtain ⟨K,hK⟩:∃ K,K=iF e9 (some (L,c)):=⟨_,rfl⟩;have ss:∀ H:ay,fu L=[]→K (.slice none 0 0) H:=fun H h=>by
   rw [hK];unfold iF;rw [show e9.new (some (L,c))=none from by show cQ (fu L)=none; rw [h]; rfl,show e9.val (some (L,c))=.slice none 0 0 from by show ef _ (fu L).length=_; rw [h]; rfl]
   exact ⟨_,rfl,.refl _⟩
  rw [show e9.aj (some (L,c))=[.flat false n 6 g] from by rw [hn,hg]; rfl,show e9.args (some (L,c))=[.slice (some ⟨0,0,none⟩) n c] from by rw [hn]; rfl,← hK]
  rw [← hn] at hlen;conv=>whnf
  refine ⟨(some (L,c),false),[0],by rw [show jk.args (some (L,c),false)=[.slice (some ⟨0,0,none⟩) n c,.func (.func 110) #[] #[]] from by rw [hn]; rfl]; rfl,⟨by show L.length≤_; omega,aT⟩,?_⟩
  obtain ⟨d,hd⟩:∃ d,d=D.length:=⟨_,rfl⟩;rw [show jk.aj (some (L,c),false)=[.flat false n 6 g] from by rw [hn,hg]; rfl,show jk.val (some (L,c),false)=ef 1 d from by rw [hd,hD]; rfl,show jk.new (some (L,c),false)=cQ D from by rw [hD]; rfl]
  cases d with
  | zero =>
   obtain rfl:D=[]:=List.eq_nil_of_length_eq_zero hd.symm;conv=>whnf
   refine ⟨aP.aY (fun h=>h) (fun r hr=>by rw [hg]; rfl),?_⟩
   conv=>whnf
   refine ⟨_,rfl,?_⟩;conv=>whnf
   refine ⟨(none,true),[],rfl,⟨Nat.zero_le _,fun v hv=>nomatch hv⟩,?_⟩
   rw [show jk.aj (none,true)=[] from rfl,show jk.val (none,true)=.slice none 0 0 from rfl,show jk.new (none,true)=none from rfl]
   conv=>whnf
   refine ⟨_,rfl,?_⟩;conv=>whnf
   exact ss _ (by rw [hR,hC]; rfl)
  | succ d =>
   obtain ⟨G,hG⟩:∃ G,G=bS D:=⟨_,rfl⟩;rw [show cQ D=some (.flat true (d+1) 6 G) from by unfold cQ; rw [← hd,hG]]
   conv=>whnf
   refine ⟨aP.aY (fun h=>h) (fun r hr=>by rw [hg]; rfl),?_⟩
   conv=>whnf
   refine ⟨_,rfl,?_⟩;conv=>whnf
   obtain ⟨e,he⟩:∃ d,d=C.length:=⟨_,rfl⟩;refine ⟨(some (D,aJ),true),[1],by rw [show jk.args (some (D,aJ),true)=[.slice (some ⟨0,0,none⟩) (d+1) aJ,.func (.func 111) #[] #[]] from by rw [hd]; rfl]; rfl,⟨by show D.length≤_; omega,Ji.2⟩,?_⟩
   rw [show jk.aj (some (D,aJ),true)=[.flat false (d+1) 6 G] from by rw [hd,hG]; rfl,show jk.val (some (D,aJ),true)=ef 1 e from by rw [he,hC]; rfl,show jk.new (some (D,aJ),true)=cQ C from by rw [hC]; rfl]
   cases e with
   | zero =>
    obtain rfl:C=[]:=List.eq_nil_of_length_eq_zero he.symm;conv=>whnf
    refine ⟨aP.aY (fun h=>by cases h) (fun r hr=>by rw [hG]; rfl),?_⟩
    conv=>whnf
    refine ⟨_,rfl,?_⟩;conv=>whnf
    exact ss _ (by rw [hR]; rfl)
   | succ e =>
    obtain ⟨E,hE⟩:∃ G,G=bS C:=⟨_,rfl⟩;rw [show cQ C=some (.flat true (e+1) 6 E) from by unfold cQ; rw [← he,hE]]
    conv=>whnf
    refine ⟨aP.aY (fun h=>by cases h) (fun r hr=>by rw [hG]; rfl),?_⟩
    conv=>whnf
    refine ⟨_,rfl,?_⟩;conv=>whnf
    by_cases h3:e+1 < 3
    ·rw [show decide (((e+1:Nat):Int) < 3)=true from decide_eq_true (by omega)]
     conv=>whnf
     exact ss _ (by rw [hR,if_pos (by omega)])
    rw [show decide (((e+1:Nat):Int) < 3)=false from decide_eq_false (by omega)]
    rw [if_neg (by omega)] at hR
    obtain ⟨N,hN⟩:∃ N,N=e+1:=⟨_,rfl⟩;rw [← hN] at he;rw [← hN];obtain ⟨M,hM⟩:∃ N,N=d+1:=⟨_,rfl⟩;rw [← hM,← fm];conv=>whnf
    refine .inl ⟨fun mm tz hz=>∃ (i:Nat) (m:Nat),bt (some (.slice (some ⟨2,0,none⟩) N cu)::aC 2 (some (.int .i64 m)::aC 9 (some (.slice (some ⟨2,0,none⟩) N cu)::some (.int .i64 N)::some (.int .i64 i)::aC 21 []))) tz∧hz=[some (.flat false n 6 g),some (.flat true M 6 G),some (.flat true N 6 E)]∧N - i=mm∧(i≤N∧m=ni C i),.inr ⟨[0,1,2],[0,3,13,14,15],?_⟩,?_⟩
    ·conv=>whnf
     intro _;conv=>whnf
     refine ⟨_,0,0,(.aa (.sk 2 (.aa (.sk 9 (.aa (.aa (.aa (.sk 21 .nil rfl)))) rfl)) rfl)),rfl,rfl,?_⟩;exact ⟨Nat.zero_le _,rfl⟩
    rintro mm aS _ ⟨i,m,aw,rfl,rfl,⟨hi,hm⟩⟩
    obtain ⟨az,rfl⟩:∃ az:Nat→Value,aS=.slice (some ⟨2,0,none⟩) N cu::zs az 1 2 (.int .i64 m::zs az 4 9 (.slice (some ⟨2,0,none⟩) N cu::.int .i64 N::.int .i64 i::zs az 16 21 [])):=bF aw;clear aw;have kL:m < N:=by rw [hm,he]; exact (J2 C i (by omega)).1 (by omega)
    conv=>whnf
    refine aI (fun h1=>?_) (fun h1=>?_)
    ·have h1:i < N:=by
      have:=of_decide_eq_true h1;omega
     have e7:IntKind.i64.wrap ((i:Int)+1)=((i+1:Nat):Int):=by rw [ax (by omega) (by omega)]; rfl
     obtain ⟨p,cp,rp,pp,sp,qp⟩:=gO (L:=C) (k:=i) (by omega) Da.2
     obtain ⟨q,cq,rq,pq,sq,qq⟩:=gO (L:=C) (k:=m) (by omega) Da.2
     rw [← hE] at rp rq;conv=>whnf
     refine ⟨⟨by omega,by omega⟩,?_⟩
     simp only [toNat_cast,au,Nat.zero_add];conv=>whnf
     refine ⟨by show i < N; omega,?_⟩
     conv=>whnf
     rw [rp];conv=>whnf
     refine .inl ⟨5,[[],[],[],[1,2],[1,2,3],[0,1,2,3,4],[0,1,2,3,4,5]],by kernel_rfl,?_⟩
     conv=>whnf
     refine ⟨⟨by omega,by omega⟩,?_⟩
     simp only [toNat_cast,au,Nat.zero_add];conv=>whnf
     refine ⟨by show m < N; omega,?_⟩
     conv=>whnf
     rw [rq];conv=>whnf
     obtain ⟨z,ez,pz⟩:=dT (fk p.p q.p);refine ⟨(p,q),rfl,⟨PV.aR sp (by decide),PV.aR sq (by decide)⟩,?_⟩
     rw [show oz.val (p,q)=.int .i64 z from ez]
     conv=>whnf
     rw [pp,pq] at pz;have sT:ni C (i+1)=if z < 0 then i else m:=by
      show (if fk (an C i) (an C (ni C i)) < 0 then i else ni C i)=_
      rw [pz,hm]
     refine aI (fun J=>?_) (fun J=>?_)
     ·have J:z < 0:=of_decide_eq_true J;conv=>whnf
      rw [e7];refine .inr ⟨[0,1,2],[0,3,13,14,15],?_⟩;conv=>whnf
      intro _;conv=>whnf
      refine ⟨_,?_,i+1,i,(.aa (.sk 2 (.aa (.sk 9 (.aa (.aa (.aa (.sk 21 .nil rfl)))) rfl)) rfl)),rfl,rfl,?_⟩
      ·omega
      ·exact ⟨by omega,by rw [sT,if_pos J]⟩
     ·have J:¬ z < 0:=of_decide_eq_false J;conv=>whnf
      rw [e7];refine .inr ⟨[0,1,2],[0,3,13,14,15],?_⟩;conv=>whnf
      intro _;conv=>whnf
      refine ⟨_,?_,i+1,m,(.aa (.sk 2 (.aa (.sk 9 (.aa (.aa (.aa (.sk 21 .nil rfl)))) rfl)) rfl)),rfl,rfl,?_⟩
      ·omega
      ·exact ⟨by omega,by rw [sT,if_neg J]⟩
    ·have h1:i=N:=by
      have:=of_decide_eq_false h1;omega
     subst h1;conv=>whnf
     refine .inl ⟨6,[[],[],[0,1],[],[],[3,4],[0,1,2,3,4,5],[0,1,2,3,4,5,6],[0,1,2,3,4,5,6,7]],by kernel_rfl,?_⟩
     conv=>whnf
     refine ⟨⟨by omega,by omega,by omega⟩,?_⟩
     rw [show Int.toNat (i:Int) - Int.toNat (m:Int)=i - m from rfl,show Int.toNat (m:Int)=m from rfl,au,Nat.zero_add]
     conv=>whnf
     refine ⟨⟨by omega,by omega,by omega⟩,?_⟩
     conv=>whnf
     obtain ⟨a,ha⟩:∃ a,a=i - m:=⟨_,rfl⟩;obtain ⟨ca,hca⟩:∃ a,a=tQ cu m:=⟨_,rfl⟩;obtain ⟨cb,hcb⟩:∃ a,a=tQ cu (Int.toNat 0):=⟨_,rfl⟩;rw [← ha,← hca,← hcb,show eJ 0 (Int.toNat 0)=0 from rfl,show Int.toNat (m:Int) - Int.toNat 0=m from rfl,Nat.zero_add]
     have w1:IntKind.i64.wrap (0+(a:Int))=(a:Int):=by rw [ax (by omega) (by omega)]; omega
     have w2:IntKind.i64.wrap ((a:Int)+(m:Int))=(i:Int):=by rw [ax (by omega) (by omega)]; omega
     refine .inr ⟨3,?_⟩;conv=>whnf
     refine ⟨by decide,?_⟩
     conv=>whnf
     rw [w1,show decide ((a:Int) < 0)=false from decide_eq_false (by omega)]
     conv=>whnf
     refine ⟨by decide,?_⟩
     conv=>whnf
     rw [w2,show decide ((i:Int) < 0)=false from decide_eq_false (by omega)]
     conv=>whnf
     have w3:IntKind.i64.wrap ((i:Int) - IntKind.i64.wrap (0 - ((0:Nat):Int)))=(i:Int):=by
      rw [show IntKind.i64.wrap (0 - ((0:Nat):Int))=0 from rfl,ax (by omega) (by omega)]; omega
     rw [w3,show decide ((i:Int) > 0)=true from decide_eq_true (by omega)]
     conv=>whnf
     refine ⟨⟨by omega,by omega,by omega⟩,?_⟩
     conv=>whnf
     refine ⟨⟨by omega,by show (i:Int)*((80:Nat):Int)≤_; omega⟩,?_⟩
     conv=>whnf
     refine ⟨⟨by omega,by omega,by omega⟩,?_⟩
     rw [show (0:Int).toNat=0 from rfl,show eJ 0 0=0 from rfl]
     conv=>whnf
     refine .inr ⟨3,?_⟩;conv=>whnf
     refine ⟨by decide,?_⟩
     conv=>whnf
     refine ⟨by omega,?_⟩
     conv=>whnf
     rw [show Int.toNat (((0:Nat):Int)) - 0=0 from rfl,show (Src.fl a fun j=>E (eJ (0+m) j)).m=a from rfl,Nat.zero_add]
     refine ⟨⟨by decide,⟨Nat.zero_le _,rfl⟩,by show (0+a)*80≤_; omega⟩,?_⟩
     conv=>whnf
     refine ⟨[25,26,27],?_⟩;conv=>whnf
     intro _;conv=>whnf
     refine ⟨by decide,?_⟩
     conv=>whnf
     refine ⟨by omega,?_⟩
     conv=>whnf
     rw [show (Src.fl m fun j=>E (eJ 0 j)).m=m from rfl]
     refine ⟨⟨by decide,⟨Nat.le_refl _,rfl⟩,by show (0+a+m)*80≤_; omega⟩,?_⟩
     conv=>whnf
     refine ⟨[25,26,27],?_⟩;conv=>whnf
     intro _;conv=>whnf
     rw [show 0+a+m=i from by omega]
     have hl:(fu L).length=i:=by rw [hR,AP]; omega
     rw [hK];unfold iF;rw [show e9.new (some (L,c))=some (.flat true i 6 (bS (fu L))) from Wy hl (by omega),show e9.val (some (L,c))=.slice (some ⟨1,0,none⟩) i aJ from (congrArg (ef 1) hl).trans (Wz (by omega))]
     refine ⟨10,?_⟩;conv=>whnf
     refine ⟨⟨rfl,aP.rf (fun h=>h) (fun r hr=>?_) (fun r hr=>rfl)⟩,_,rfl,.refl _⟩
     rw [hR,T0 (L:=C) (fun r hr=>by rw [hE]) (by omega) (by omega) r (by omega),hm,he]
     rfl
open Go Go.Ae
def Jj:Env:=En [(70,.p pE),(34,.p ic),(38,.p gx),(71,.p pR),(39,.p r4)] [(64,b9 mu cG Tryz.f64)] [(118,tN)]
theorem ace:EnvOk Tryz.prog Jj:=bC ⟨L6,FP,wF,Nv,N4,trivial⟩ ⟨wj,trivial⟩
theorem aaT:gw Tryz.prog Jj:=vj ⟨vY,trivial⟩
def Pq:Nat→FT→Nu→FT:=fun l G nu=>b9 { Jj with ys:=[(l,G)],nu:=nu } cG Tryz.f114
theorem YG:zc Tryz.prog 114 Pq:=by
 exact Og ace aK Tryz.func114 (enters_of Tryz.func114 (by kernel_rfl) rfl) (hI:=aaT)
def DH:Env:=En [] [] [(114,Pq)]
theorem acf:EnvOk Tryz.prog DH:=bC trivial trivial
theorem aaU:gw Tryz.prog DH:=vj ⟨YG,trivial⟩
theorem YH:fJ Tryz.prog 113 (b9 DH cG Tryz.f113):=by
 exact iU acf aK Tryz.func113 (enters_of Tryz.func113 (by kernel_rfl) rfl) (hI:=aaU)
def Ez3:Env:=En [] [(113,b9 DH cG Tryz.f113)]
theorem acg:EnvOk Tryz.prog Ez3:=bC trivial ⟨YH,trivial⟩
abbrev hJ:cE:=HO 114
theorem aaV:c7 Tryz.prog 59 hJ:=by
 refine dR acg aK Tryz.func59 (enters_of Tryz.func59 (by kernel_rfl) rfl) ?_ ?_ ?_
 ·intro ⟨i,_⟩ B hb;cases i with
  | none=>simp [hJ,HO,QL.aj] at hb; rcases hb with rfl | rfl | rfl <;> rfl
  | some i=>simp [hJ,HO,QL.aj] at hb; rcases hb with rfl | rfl | rfl | rfl <;> rfl
 ·intro i B hb;exact Bs hb
 intro ⟨i,a,b⟩ hp;have hp:i.list.length≤1073741824∧(∀ v∈i.list,Q2.sz 2048 v)∧a.sz 2048∧b.sz 2048:=hp;obtain ⟨hlen,aT,sa,sb⟩:=hp;have qa:=PV.cj sa (by decide)
 have qb:=PV.cj sb (by decide)
 cases i with
 | none =>
  conv=>whnf
  intro yl nu fn tm df;conv=>whnf
  intro Jk nu2 Qt Qu Qv;conv=>whnf
  refine .inr ⟨1,?_⟩;conv=>whnf
  exact ⟨_,rfl,.refl _⟩
 | some i =>
  obtain ⟨L,c⟩:=i;have hlen:L.length≤1073741824:=hlen;have aT:∀ v∈L,Q2.sz 2048 v:=aT;obtain ⟨n,hn⟩:∃ n,n=L.length:=⟨_,rfl⟩;obtain ⟨g,hg⟩:∃ g,g=bS L:=⟨_,rfl⟩;obtain ⟨K,hK⟩:∃ K,K=iF hJ (some (L,c),(a,b)):=⟨_,rfl⟩;rw [show hJ.aj (some (L,c),(a,b))=[.flat false n 6 g,.aL false 1 [[.slice (some ⟨0,0,none⟩) n c]],.aL false 6 [a.cells],.aL false 6 [b.cells]] from by rw [hn,hg]; rfl,show hJ.args (some (L,c),(a,b))=[.func (.func 114) #[] #[.pointer (some ⟨1,0,none⟩),.pointer (some ⟨2,0,none⟩),.pointer (some ⟨3,0,none⟩)]] from rfl,← hK]
  rw [← hn] at hlen;conv=>whnf
  intro yl nu fn tm df;conv=>whnf
  intro Jk nu2 Qt Qu Qv;conv=>whnf
  refine .inl ⟨fun mm tz hz=>∃ (j:Nat) (O:List Q2) (q:Nat) (F:Nat→List Value),bt (some (.func (.yield Jk) #[] #[])::some (.pointer (some ⟨7,0,none⟩))::aC 3 (some (.slice (some ⟨0,0,none⟩) n c)::some (.int .i64 n)::some (.int .i64 j)::aC 17 [])) tz∧hz=[some (.flat false n 6 g),some (.aL false 1 [[.slice (some ⟨0,0,none⟩) n c]]),some (.aL false 6 [a.cells]),some (.aL false 6 [b.cells]),some (.aL true 1 [[ef 9 q]]),some (.bX (p5 Tryz.f113 fn tm df)),some (.aL true 1 [[.func (.yield yl) #[] #[]]]),some (.aL true 1 [[.slice (some ⟨0,0,none⟩) n c]]),some (.bX (p5 Tryz.f114 Qt Qu Qv))]++zj 6 F q∧n - j=mm∧((j≤n∧q=O.length)∧O=((bd L).take j).flatMap (mR (eg a.p b.p))∧∀ r,r < q→F r=bS O r),.inr ⟨[0,1,2,3,4,5,6,7,8],[0,1,5,6,7],?_⟩,?_⟩
  ·conv=>whnf
   intro _;conv=>whnf
   refine ⟨_,0,[],0,fun _=>[],(.aa (.aa (.sk 3 (.aa (.aa (.aa (.sk 17 .nil rfl)))) rfl))),rfl,rfl,?_⟩
   exact ⟨⟨Nat.zero_le _,rfl⟩,rfl,fun r hr=>absurd hr (Nat.not_lt_zero r)⟩
  rintro mm aS _ ⟨j,O,q,F,aw,rfl,rfl,⟨⟨hj,hq⟩,hO,hF⟩⟩
  obtain ⟨az,rfl⟩:∃ az:Nat→Value,aS=.func (.yield Jk) #[] #[]::.pointer (some ⟨7,0,none⟩)::zs az 2 3 (.slice (some ⟨0,0,none⟩) n c::.int .i64 n::.int .i64 j::zs az 8 17 []):=bF aw;clear aw;have sT:=WA (eg a.p b.p) L j;rw [← hO,← hq] at sT;cases q with
  | zero =>
   obtain rfl:O=[]:=List.eq_nil_of_length_eq_zero hq.symm;conv=>whnf
   refine aI (fun h7=>?_) (fun h7=>?_)
   ·have h7:j < n:=by
     have:=of_decide_eq_true h7;omega
    have e8:IntKind.i64.wrap ((j:Int)+1)=((j+1:Nat):Int):=by rw [ax (by omega) (by omega)]; rfl
    obtain ⟨u,cu,ru,pu,su,qu⟩:=gO (L:=L) (k:=j) (by omega) aT
    obtain ⟨v,cv,rv,pv,sv,qv⟩:=gO (L:=L) (k:=aN n j) (by rw [hn]; exact ck (by omega)) aT
    have cg:=jS h7 (by omega)
    have bZ:=ck h7;have fI:(bd L)[j]?=some (u.p,v.p):=by rw [pu,pv]; rw [hn] at bZ ⊢; exact rh (gk (by omega)) (gk bZ)
    rw [← pu] at cu;obtain ⟨k,hk⟩:∃ u,u=aN n j:=⟨_,rfl⟩;rw [← hk] at cg bZ rv;rw [← hg] at ru rv;conv=>whnf
    refine ⟨⟨by omega,by omega⟩,?_⟩
    simp only [toNat_cast,au,Nat.zero_add];conv=>whnf
    refine ⟨by show j < n; omega,?_⟩
    conv=>whnf
    rw [ru];conv=>whnf
    refine .inl ⟨10,[[],[],[],[],[3],[],[5],[3,4,5,6],[2,3,4,5,6,7],[2,3,4,5,6,7,8],[0,1,2,3,4,5,6,7,8,9],[0,1,2,3,4,5,6,7,8,9,10]],by kernel_rfl,?_⟩
    conv=>whnf
    rw [show decide ((n:Int)≠0)=true from decide_eq_true (by omega)]
    conv=>whnf
    rw [cg];refine ⟨⟨by omega,by omega⟩,?_⟩
    simp only [toNat_cast,au,Nat.zero_add];conv=>whnf
    refine ⟨by show k < n; omega,?_⟩
    conv=>whnf
    rw [rv];conv=>whnf
    refine ⟨rfl,?_⟩;conv=>whnf
    refine ⟨rfl,?_⟩;conv=>whnf
    refine ⟨rfl,?_⟩;conv=>whnf
    refine .inl ⟨10,[[],[],[],[0,1,2],[],[],[],[0,1,2,3,4,5,6],[],[],[0,1,2,3,4,5,6,7,8,9],[0,1,2,3,4,5,6,7,8,9,10]],by kernel_rfl,?_⟩
    conv=>whnf
    obtain ⟨x,ex,px,sx,qx⟩:=gy (xg qa qb qu);refine ⟨(a,b,u),rfl,⟨PV.aR sa (by decide),PV.aR sb (by decide),PV.aR su (by decide)⟩,?_⟩
    rw [show pE.val (a,b,u)=x.v from ex]
    conv=>whnf
    obtain ⟨y,ey,py,sy,qy⟩:=gy (xg qa qb qv);refine ⟨(a,b,v),rfl,⟨PV.aR sa (by decide),PV.aR sb (by decide),PV.aR sv (by decide)⟩,?_⟩
    rw [show pE.val (a,b,v)=y.v from ey]
    conv=>whnf
    obtain ⟨z,ez,pz⟩:=dT (aV x.q 0);refine ⟨x,rfl,RV.bP sx (by decide),?_⟩
    rw [show ic.val x=.int .i64 z from ez]
    conv=>whnf
    have hz:=o5 x.q 0;rw [← pz] at hz;have aq:=LO (w:=bW (atR u.p v.p (x.q / (x.q - y.q)))) fI hO (px.trans (wP _ _ _).symm) (py.trans (wP _ _ _).symm) (gQ _);rw [← pz] at aq;by_cases h8:z ≥ 0
    ·rw [show decide (z ≥ 0)=true from decide_eq_true h8]
     rw [if_pos h8] at aq;conv=>whnf
     refine ⟨rfl,?_⟩;conv=>whnf
     refine ⟨rfl,?_⟩;conv=>whnf
     refine ⟨rfl,?_⟩;conv=>whnf
     refine ⟨by decide,?_⟩
     conv=>whnf
     refine ⟨rfl,?_⟩;conv=>whnf
     refine .inl ⟨3,[[],[0],[],[0,1,2],[0,1,2,3],[0,1,2,3,4]],by kernel_rfl,?_⟩
     conv=>whnf
     obtain ⟨z3,vo,vp⟩:=dT (aV x.q 0);refine ⟨x,rfl,RV.bP sx (by decide),?_⟩
     rw [show ic.val x=.int .i64 z3 from vo]
     conv=>whnf
     obtain ⟨z2,vr,nZ⟩:=dT (aV y.q 0);refine ⟨y,rfl,RV.bP sy (by decide),?_⟩
     rw [show ic.val y=.int .i64 z2 from vr]
     conv=>whnf
     have nc:=o5 y.q 0;rw [← nZ] at nc;obtain rfl:z3=z:=vp.trans pz.symm;rw [show IntKind.i64.wrap (z3*z2)=z3*z2 from by rcases hz with rfl | rfl | rfl <;> rcases nc with rfl | rfl | rfl <;> rfl]
     rw [← nZ] at aq;by_cases h9:z3*z2 < 0
     ·rw [show decide (z3*z2 < 0)=true from decide_eq_true h9]
      rw [if_pos h9] at aq;conv=>whnf
      refine .inr (.inr (.inl ⟨9,1,[[],[],[],[1,2],[0,1,2,3],[0,1,2,3,4],[0,1,2,3,4,5],[0,1,2,3,4,5],[],[0,1,2,3,4,5,6,8],[0,1,2,3,4,5,6,7,8,9]],[7],by kernel_rfl,?_⟩))
      conv=>whnf
      obtain ⟨d2,j9,vt,vv,vw⟩:=gy (QB.sub qx qy);refine ⟨(x,y),rfl,⟨RV.bP sx (by decide),RV.bP sy (by decide)⟩,?_⟩
      rw [show gx.val (x,y)=d2.v from j9]
      conv=>whnf
      obtain ⟨t,et,pt,st,qt⟩:=gy (QB.div qx vw (by decide))
      obtain ⟨e,ee,pe⟩:=dT (if d2.q=0 then 10 else 0)
      refine ⟨(x,d2),rfl,⟨RV.bP sx (by decide),RV.bP vv (by decide)⟩,?_⟩
      rw [show pR.val (x,d2)=.tuple ⟨[t.v,.int .i64 e]⟩ from by rw [← et,← ee]; rfl]
      conv=>whnf
      refine .inl ⟨5,[[],[],[],[],[1,2,3],[0,1,2,3,4],[0,1,2,3,4,5]],by kernel_rfl,?_⟩
      conv=>whnf
      obtain ⟨w,ew,pw,sw,qw⟩:=ky (um qu qv qt);refine ⟨((u,v),t),rfl,⟨⟨PV.aR su (by decide),PV.aR sv (by decide)⟩,RV.aR st (by decide)⟩,?_⟩
      rw [show r4.val ((u,v),t)=w.v from ew]
      conv=>whnf
      have cw:=(PV.iZ ew).symm;rw [← pw] at cw;rw [show (bW (atR u.p v.p (x.q / (x.q - y.q)))).p=w.p from by rw [gQ,pw,pt,vt]] at aq
      refine ⟨rfl,?_⟩;conv=>whnf
      refine ⟨rfl,?_⟩;conv=>whnf
      refine ⟨rfl,?_⟩;conv=>whnf
      refine ⟨⟨rfl,by show (0+1+1)*80≤140737488355328; decide⟩,?_⟩
      conv=>whnf
      refine ⟨rfl,?_⟩;conv=>whnf
      refine ⟨rfl,?_⟩;conv=>whnf
      rw [e8];refine .inr ⟨[0,1,2,3,4,5,6,7,8,54],[0,1,5,6,7],?_⟩;conv=>whnf
      intro _;conv=>whnf
      refine ⟨_,?_,j+1,[u.p]++[w.p],0+1+1,_,(.aa (.aa (.sk 3 (.aa (.aa (.aa (.sk 17 .nil rfl)))) rfl))),rfl,rfl,?_⟩
      ·omega
      ·exact ⟨⟨by omega,rfl⟩,by rw [aq]; rfl,rl (O:=[u.p]) rfl (wh cu rfl) cw rfl⟩
     ·rw [show decide (z3*z2 < 0)=false from decide_eq_false h9]
      rw [if_neg h9] at aq;conv=>whnf
      refine ⟨rfl,?_⟩;conv=>whnf
      rw [e8];refine .inr ⟨[0,1,2,3,4,5,6,7,8,34],[0,1,5,6,7],?_⟩;conv=>whnf
      intro _;conv=>whnf
      refine ⟨_,?_,j+1,[u.p],0+1,_,(.aa (.aa (.sk 3 (.aa (.aa (.aa (.sk 17 .nil rfl)))) rfl))),rfl,rfl,?_⟩
      ·omega
      ·exact ⟨⟨by omega,rfl⟩,by rw [aq]; rfl,wh cu rfl⟩
    ·rw [show decide (z ≥ 0)=false from decide_eq_false h8]
     rw [if_neg h8] at aq;conv=>whnf
     refine .inl ⟨3,[[],[0],[],[0,1,2],[0,1,2,3],[0,1,2,3,4]],by kernel_rfl,?_⟩
     conv=>whnf
     obtain ⟨z3,vo,vp⟩:=dT (aV x.q 0);refine ⟨x,rfl,RV.bP sx (by decide),?_⟩
     rw [show ic.val x=.int .i64 z3 from vo]
     conv=>whnf
     obtain ⟨z2,vr,nZ⟩:=dT (aV y.q 0);refine ⟨y,rfl,RV.bP sy (by decide),?_⟩
     rw [show ic.val y=.int .i64 z2 from vr]
     conv=>whnf
     have nc:=o5 y.q 0;rw [← nZ] at nc;obtain rfl:z3=z:=vp.trans pz.symm;rw [show IntKind.i64.wrap (z3*z2)=z3*z2 from by rcases hz with rfl | rfl | rfl <;> rcases nc with rfl | rfl | rfl <;> rfl]
     rw [← nZ] at aq;by_cases h9:z3*z2 < 0
     ·rw [show decide (z3*z2 < 0)=true from decide_eq_true h9]
      rw [if_pos h9] at aq;conv=>whnf
      refine .inr (.inr (.inl ⟨9,1,[[],[],[],[1,2],[0,1,2,3],[0,1,2,3,4],[0,1,2,3,4,5],[0,1,2,3,4,5],[],[0,1,2,3,4,5,6,8],[0,1,2,3,4,5,6,7,8,9]],[7],by kernel_rfl,?_⟩))
      conv=>whnf
      obtain ⟨d2,j9,vt,vv,vw⟩:=gy (QB.sub qx qy);refine ⟨(x,y),rfl,⟨RV.bP sx (by decide),RV.bP sy (by decide)⟩,?_⟩
      rw [show gx.val (x,y)=d2.v from j9]
      conv=>whnf
      obtain ⟨t,et,pt,st,qt⟩:=gy (QB.div qx vw (by decide))
      obtain ⟨e,ee,pe⟩:=dT (if d2.q=0 then 10 else 0)
      refine ⟨(x,d2),rfl,⟨RV.bP sx (by decide),RV.bP vv (by decide)⟩,?_⟩
      rw [show pR.val (x,d2)=.tuple ⟨[t.v,.int .i64 e]⟩ from by rw [← et,← ee]; rfl]
      conv=>whnf
      refine .inl ⟨5,[[],[],[],[],[1,2,3],[0,1,2,3,4],[0,1,2,3,4,5]],by kernel_rfl,?_⟩
      conv=>whnf
      obtain ⟨w,ew,pw,sw,qw⟩:=ky (um qu qv qt);refine ⟨((u,v),t),rfl,⟨⟨PV.aR su (by decide),PV.aR sv (by decide)⟩,RV.aR st (by decide)⟩,?_⟩
      rw [show r4.val ((u,v),t)=w.v from ew]
      conv=>whnf
      have cw:=(PV.iZ ew).symm;rw [← pw] at cw;rw [show (bW (atR u.p v.p (x.q / (x.q - y.q)))).p=w.p from by rw [gQ,pw,pt,vt]] at aq
      refine ⟨rfl,?_⟩;conv=>whnf
      refine ⟨rfl,?_⟩;conv=>whnf
      refine ⟨rfl,?_⟩;conv=>whnf
      refine ⟨by decide,?_⟩
      conv=>whnf
      refine ⟨rfl,?_⟩;conv=>whnf
      refine ⟨rfl,?_⟩;conv=>whnf
      rw [e8];refine .inr ⟨[0,1,2,3,4,5,6,7,8,51],[0,1,5,6,7],?_⟩;conv=>whnf
      intro _;conv=>whnf
      refine ⟨_,?_,j+1,[w.p],0+1,_,(.aa (.aa (.sk 3 (.aa (.aa (.aa (.sk 17 .nil rfl)))) rfl))),rfl,rfl,?_⟩
      ·omega
      ·exact ⟨⟨by omega,rfl⟩,by rw [aq]; rfl,wh cw rfl⟩
     ·rw [show decide (z3*z2 < 0)=false from decide_eq_false h9]
      rw [if_neg h9] at aq;conv=>whnf
      refine ⟨rfl,?_⟩;conv=>whnf
      rw [e8];refine .inr ⟨[0,1,2,3,4,5,6,7,8],[0,1,5,6,7],?_⟩;conv=>whnf
      intro _;conv=>whnf
      refine ⟨_,?_,j+1,[],0,fun _=>[],(.aa (.aa (.sk 3 (.aa (.aa (.aa (.sk 17 .nil rfl)))) rfl))),rfl,rfl,?_⟩
      ·omega
      ·exact ⟨⟨by omega,rfl⟩,by rw [aq]; rfl,fun r hr=>absurd hr (Nat.not_lt_zero r)⟩
   ·have h7:j=n:=by
     have:=of_decide_eq_false h7;omega
    subst h7;have zu:eY (eg a.p b.p) L=[]:=by rw [hO,hn]; exact (MB _ L).symm
    conv=>whnf
    rw [hK];unfold iF;rw [show hJ.new (some (L,c),(a,b))=none from by show cQ (eY (eg a.p b.p) L)=none; rw [zu]; rfl,show hJ.val (some (L,c),(a,b))=.slice none 0 0 from by show ef _ (eY (eg a.p b.p) L).length=_; rw [zu]; rfl]
    exact ⟨_,rfl,.refl _⟩
  | succ q =>
   conv=>whnf
   refine aI (fun h7=>?_) (fun h7=>?_)
   ·have h7:j < n:=by
     have:=of_decide_eq_true h7;omega
    have e8:IntKind.i64.wrap ((j:Int)+1)=((j+1:Nat):Int):=by rw [ax (by omega) (by omega)]; rfl
    obtain ⟨u,cu,ru,pu,su,qu⟩:=gO (L:=L) (k:=j) (by omega) aT
    obtain ⟨v,cv,rv,pv,sv,qv⟩:=gO (L:=L) (k:=aN n j) (by rw [hn]; exact ck (by omega)) aT
    have cg:=jS h7 (by omega)
    have bZ:=ck h7;have fI:(bd L)[j]?=some (u.p,v.p):=by rw [pu,pv]; rw [hn] at bZ ⊢; exact rh (gk (by omega)) (gk bZ)
    rw [← pu] at cu;obtain ⟨k,hk⟩:∃ u,u=aN n j:=⟨_,rfl⟩;rw [← hk] at cg bZ rv;rw [← hg] at ru rv;conv=>whnf
    refine ⟨⟨by omega,by omega⟩,?_⟩
    simp only [toNat_cast,au,Nat.zero_add];conv=>whnf
    refine ⟨by show j < n; omega,?_⟩
    conv=>whnf
    rw [ru];conv=>whnf
    refine .inl ⟨10,[[],[],[],[],[3],[],[5],[3,4,5,6],[2,3,4,5,6,7],[2,3,4,5,6,7,8],[0,1,2,3,4,5,6,7,8,9],[0,1,2,3,4,5,6,7,8,9,10]],by kernel_rfl,?_⟩
    conv=>whnf
    rw [show decide ((n:Int)≠0)=true from decide_eq_true (by omega)]
    conv=>whnf
    rw [cg];refine ⟨⟨by omega,by omega⟩,?_⟩
    simp only [toNat_cast,au,Nat.zero_add];conv=>whnf
    refine ⟨by show k < n; omega,?_⟩
    conv=>whnf
    rw [rv];conv=>whnf
    refine ⟨rfl,?_⟩;conv=>whnf
    refine ⟨rfl,?_⟩;conv=>whnf
    refine ⟨rfl,?_⟩;conv=>whnf
    refine .inl ⟨10,[[],[],[],[0,1,2],[],[],[],[0,1,2,3,4,5,6],[],[],[0,1,2,3,4,5,6,7,8,9],[0,1,2,3,4,5,6,7,8,9,10]],by kernel_rfl,?_⟩
    conv=>whnf
    obtain ⟨x,ex,px,sx,qx⟩:=gy (xg qa qb qu);refine ⟨(a,b,u),rfl,⟨PV.aR sa (by decide),PV.aR sb (by decide),PV.aR su (by decide)⟩,?_⟩
    rw [show pE.val (a,b,u)=x.v from ex]
    conv=>whnf
    obtain ⟨y,ey,py,sy,qy⟩:=gy (xg qa qb qv);refine ⟨(a,b,v),rfl,⟨PV.aR sa (by decide),PV.aR sb (by decide),PV.aR sv (by decide)⟩,?_⟩
    rw [show pE.val (a,b,v)=y.v from ey]
    conv=>whnf
    obtain ⟨z,ez,pz⟩:=dT (aV x.q 0);refine ⟨x,rfl,RV.bP sx (by decide),?_⟩
    rw [show ic.val x=.int .i64 z from ez]
    conv=>whnf
    have hz:=o5 x.q 0;rw [← pz] at hz;have aq:=LO (w:=bW (atR u.p v.p (x.q / (x.q - y.q)))) fI hO (px.trans (wP _ _ _).symm) (py.trans (wP _ _ _).symm) (gQ _);rw [← pz] at aq;by_cases h8:z ≥ 0
    ·rw [show decide (z ≥ 0)=true from decide_eq_true h8]
     rw [if_pos h8] at aq;conv=>whnf
     refine ⟨rfl,?_⟩;conv=>whnf
     refine ⟨rfl,?_⟩;conv=>whnf
     refine ⟨rfl,?_⟩;conv=>whnf
     refine ⟨⟨rfl,by show (q+1+1)*80≤140737488355328; omega⟩,?_⟩
     conv=>whnf
     refine ⟨rfl,?_⟩;conv=>whnf
     refine .inl ⟨3,[[],[0],[],[0,1,2],[0,1,2,3],[0,1,2,3,4]],by kernel_rfl,?_⟩
     conv=>whnf
     obtain ⟨z3,vo,vp⟩:=dT (aV x.q 0);refine ⟨x,rfl,RV.bP sx (by decide),?_⟩
     rw [show ic.val x=.int .i64 z3 from vo]
     conv=>whnf
     obtain ⟨z2,vr,nZ⟩:=dT (aV y.q 0);refine ⟨y,rfl,RV.bP sy (by decide),?_⟩
     rw [show ic.val y=.int .i64 z2 from vr]
     conv=>whnf
     have nc:=o5 y.q 0;rw [← nZ] at nc;obtain rfl:z3=z:=vp.trans pz.symm;rw [show IntKind.i64.wrap (z3*z2)=z3*z2 from by rcases hz with rfl | rfl | rfl <;> rcases nc with rfl | rfl | rfl <;> rfl]
     rw [← nZ] at aq;by_cases h9:z3*z2 < 0
     ·rw [show decide (z3*z2 < 0)=true from decide_eq_true h9]
      rw [if_pos h9] at aq;conv=>whnf
      refine .inr (.inr (.inl ⟨9,1,[[],[],[],[1,2],[0,1,2,3],[0,1,2,3,4],[0,1,2,3,4,5],[0,1,2,3,4,5],[],[0,1,2,3,4,5,6,8],[0,1,2,3,4,5,6,7,8,9]],[7],by kernel_rfl,?_⟩))
      conv=>whnf
      obtain ⟨d2,j9,vt,vv,vw⟩:=gy (QB.sub qx qy);refine ⟨(x,y),rfl,⟨RV.bP sx (by decide),RV.bP sy (by decide)⟩,?_⟩
      rw [show gx.val (x,y)=d2.v from j9]
      conv=>whnf
      obtain ⟨t,et,pt,st,qt⟩:=gy (QB.div qx vw (by decide))
      obtain ⟨e,ee,pe⟩:=dT (if d2.q=0 then 10 else 0)
      refine ⟨(x,d2),rfl,⟨RV.bP sx (by decide),RV.bP vv (by decide)⟩,?_⟩
      rw [show pR.val (x,d2)=.tuple ⟨[t.v,.int .i64 e]⟩ from by rw [← et,← ee]; rfl]
      conv=>whnf
      refine .inl ⟨5,[[],[],[],[],[1,2,3],[0,1,2,3,4],[0,1,2,3,4,5]],by kernel_rfl,?_⟩
      conv=>whnf
      obtain ⟨w,ew,pw,sw,qw⟩:=ky (um qu qv qt);refine ⟨((u,v),t),rfl,⟨⟨PV.aR su (by decide),PV.aR sv (by decide)⟩,RV.aR st (by decide)⟩,?_⟩
      rw [show r4.val ((u,v),t)=w.v from ew]
      conv=>whnf
      have cw:=(PV.iZ ew).symm;rw [← pw] at cw;rw [show (bW (atR u.p v.p (x.q / (x.q - y.q)))).p=w.p from by rw [gQ,pw,pt,vt]] at aq
      refine ⟨rfl,?_⟩;conv=>whnf
      refine ⟨rfl,?_⟩;conv=>whnf
      refine ⟨rfl,?_⟩;conv=>whnf
      refine ⟨⟨rfl,by show (q+1+1+1)*80≤140737488355328; omega⟩,?_⟩
      conv=>whnf
      refine ⟨rfl,?_⟩;conv=>whnf
      refine ⟨rfl,?_⟩;conv=>whnf
      rw [e8];refine .inr ⟨[0,1,2,3,4,5,6,7,8,55],[0,1,5,6,7],?_⟩;conv=>whnf
      intro _;conv=>whnf
      refine ⟨_,?_,j+1,(O++[u.p])++[w.p],q+1+1+1,_,(.aa (.aa (.sk 3 (.aa (.aa (.aa (.sk 17 .nil rfl)))) rfl))),rfl,rfl,?_⟩
      ·omega
      ·exact ⟨⟨by omega,by rw [List.length_append,List.length_append,← hq]; rfl⟩,by rw [aq]; simp,rl (O:=O++[u.p]) (by rw [List.length_append,← hq]; rfl) (rl hq hF cu rfl) cw rfl⟩
     ·rw [show decide (z3*z2 < 0)=false from decide_eq_false h9]
      rw [if_neg h9] at aq;conv=>whnf
      refine ⟨rfl,?_⟩;conv=>whnf
      rw [e8];refine .inr ⟨[0,1,2,3,4,5,6,7,8,35],[0,1,5,6,7],?_⟩;conv=>whnf
      intro _;conv=>whnf
      refine ⟨_,?_,j+1,O++[u.p],q+1+1,_,(.aa (.aa (.sk 3 (.aa (.aa (.aa (.sk 17 .nil rfl)))) rfl))),rfl,rfl,?_⟩
      ·omega
      ·exact ⟨⟨by omega,by rw [List.length_append,← hq]; rfl⟩,by rw [aq]; simp,rl hq hF cu rfl⟩
    ·rw [show decide (z ≥ 0)=false from decide_eq_false h8]
     rw [if_neg h8] at aq;conv=>whnf
     refine .inl ⟨3,[[],[0],[],[0,1,2],[0,1,2,3],[0,1,2,3,4]],by kernel_rfl,?_⟩
     conv=>whnf
     obtain ⟨z3,vo,vp⟩:=dT (aV x.q 0);refine ⟨x,rfl,RV.bP sx (by decide),?_⟩
     rw [show ic.val x=.int .i64 z3 from vo]
     conv=>whnf
     obtain ⟨z2,vr,nZ⟩:=dT (aV y.q 0);refine ⟨y,rfl,RV.bP sy (by decide),?_⟩
     rw [show ic.val y=.int .i64 z2 from vr]
     conv=>whnf
     have nc:=o5 y.q 0;rw [← nZ] at nc;obtain rfl:z3=z:=vp.trans pz.symm;rw [show IntKind.i64.wrap (z3*z2)=z3*z2 from by rcases hz with rfl | rfl | rfl <;> rcases nc with rfl | rfl | rfl <;> rfl]
     rw [← nZ] at aq;by_cases h9:z3*z2 < 0
     ·rw [show decide (z3*z2 < 0)=true from decide_eq_true h9]
      rw [if_pos h9] at aq;conv=>whnf
      refine .inr (.inr (.inl ⟨9,1,[[],[],[],[1,2],[0,1,2,3],[0,1,2,3,4],[0,1,2,3,4,5],[0,1,2,3,4,5],[],[0,1,2,3,4,5,6,8],[0,1,2,3,4,5,6,7,8,9]],[7],by kernel_rfl,?_⟩))
      conv=>whnf
      obtain ⟨d2,j9,vt,vv,vw⟩:=gy (QB.sub qx qy);refine ⟨(x,y),rfl,⟨RV.bP sx (by decide),RV.bP sy (by decide)⟩,?_⟩
      rw [show gx.val (x,y)=d2.v from j9]
      conv=>whnf
      obtain ⟨t,et,pt,st,qt⟩:=gy (QB.div qx vw (by decide))
      obtain ⟨e,ee,pe⟩:=dT (if d2.q=0 then 10 else 0)
      refine ⟨(x,d2),rfl,⟨RV.bP sx (by decide),RV.bP vv (by decide)⟩,?_⟩
      rw [show pR.val (x,d2)=.tuple ⟨[t.v,.int .i64 e]⟩ from by rw [← et,← ee]; rfl]
      conv=>whnf
      refine .inl ⟨5,[[],[],[],[],[1,2,3],[0,1,2,3,4],[0,1,2,3,4,5]],by kernel_rfl,?_⟩
      conv=>whnf
      obtain ⟨w,ew,pw,sw,qw⟩:=ky (um qu qv qt);refine ⟨((u,v),t),rfl,⟨⟨PV.aR su (by decide),PV.aR sv (by decide)⟩,RV.aR st (by decide)⟩,?_⟩
      rw [show r4.val ((u,v),t)=w.v from ew]
      conv=>whnf
      have cw:=(PV.iZ ew).symm;rw [← pw] at cw;rw [show (bW (atR u.p v.p (x.q / (x.q - y.q)))).p=w.p from by rw [gQ,pw,pt,vt]] at aq
      refine ⟨rfl,?_⟩;conv=>whnf
      refine ⟨rfl,?_⟩;conv=>whnf
      refine ⟨rfl,?_⟩;conv=>whnf
      refine ⟨⟨rfl,by show (q+1+1)*80≤140737488355328; omega⟩,?_⟩
      conv=>whnf
      refine ⟨rfl,?_⟩;conv=>whnf
      refine ⟨rfl,?_⟩;conv=>whnf
      rw [e8];refine .inr ⟨[0,1,2,3,4,5,6,7,8,52],[0,1,5,6,7],?_⟩;conv=>whnf
      intro _;conv=>whnf
      refine ⟨_,?_,j+1,O++[w.p],q+1+1,_,(.aa (.aa (.sk 3 (.aa (.aa (.aa (.sk 17 .nil rfl)))) rfl))),rfl,rfl,?_⟩
      ·omega
      ·exact ⟨⟨by omega,by rw [List.length_append,← hq]; rfl⟩,by rw [aq]; simp,rl hq hF cw rfl⟩
     ·rw [show decide (z3*z2 < 0)=false from decide_eq_false h9]
      rw [if_neg h9] at aq;conv=>whnf
      refine ⟨rfl,?_⟩;conv=>whnf
      rw [e8];refine .inr ⟨[0,1,2,3,4,5,6,7,8,9],[0,1,5,6,7],?_⟩;conv=>whnf
      intro _;conv=>whnf
      refine ⟨_,?_,j+1,O,q+1,F,(.aa (.aa (.sk 3 (.aa (.aa (.aa (.sk 17 .nil rfl)))) rfl))),rfl,rfl,?_⟩
      ·omega
      ·exact ⟨⟨by omega,hq⟩,by rw [aq]; simp,hF⟩
   ·have h7:j=n:=by
     have:=of_decide_eq_false h7;omega
    subst h7;have zu:eY (eg a.p b.p) L=O:=by rw [hO,hn]; exact (MB _ L).symm
    conv=>whnf
    rw [hK];unfold iF;rw [show hJ.new (some (L,c),(a,b))=some (.flat true (q+1) 6 (bS O)) from by show cQ (eY (eg a.p b.p) L)=_; rw [zu]; unfold cQ; rw [← hq],show hJ.val (some (L,c),(a,b))=.slice (some ⟨4,0,none⟩) (q+1) aJ from by show ef _ (eY (eg a.p b.p) L).length=_; rw [zu,← hq]; rfl]
    refine ⟨9,?_⟩;conv=>whnf
    exact ⟨⟨rfl,aP.rf (fun h=>h) hF (fun r hr=>rfl)⟩,_,rfl,.refl _⟩
open Go Go.Ae
theorem YI:fJ Tryz.prog 60 (b9 mu cG Tryz.f60):=by
 exact iU CG aK Tryz.func60 (enters_of Tryz.func60 (by kernel_rfl) rfl)
theorem Ta:fJ Tryz.prog 57 (b9 mu cG Tryz.f57):=by
 exact iU CG aK Tryz.func57 (enters_of Tryz.func57 (by kernel_rfl) rfl)
open Go Go.Ae
def Qw:Env:=En [(23,.q bm),(58,.q e9),(59,.r hJ)] [(60,b9 mu cG Tryz.f60),(57,b9 mu cG Tryz.f57),(64,b9 mu cG Tryz.f64)] [(118,tN)]
theorem ach:EnvOk Tryz.prog Qw:=bC ⟨Bv,YF,aaV,trivial⟩ ⟨YI,Ta,wj,trivial⟩
theorem aaW:gw Tryz.prog Qw:=vj ⟨vY,trivial⟩
theorem VT:c7 Tryz.prog 16 iT:=by
 refine dR ach aK Tryz.func16 (enters_of Tryz.func16 (by kernel_rfl) rfl) ?_ ?_ ?_ (hI:=aaW)
 ·intro ⟨i,k⟩ B hb;cases i <;> cases k <;> simp [iT,PL.aj] at hb
  ·rw [hb]; rfl
  ·rw [hb]; rfl
  ·rcases hb with rfl | rfl <;> rfl
 ·intro i B hb;exact Bs hb
 intro ⟨i,k⟩ hp;have hp:((i.list.length≤1099511627776∧∀ v∈i.list,v.sz 2048)∧k.list.length≤1099511627776∧∀ v∈k.list,v.sz 2048)∧C2 i.list k.list:=hp;obtain ⟨⟨⟨pU,oH⟩,uy,lz⟩,a8⟩:=hp;cases i with
 | none =>
  cases k with
  | none =>
   conv=>whnf
   refine ⟨none,[],rfl,⟨Nat.zero_le _,fun v hv=>nomatch hv⟩,?_⟩
   rw [show bm.aj none=[] from rfl,show bm.val none=.int .i64 4 from rfl,show bm.new none=none from rfl]
   conv=>whnf
   refine ⟨_,rfl,?_⟩;conv=>whnf
   exact ⟨_,rfl,.refl _⟩
  | some k =>
   conv=>whnf
   refine ⟨none,[],rfl,⟨Nat.zero_le _,fun v hv=>nomatch hv⟩,?_⟩
   rw [show bm.aj none=[] from rfl,show bm.val none=.int .i64 4 from rfl,show bm.new none=none from rfl]
   conv=>whnf
   refine ⟨_,rfl,?_⟩;conv=>whnf
   exact ⟨_,rfl,.refl _⟩
 | some i =>
  obtain ⟨A,c⟩:=i;have pU:A.length≤1099511627776:=pU;have oH:∀ v∈A,PV.sz 2048 v:=oH;obtain ⟨na,gg⟩:∃ n,n=A.length:=⟨_,rfl⟩;obtain ⟨ga,kd⟩:∃ g,g=c6 A:=⟨_,rfl⟩;cases k with
  | none =>
   obtain ⟨K,hK⟩:∃ K,K=iF iT (some (A,c),none):=⟨_,rfl⟩;have fin:∀ H:ay,K (.tuple ⟨[.slice none 0 0,.int .i64 1]⟩) H:=fun H=>by
    have h:gI A []=([],1):=Hd fun e=>by have:=e.2; cases this
    rw [hK];unfold iF;rw [show iT.new (some (A,c),none)=none from by show cQ (gI A []).1=none; rw [h]; rfl,show iT.val (some (A,c),none)=.tuple ⟨[.slice none 0 0,.int .i64 1]⟩ from by show Value.tuple ⟨[ef _ (gI A []).1.length,.int .i64 (gI A []).2]⟩=_; rw [h]; rfl]
    exact ⟨_,rfl,.refl _⟩
   rw [show iT.aj (some (A,c),none)=[.flat false na 6 ga] from by rw [gg,kd]; rfl,show iT.args (some (A,c),none)=[.slice (some ⟨0,0,none⟩) na c,.slice none 0 0] from by rw [gg]; rfl,← hK]
   rw [← gg] at pU;conv=>whnf
   refine ⟨some (A,c),[0],by rw [show bm.args (some (A,c))=[.slice (some ⟨0,0,none⟩) na c] from by rw [gg]; rfl]; rfl,⟨by show A.length≤_; omega,oH⟩,?_⟩
   rw [show bm.aj (some (A,c))=[.flat false na 6 ga] from by rw [gg,kd]; rfl,show bm.val (some (A,c))=.int .i64 (bz A) from rfl,show bm.new (some (A,c))=none from rfl]
   conv=>whnf
   refine ⟨aP.aY (fun h=>h) (fun r hr=>by rw [kd]; rfl),?_⟩
   conv=>whnf
   refine ⟨_,rfl,?_⟩;obtain ⟨e,he⟩:∃ z,z=bz A:=⟨_,rfl⟩;rw [← he];conv=>whnf
   by_cases h1:e=0
   ·rw [show (e != 0)=false from by simp [h1]]
    conv=>whnf
    refine ⟨none,[],rfl,⟨Nat.zero_le _,fun v hv=>nomatch hv⟩,?_⟩
    rw [show bm.aj none=[] from rfl,show bm.val none=.int .i64 4 from rfl,show bm.new none=none from rfl]
    conv=>whnf
    refine ⟨_,rfl,?_⟩;conv=>whnf
    exact fin _
   ·rw [show (e != 0)=true from by simp [h1]]
    conv=>whnf
    exact fin _
  | some k =>
   obtain ⟨B,d⟩:=k;have uy:B.length≤1099511627776:=uy;have lz:∀ v∈B,PV.sz 2048 v:=lz;have a8:C2 A B:=a8;obtain ⟨nb,gf⟩:∃ n,n=B.length:=⟨_,rfl⟩;obtain ⟨gb,nf⟩:∃ g,g=c6 B:=⟨_,rfl⟩;obtain ⟨K,hK⟩:∃ K,K=iF iT (some (A,c),some (B,d)):=⟨_,rfl⟩;have ss:∀ (e:Int) (H:ay),gI A B=([],e)→K (.tuple ⟨[.slice none 0 0,.int .i64 e]⟩) H:=fun e H h=>by
    rw [hK];unfold iF;rw [show iT.new (some (A,c),some (B,d))=none from by show cQ (gI A B).1=none; rw [h]; rfl,show iT.val (some (A,c),some (B,d))=.tuple ⟨[.slice none 0 0,.int .i64 e]⟩ from by show Value.tuple ⟨[ef _ (gI A B).1.length,.int .i64 (gI A B).2]⟩=_; rw [h]; rfl]
    exact ⟨_,rfl,.refl _⟩
   rw [show iT.aj (some (A,c),some (B,d))=[.flat false na 6 ga,.flat false nb 6 gb] from by rw [gg,kd,gf,nf]; rfl,show iT.args (some (A,c),some (B,d))=[.slice (some ⟨0,0,none⟩) na c,.slice (some ⟨1,0,none⟩) nb d] from by rw [gg,gf]; rfl,← hK]
   rw [← gg] at pU;rw [← gf] at uy;conv=>whnf
   refine ⟨some (A,c),[0],by rw [show bm.args (some (A,c))=[.slice (some ⟨0,0,none⟩) na c] from by rw [gg]; rfl]; rfl,⟨by show A.length≤_; omega,oH⟩,?_⟩
   rw [show bm.aj (some (A,c))=[.flat false na 6 ga] from by rw [gg,kd]; rfl,show bm.val (some (A,c))=.int .i64 (bz A) from rfl,show bm.new (some (A,c))=none from rfl]
   conv=>whnf
   refine ⟨aP.aY (fun h=>h) (fun r hr=>by rw [kd]; rfl),?_⟩
   conv=>whnf
   refine ⟨_,rfl,?_⟩;obtain ⟨e,he⟩:∃ z,z=bz A:=⟨_,rfl⟩;rw [← he];conv=>whnf
   by_cases h1:e=0
   ·rw [show (e != 0)=false from by simp [h1]]
    conv=>whnf
    refine ⟨some (B,d),[1],by rw [show bm.args (some (B,d))=[.slice (some ⟨0,0,none⟩) nb d] from by rw [gf]; rfl]; rfl,⟨by show B.length≤_; omega,lz⟩,?_⟩
    rw [show bm.aj (some (B,d))=[.flat false nb 6 gb] from by rw [gf,nf]; rfl,show bm.val (some (B,d))=.int .i64 (bz B) from rfl,show bm.new (some (B,d))=none from rfl]
    conv=>whnf
    refine ⟨aP.aY (fun h=>h) (fun r hr=>by rw [nf]; rfl),?_⟩
    conv=>whnf
    refine ⟨_,rfl,?_⟩;obtain ⟨e2,cA⟩:∃ z,z=bz B:=⟨_,rfl⟩;rw [← cA];conv=>whnf
    by_cases J:e2=0
    ·rw [show (e2 != 0)=false from by simp [J]]
     have An:bz A=0:=by rw [← he]; exact h1
     have DJ:bz B=0:=by rw [← cA]; exact J
     have a8:=a8 An DJ;have hzA:=o9 An;have hzB:=o9 DJ;have Jl:ga=bS (aU A):=by rw [FL An,kd]
     have hnA:na=(aU A).length:=by rw [c4,gg]
     conv=>whnf
     intro yl nu fn tm df;conv=>whnf
     refine .inl ⟨fun mm tz hz=>∃ (j:Nat) (p:Nat) (F:Nat→List Value),bt (some (.func (.yield yl) #[] #[])::some (.pointer (some ⟨3,0,none⟩))::aC 3 (some (.slice (some ⟨1,0,none⟩) nb d)::some (.int .i64 nb)::some (.int .i64 j)::aC 17 [])) tz∧hz=[some (.flat false na 6 ga),some (.flat false nb 6 gb),some (.aL true 1 [[ado (.slice (some ⟨0,0,none⟩) na c) p j]]),some (.aL true 1 [[.slice (some ⟨1,0,none⟩) nb d]]),some (.bX (p5 Tryz.f16 fn tm df))]++adp F p j∧nb - j=mm∧((j≤nb∧(0 < j→p=(iS (aU A) (aU B) j).length))∧(0 < j→∀ r,r < p→F r=bS (iS (aU A) (aU B) j) r)),.inr ⟨[0,1,2,3,4],[0,1,5,6,7],?_⟩,?_⟩
     ·conv=>whnf
      intro _;conv=>whnf
      refine ⟨_,0,0,fun _=>[],(.aa (.aa (.sk 3 (.aa (.aa (.aa (.sk 17 .nil rfl)))) rfl))),rfl,rfl,?_⟩
      exact ⟨⟨Nat.zero_le _,fun h=>absurd h (Nat.lt_irrefl 0)⟩,fun h=>absurd h (Nat.lt_irrefl 0)⟩
     rintro mm aS _ ⟨j,p,F,aw,rfl,rfl,⟨⟨hj,vh⟩,hF⟩⟩
     obtain ⟨az,rfl⟩:∃ az:Nat→Value,aS=.func (.yield yl) #[] #[]::.pointer (some ⟨3,0,none⟩)::zs az 2 3 (.slice (some ⟨1,0,none⟩) nb d::.int .i64 nb::.int .i64 j::zs az 8 17 []):=bF aw;clear aw;cases j with
     | zero =>
      conv=>whnf
      refine aI (fun h3=>?_) (fun h3=>?_)
      ·have h3:0 < nb:=by
        have:=of_decide_eq_true h3;omega
       have e7:IntKind.i64.wrap (((0:Nat):Int)+1)=((0+1:Nat):Int):=by rw [ax (by omega) (by omega)]; rfl
       obtain ⟨a,b,ra,rb,⟨ma,mb⟩,fI,bZ,_,_⟩:=pf gf h3;have sa:=lz a ma;have sb:=lz b mb;have cg:=jS h3 (by omega)
       obtain ⟨u,hu⟩:∃ u,u=aN nb (0):=⟨_,rfl⟩;rw [← hu] at cg bZ rb;rw [← nf] at ra rb;obtain ⟨vx,vy⟩:=a8 (0) (by rw [c4]; omega)
       have hf:=FM (a:=a.p) (b:=b.p) vx vy (PV.cj sa (by decide)) (PV.cj sb (by decide))
       obtain ⟨C,hC⟩:∃ C,C=eY (eg a.p b.p) (iS (aU A) (aU B) (0)):=⟨_,rfl⟩;obtain ⟨R,hR⟩:∃ R,R=fu C:=⟨_,rfl⟩;have ny:=EF fI hC hR;obtain ⟨m,hm⟩:∃ m,m=C.length:=⟨_,rfl⟩;obtain ⟨q,hq⟩:∃ m,m=R.length:=⟨_,rfl⟩;conv=>whnf
       refine ⟨⟨by omega,by omega⟩,?_⟩
       simp only [toNat_cast,au,Nat.zero_add];conv=>whnf
       refine ⟨by show 0 < nb; omega,?_⟩
       conv=>whnf
       rw [ra];conv=>whnf
       refine .inl ⟨10,[[],[],[],[],[3],[],[5],[3,4,5,6],[2,3,4,5,6,7],[2,3,4,5,6,7,8],[0,1,2,3,4,5,6,7,8,9],[0,1,2,3,4,5,6,7,8,9,10]],by kernel_rfl,?_⟩
       conv=>whnf
       rw [show decide ((nb:Int)≠0)=true from decide_eq_true (by omega)]
       conv=>whnf
       rw [cg];refine ⟨⟨by omega,by omega⟩,?_⟩
       simp only [toNat_cast,au,Nat.zero_add];conv=>whnf
       refine ⟨by show u < nb; omega,?_⟩
       conv=>whnf
       rw [rb];conv=>whnf
       refine ⟨rfl,?_⟩;conv=>whnf
       refine ⟨rfl,?_⟩;conv=>whnf
       refine ⟨rfl,?_⟩;conv=>whnf
       refine ⟨(some (aU A,c),(a,b)),[0,18,19,20],rfl,⟨vx,vy,sa,sb⟩,?_⟩;rw [show hJ.aj (some (aU A,c),(a,b))=[.flat false na 6 ga,.aL false 1 [[.slice (some ⟨0,0,none⟩) na c]],.aL false 6 [a.cells],.aL false 6 [b.cells]] from by rw [hnA,Jl]; rfl,show hJ.val (some (aU A,c),(a,b))=ef 4 m from by rw [hm,hC]; rfl]
       rw [show hJ.new (some (aU A,c),(a,b))=cQ C from by rw [hC]; rfl]
       cases m with
       | zero =>
        obtain rfl:C=[]:=List.eq_nil_of_length_eq_zero hm.symm;conv=>whnf
        refine ⟨.inl (aP.aY (fun h=>h) (fun r hr=>by rw [Jl]; rfl)),?_⟩
        conv=>whnf
        refine ⟨.inr ⟨_,_,_,_,rfl,rfl,rfl⟩,?_⟩;conv=>whnf
        refine ⟨.inr ⟨_,_,_,_,rfl,rfl,rfl⟩,?_⟩;conv=>whnf
        refine ⟨.inr ⟨_,_,_,_,rfl,rfl,rfl⟩,?_⟩;conv=>whnf
        refine ⟨_,rfl,?_⟩;conv=>whnf
        refine ⟨none,[],rfl,⟨Nat.zero_le _,fun v hv=>nomatch hv⟩,?_⟩
        rw [show e9.aj none=[] from rfl,show e9.val none=.slice none 0 0 from rfl,show e9.new none=none from rfl]
        conv=>whnf
        refine ⟨_,rfl,?_⟩;conv=>whnf
        rw [show fu []=[] from rfl] at hR
        subst hR;refine ⟨rfl,?_⟩;conv=>whnf
        rw [e7];refine .inr ⟨[0,1,2,3,4],[0,1,5,6,7],?_⟩;conv=>whnf
        intro _;conv=>whnf
        refine ⟨_,?_,0+1,0,fun _=>[],(.aa (.aa (.sk 3 (.aa (.aa (.aa (.sk 17 .nil rfl)))) rfl))),rfl,rfl,?_⟩
        ·omega
        ·exact ⟨⟨by omega,fun _=>congrArg List.length ny⟩,fun _ r hr=>absurd hr (Nat.not_lt_zero r)⟩
       | succ m =>
        rw [show cQ C=some (.flat true (m+1) 6 (bS C)) from by unfold cQ; rw [← hm]]
        conv=>whnf
        refine ⟨.inl (aP.aY (fun h=>h) (fun r hr=>by rw [Jl]; rfl)),?_⟩
        conv=>whnf
        refine ⟨.inr ⟨_,_,_,_,rfl,rfl,rfl⟩,?_⟩;conv=>whnf
        refine ⟨.inr ⟨_,_,_,_,rfl,rfl,rfl⟩,?_⟩;conv=>whnf
        refine ⟨.inr ⟨_,_,_,_,rfl,rfl,rfl⟩,?_⟩;conv=>whnf
        refine ⟨_,rfl,?_⟩;conv=>whnf
        refine ⟨some (C,aJ),[21],by rw [show e9.args (some (C,aJ))=[.slice (some ⟨0,0,none⟩) (m+1) aJ] from by rw [hm]; rfl]; rfl,⟨by rw [hC]; exact hf.1,fun v hv=>hf.2 v (by rw [← hC]; exact hv)⟩,?_⟩
        obtain ⟨G,hG⟩:∃ G,G=bS C:=⟨_,rfl⟩;rw [← hG,show e9.aj (some (C,aJ))=[.flat false (m+1) 6 G] from by rw [hm,hG]; rfl,show e9.val (some (C,aJ))=ef 1 q from by rw [hq,hR]; rfl,show e9.new (some (C,aJ))=cQ R from by rw [hR]; rfl]
        cases q with
        | zero =>
         obtain rfl:R=[]:=List.eq_nil_of_length_eq_zero hq.symm;conv=>whnf
         refine ⟨aP.aY (fun h=>by cases h) (fun r hr=>by rw [hG]; rfl),?_⟩
         conv=>whnf
         refine ⟨_,rfl,?_⟩;conv=>whnf
         refine ⟨rfl,?_⟩;conv=>whnf
         rw [e7];refine .inr ⟨[0,1,2,3,4],[0,1,5,6,7],?_⟩;conv=>whnf
         intro _;conv=>whnf
         refine ⟨_,?_,0+1,0,fun _=>[],(.aa (.aa (.sk 3 (.aa (.aa (.aa (.sk 17 .nil rfl)))) rfl))),rfl,rfl,?_⟩
         ·omega
         ·exact ⟨⟨by omega,fun _=>congrArg List.length ny⟩,fun _ r hr=>absurd hr (Nat.not_lt_zero r)⟩
        | succ q =>
         obtain ⟨E,hE⟩:∃ G,G=bS R:=⟨_,rfl⟩;rw [show cQ R=some (.flat true (q+1) 6 E) from by unfold cQ; rw [← hq,hE]]
         conv=>whnf
         refine ⟨aP.aY (fun h=>by cases h) (fun r hr=>by rw [hG]; rfl),?_⟩
         conv=>whnf
         refine ⟨_,rfl,?_⟩;conv=>whnf
         refine ⟨rfl,?_⟩;conv=>whnf
         rw [e7];refine .inr ⟨[0,1,2,3,4,22],[0,1,5,6,7],?_⟩;conv=>whnf
         intro _;conv=>whnf
         refine ⟨_,?_,0+1,q+1,E,(.aa (.aa (.sk 3 (.aa (.aa (.aa (.sk 17 .nil rfl)))) rfl))),rfl,rfl,?_⟩
         ·omega
         ·exact ⟨⟨by omega,fun _=>hq.trans (congrArg List.length ny)⟩,fun _ r hr=>by rw [hE,ny]⟩
      ·have:=of_decide_eq_false h3;omega
     | succ j =>
      have m6:=vh (Nat.succ_pos j);have DK:=hF (Nat.succ_pos j);obtain ⟨S,hS⟩:∃ S,S=iS (aU A) (aU B) (j+1):=⟨_,rfl⟩;rw [← hS] at m6 DK;cases p with
      | zero =>
       obtain rfl:S=[]:=List.eq_nil_of_length_eq_zero m6.symm;conv=>whnf
       refine aI (fun h3=>?_) (fun h3=>?_)
       ·have h3:(j+1) < nb:=by
         have:=of_decide_eq_true h3;omega
        have e7:IntKind.i64.wrap ((((j+1):Nat):Int)+1)=(((j+1)+1:Nat):Int):=by rw [ax (by omega) (by omega)]; rfl
        obtain ⟨a,b,ra,rb,⟨ma,mb⟩,fI,bZ,_,_⟩:=pf gf h3;have sa:=lz a ma;have sb:=lz b mb;have cg:=jS h3 (by omega)
        obtain ⟨u,hu⟩:∃ u,u=aN nb ((j+1)):=⟨_,rfl⟩;rw [← hu] at cg bZ rb;rw [← nf] at ra rb;obtain ⟨vx,vy⟩:=a8 ((j+1)) (by rw [c4]; omega)
        have hf:=FM (a:=a.p) (b:=b.p) vx vy (PV.cj sa (by decide)) (PV.cj sb (by decide))
        obtain ⟨C,hC⟩:∃ C,C=eY (eg a.p b.p) (iS (aU A) (aU B) ((j+1))):=⟨_,rfl⟩;obtain ⟨R,hR⟩:∃ R,R=fu C:=⟨_,rfl⟩;have ny:=EF fI hC hR;obtain ⟨m,hm⟩:∃ m,m=C.length:=⟨_,rfl⟩;obtain ⟨q,hq⟩:∃ m,m=R.length:=⟨_,rfl⟩;conv=>whnf
        refine ⟨⟨by omega,by omega⟩,?_⟩
        simp only [toNat_cast,au,Nat.zero_add];conv=>whnf
        refine ⟨by show (j+1) < nb; omega,?_⟩
        conv=>whnf
        rw [ra];conv=>whnf
        refine .inl ⟨10,[[],[],[],[],[3],[],[5],[3,4,5,6],[2,3,4,5,6,7],[2,3,4,5,6,7,8],[0,1,2,3,4,5,6,7,8,9],[0,1,2,3,4,5,6,7,8,9,10]],by kernel_rfl,?_⟩
        conv=>whnf
        rw [show decide ((nb:Int)≠0)=true from decide_eq_true (by omega)]
        conv=>whnf
        rw [cg];refine ⟨⟨by omega,by omega⟩,?_⟩
        simp only [toNat_cast,au,Nat.zero_add];conv=>whnf
        refine ⟨by show u < nb; omega,?_⟩
        conv=>whnf
        rw [rb];conv=>whnf
        refine ⟨rfl,?_⟩;conv=>whnf
        refine ⟨rfl,?_⟩;conv=>whnf
        refine ⟨rfl,?_⟩;conv=>whnf
        refine ⟨(none,(a,b)),[18,19,20],rfl,⟨Nat.zero_le _,(fun v hv=>nomatch hv),sa,sb⟩,?_⟩
        rw [show hJ.aj (none,(a,b))=[.aL false 1 [[.slice none 0 0]],.aL false 6 [a.cells],.aL false 6 [b.cells]] from rfl,show hJ.val (none,(a,b))=.slice none 0 0 from rfl,show hJ.new (none,(a,b))=none from rfl]
        conv=>whnf
        refine ⟨.inr ⟨_,_,_,_,rfl,rfl,rfl⟩,?_⟩;conv=>whnf
        refine ⟨.inr ⟨_,_,_,_,rfl,rfl,rfl⟩,?_⟩;conv=>whnf
        refine ⟨.inr ⟨_,_,_,_,rfl,rfl,rfl⟩,?_⟩;conv=>whnf
        refine ⟨_,rfl,?_⟩;conv=>whnf
        refine ⟨none,[],rfl,⟨Nat.zero_le _,fun v hv=>nomatch hv⟩,?_⟩
        rw [show e9.aj none=[] from rfl,show e9.val none=.slice none 0 0 from rfl,show e9.new none=none from rfl]
        conv=>whnf
        refine ⟨_,rfl,?_⟩;conv=>whnf
        obtain rfl:C=[]:=by rw [hC,← hS]; rfl
        rw [show fu []=[] from rfl] at hR
        subst hR;refine ⟨rfl,?_⟩;conv=>whnf
        rw [e7];refine .inr ⟨[0,1,2,3,4],[0,1,5,6,7],?_⟩;conv=>whnf
        intro _;conv=>whnf
        refine ⟨_,?_,(j+1)+1,0,fun _=>[],(.aa (.aa (.sk 3 (.aa (.aa (.aa (.sk 17 .nil rfl)))) rfl))),rfl,rfl,?_⟩
        ·omega
        ·exact ⟨⟨by omega,fun _=>congrArg List.length ny⟩,fun _ r hr=>absurd hr (Nat.not_lt_zero r)⟩
       ·have h3:j+1=nb:=by
         have:=of_decide_eq_false h3;omega
        conv=>whnf
        exact ss 11 _ ((N0 ⟨An,DJ⟩ (R:=[]) (by rw [← gf,← h3]; exact hS)).trans (WC rfl))
      | succ p =>
       conv=>whnf
       refine aI (fun h3=>?_) (fun h3=>?_)
       ·have h3:(j+1) < nb:=by
         have:=of_decide_eq_true h3;omega
        have e7:IntKind.i64.wrap ((((j+1):Nat):Int)+1)=(((j+1)+1:Nat):Int):=by rw [ax (by omega) (by omega)]; rfl
        obtain ⟨a,b,ra,rb,⟨ma,mb⟩,fI,bZ,_,_⟩:=pf gf h3;have sa:=lz a ma;have sb:=lz b mb;have cg:=jS h3 (by omega)
        obtain ⟨u,hu⟩:∃ u,u=aN nb ((j+1)):=⟨_,rfl⟩;rw [← hu] at cg bZ rb;rw [← nf] at ra rb;obtain ⟨vx,vy⟩:=a8 ((j+1)) (by rw [c4]; omega)
        have hf:=FM (a:=a.p) (b:=b.p) vx vy (PV.cj sa (by decide)) (PV.cj sb (by decide))
        obtain ⟨C,hC⟩:∃ C,C=eY (eg a.p b.p) (iS (aU A) (aU B) ((j+1))):=⟨_,rfl⟩;obtain ⟨R,hR⟩:∃ R,R=fu C:=⟨_,rfl⟩;have ny:=EF fI hC hR;obtain ⟨m,hm⟩:∃ m,m=C.length:=⟨_,rfl⟩;obtain ⟨q,hq⟩:∃ m,m=R.length:=⟨_,rfl⟩;conv=>whnf
        refine ⟨⟨by omega,by omega⟩,?_⟩
        simp only [toNat_cast,au,Nat.zero_add];conv=>whnf
        refine ⟨by show (j+1) < nb; omega,?_⟩
        conv=>whnf
        rw [ra];conv=>whnf
        refine .inl ⟨10,[[],[],[],[],[3],[],[5],[3,4,5,6],[2,3,4,5,6,7],[2,3,4,5,6,7,8],[0,1,2,3,4,5,6,7,8,9],[0,1,2,3,4,5,6,7,8,9,10]],by kernel_rfl,?_⟩
        conv=>whnf
        rw [show decide ((nb:Int)≠0)=true from decide_eq_true (by omega)]
        conv=>whnf
        rw [cg];refine ⟨⟨by omega,by omega⟩,?_⟩
        simp only [toNat_cast,au,Nat.zero_add];conv=>whnf
        refine ⟨by show u < nb; omega,?_⟩
        conv=>whnf
        rw [rb];conv=>whnf
        refine ⟨rfl,?_⟩;conv=>whnf
        refine ⟨rfl,?_⟩;conv=>whnf
        refine ⟨rfl,?_⟩;conv=>whnf
        refine ⟨(some (S,aJ),(a,b)),[5,19,20,21],by rw [show hJ.args (some (S,aJ),(a,b))=[.func (.func 114) #[] #[.pointer (some ⟨1,0,none⟩),.pointer (some ⟨2,0,none⟩),.pointer (some ⟨3,0,none⟩)]] from rfl]; rfl,⟨by rw [hS]; exact vx,by rw [hS]; exact vy,sa,sb⟩,?_⟩
        rw [show hJ.aj (some (S,aJ),(a,b))=[.flat false (p+1) 6 (bS S),.aL false 1 [[.slice (some ⟨0,0,none⟩) (p+1) aJ]],.aL false 6 [a.cells],.aL false 6 [b.cells]] from by rw [m6]; rfl,show hJ.val (some (S,aJ),(a,b))=ef 4 m from by rw [hm,hC,← hS]; rfl]
        rw [show hJ.new (some (S,aJ),(a,b))=cQ C from by rw [hC,← hS]; rfl]
        cases m with
        | zero =>
         obtain rfl:C=[]:=List.eq_nil_of_length_eq_zero hm.symm;conv=>whnf
         refine ⟨.inl (aP.rf (fun h=>by cases h) DK (fun r hr=>rfl)),?_⟩
         conv=>whnf
         refine ⟨.inr ⟨_,_,_,_,rfl,rfl,rfl⟩,?_⟩;conv=>whnf
         refine ⟨.inr ⟨_,_,_,_,rfl,rfl,rfl⟩,?_⟩;conv=>whnf
         refine ⟨.inr ⟨_,_,_,_,rfl,rfl,rfl⟩,?_⟩;conv=>whnf
         refine ⟨_,rfl,?_⟩;conv=>whnf
         refine ⟨none,[],rfl,⟨Nat.zero_le _,fun v hv=>nomatch hv⟩,?_⟩
         rw [show e9.aj none=[] from rfl,show e9.val none=.slice none 0 0 from rfl,show e9.new none=none from rfl]
         conv=>whnf
         refine ⟨_,rfl,?_⟩;conv=>whnf
         rw [show fu []=[] from rfl] at hR
         subst hR;refine ⟨rfl,?_⟩;conv=>whnf
         rw [e7];refine .inr ⟨[0,1,2,3,4],[0,1,5,6,7],?_⟩;conv=>whnf
         intro _;conv=>whnf
         refine ⟨_,?_,(j+1)+1,0,fun _=>[],(.aa (.aa (.sk 3 (.aa (.aa (.aa (.sk 17 .nil rfl)))) rfl))),rfl,rfl,?_⟩
         ·omega
         ·exact ⟨⟨by omega,fun _=>congrArg List.length ny⟩,fun _ r hr=>absurd hr (Nat.not_lt_zero r)⟩
        | succ m =>
         rw [show cQ C=some (.flat true (m+1) 6 (bS C)) from by unfold cQ; rw [← hm]]
         conv=>whnf
         refine ⟨.inl (aP.rf (fun h=>by cases h) DK (fun r hr=>rfl)),?_⟩
         conv=>whnf
         refine ⟨.inr ⟨_,_,_,_,rfl,rfl,rfl⟩,?_⟩;conv=>whnf
         refine ⟨.inr ⟨_,_,_,_,rfl,rfl,rfl⟩,?_⟩;conv=>whnf
         refine ⟨.inr ⟨_,_,_,_,rfl,rfl,rfl⟩,?_⟩;conv=>whnf
         refine ⟨_,rfl,?_⟩;conv=>whnf
         refine ⟨some (C,aJ),[22],by rw [show e9.args (some (C,aJ))=[.slice (some ⟨0,0,none⟩) (m+1) aJ] from by rw [hm]; rfl]; rfl,⟨by rw [hC]; exact hf.1,fun v hv=>hf.2 v (by rw [← hC]; exact hv)⟩,?_⟩
         obtain ⟨G,hG⟩:∃ G,G=bS C:=⟨_,rfl⟩;rw [← hG,show e9.aj (some (C,aJ))=[.flat false (m+1) 6 G] from by rw [hm,hG]; rfl,show e9.val (some (C,aJ))=ef 1 q from by rw [hq,hR]; rfl,show e9.new (some (C,aJ))=cQ R from by rw [hR]; rfl]
         cases q with
         | zero =>
          obtain rfl:R=[]:=List.eq_nil_of_length_eq_zero hq.symm;conv=>whnf
          refine ⟨aP.aY (fun h=>by cases h) (fun r hr=>by rw [hG]; rfl),?_⟩
          conv=>whnf
          refine ⟨_,rfl,?_⟩;conv=>whnf
          refine ⟨rfl,?_⟩;conv=>whnf
          rw [e7];refine .inr ⟨[0,1,2,3,4],[0,1,5,6,7],?_⟩;conv=>whnf
          intro _;conv=>whnf
          refine ⟨_,?_,(j+1)+1,0,fun _=>[],(.aa (.aa (.sk 3 (.aa (.aa (.aa (.sk 17 .nil rfl)))) rfl))),rfl,rfl,?_⟩
          ·omega
          ·exact ⟨⟨by omega,fun _=>congrArg List.length ny⟩,fun _ r hr=>absurd hr (Nat.not_lt_zero r)⟩
         | succ q =>
          obtain ⟨E,hE⟩:∃ G,G=bS R:=⟨_,rfl⟩;rw [show cQ R=some (.flat true (q+1) 6 E) from by unfold cQ; rw [← hq,hE]]
          conv=>whnf
          refine ⟨aP.aY (fun h=>by cases h) (fun r hr=>by rw [hG]; rfl),?_⟩
          conv=>whnf
          refine ⟨_,rfl,?_⟩;conv=>whnf
          refine ⟨rfl,?_⟩;conv=>whnf
          rw [e7];refine .inr ⟨[0,1,2,3,4,23],[0,1,5,6,7],?_⟩;conv=>whnf
          intro _;conv=>whnf
          refine ⟨_,?_,(j+1)+1,q+1,E,(.aa (.aa (.sk 3 (.aa (.aa (.aa (.sk 17 .nil rfl)))) rfl))),rfl,rfl,?_⟩
          ·omega
          ·exact ⟨⟨by omega,fun _=>hq.trans (congrArg List.length ny)⟩,fun _ r hr=>by rw [hE,ny]⟩
       ·have h3:j+1=nb:=by
         have:=of_decide_eq_false h3;omega
        have hv:=N0 ⟨An,DJ⟩ (R:=S) (by rw [← gf,← h3]; exact hS)
        conv=>whnf
        by_cases h6:64 < p+1
        ·rw [show decide (((p+1:Nat):Int) > 64)=true from decide_eq_true (by omega)]
         conv=>whnf
         exact ss 4 _ (hv.trans (WD (by omega)))
        ·rw [show decide (((p+1:Nat):Int) > 64)=false from decide_eq_false (by omega)]
         conv=>whnf
         rw [hK];unfold iF;rw [NZ (by omega) (by omega)] at hv
         rw [show iT.new (some (A,c),some (B,d))=some (.flat true (p+1) 6 (bS S)) from by show cQ (gI A B).1=_; rw [hv]; unfold cQ; rw [← m6],show iT.val (some (A,c),some (B,d))=.tuple ⟨[.slice (some ⟨2,0,none⟩) (p+1) aJ,.int .i64 0]⟩ from by show Value.tuple ⟨[ef _ (gI A B).1.length,.int .i64 (gI A B).2]⟩=_; rw [hv,← m6]; rfl]
         refine ⟨5,?_⟩;conv=>whnf
         exact ⟨⟨rfl,aP.rf (fun h=>h) DK (fun r hr=>rfl)⟩,_,rfl,.refl _⟩
    ·rw [show (e2 != 0)=true from by simp [J]]
     conv=>whnf
     exact ss 1 _ (Hd fun h=>J (by rw [cA]; exact h.2))
   ·rw [show (e != 0)=true from by simp [h1]]
    conv=>whnf
    exact ss 1 _ (Hd fun h=>h1 (by rw [he]; exact h.1))
open Go Go.Ae
theorem YJ:bc Tryz.prog 101 (qf true):=by
 refine bf pT aK Tryz.func101 (enters_of Tryz.func101 (by kernel_rfl) rfl) (fun _=>rfl) (fun _=>rfl) ?_
 intro (z:Int) hp;conv=>whnf
 rfl
theorem YK:bc Tryz.prog 103 (qf false):=by
 refine bf pT aK Tryz.func103 (enters_of Tryz.func103 (by kernel_rfl) rfl) (fun _=>rfl) (fun _=>rfl) ?_
 intro (z:Int) hp;conv=>whnf
 rfl
theorem YL:bc Tryz.prog 105 (qf true):=by
 refine bf pT aK Tryz.func105 (enters_of Tryz.func105 (by kernel_rfl) rfl) (fun _=>rfl) (fun _=>rfl) ?_
 intro (z:Int) hp;conv=>whnf
 rfl
def Jm:Env:=En [(32,.p kj),(101,.p (qf true)),(103,.p (qf false)),(105,.p (qf true))]
theorem aci:EnvOk Tryz.prog Jm:=bC ⟨Be,YJ,YK,YL,trivial⟩ trivial
theorem Tb:fJ Tryz.prog 168 (b9 Jm cG Tryz.f168):=by
 exact iU aci aK Tryz.func168 (enters_of Tryz.func168 (by kernel_rfl) rfl)
def Jn:Env:=En [] [(168,b9 Jm cG Tryz.f168)]
theorem acj:EnvOk Tryz.prog Jn:=bC trivial ⟨Tb,trivial⟩
theorem Ui:fJ Tryz.prog 106 (b9 Jn cG Tryz.f106):=by
 exact iU acj aK Tryz.func106 (enters_of Tryz.func106 (by kernel_rfl) rfl)
def Jo:Env:=En [] [(106,b9 Jn cG Tryz.f106)]
theorem ack:EnvOk Tryz.prog Jo:=bC trivial ⟨Ui,trivial⟩
theorem Rj:fJ Tryz.prog 49 (b9 Jo cG Tryz.f49):=by
 exact iU ack aK Tryz.func49 (enters_of Tryz.func49 (by kernel_rfl) rfl)
def Qx:Env:=En [] [(49,b9 Jo cG Tryz.f49),(64,b9 mu cG Tryz.f64)] [(118,tN)]
theorem acm:EnvOk Tryz.prog Qx:=bC trivial ⟨Rj,wj,trivial⟩
theorem aaX:gw Tryz.prog Qx:=vj ⟨vY,trivial⟩
abbrev jJ:cE:=xq 101 103 105 gW
abbrev ng:cE:=xq 101 103 105 jX
theorem Uj:c7 Tryz.prog 144 jJ:=by
 refine dR acm aK Tryz.func144 (enters_of Tryz.func144 (by kernel_rfl) rfl) ?_ ?_ ?_ (hI:=aaX)
 ·intro i b hb; simp [jJ,xq] at hb; rcases hb with rfl | rfl <;> rfl
 ·intro i b hb; simp [jJ,xq] at hb
 intro ⟨⟨⟨A,c⟩,⟨B,d⟩⟩,f,s⟩ hp;have hp:((f,s)=(101,true)∨(f,s)=(103,false)∨(f,s)=(105,true))∧(A.length≤1073741824∧∀ v∈A,Q2.sz 2048 v)∧B.length≤1073741824∧∀ v∈B,Q2.sz 2048 v:=hp;obtain ⟨vg,⟨hla,Ao⟩,hlb,DL⟩:=hp;obtain ⟨n,hn⟩:∃ n,n=A.length:=⟨_,rfl⟩;obtain ⟨g,hg⟩:∃ g,g=bS A:=⟨_,rfl⟩;obtain ⟨m,hm⟩:∃ n,n=B.length:=⟨_,rfl⟩;obtain ⟨g2,xJ⟩:∃ g,g=bS B:=⟨_,rfl⟩;obtain ⟨K,hK⟩:∃ K,K=iF jJ (((A,c),(B,d)),(f,s)):=⟨_,rfl⟩;have fin:∀ (x:XV) (z:Bool) (H:ay),gq (gW s A B)=(x,z)→K (.tuple ⟨[x.v,.bool z]⟩) H:=fun x z H h=>by
  rw [hK];unfold iF;rw [show jJ.new (((A,c),(B,d)),(f,s))=none from rfl,show jJ.val (((A,c),(B,d)),(f,s))=.tuple ⟨[x.v,.bool z]⟩ from by show Value.tuple ⟨[(gq (gW s A B)).1.v,.bool (gq (gW s A B)).2]⟩=_; rw [h]]
  exact ⟨_,rfl,.refl _⟩
 rw [show jJ.aj (((A,c),(B,d)),(f,s))=[.flat false n 6 g,.flat false m 6 g2] from by rw [hn,hg,hm,xJ]; rfl,show jJ.args (((A,c),(B,d)),(f,s))=[.slice (some ⟨0,0,none⟩) n c,.slice (some ⟨1,0,none⟩) m d,.func (.func f) #[] #[]] from by rw [hn,hm]; rfl,← hK]
 rw [← hn] at hla;rw [← hm] at hlb;conv=>whnf
 intro yl nu fn tm df;conv=>whnf
 refine .inl ⟨fun mm tz hz=>∃ (j:Nat),bt (some (.func (.yield yl) #[] #[])::some (.pointer (some ⟨6,0,none⟩))::aC 3 (some (.slice (some ⟨0,0,none⟩) n c)::some (.int .i64 n)::some (.int .i64 j)::aC 17 [])) tz∧hz=[some (.flat false n 6 g),some (.flat false m 6 g2),some (.aL true 1 [[.slice (some ⟨1,0,none⟩) m d]]),some (.aL true 1 [[.func (.func f) #[] #[]]]),some (.aL true 12 [mL.cells]),some (.aL true 1 [[.bool false]]),some (.aL true 1 [[.slice (some ⟨0,0,none⟩) n c]]),some (.bX (p5 Tryz.f144 fn tm df))]∧n - j=mm∧(j≤n∧nq (mT s B) (bd A) j),.inr ⟨[0,1,2,3,4,5,6,7],[0,1,5,6,7],?_⟩,?_⟩
 ·conv=>whnf
  intro _;conv=>whnf
  refine ⟨_,0,(.aa (.aa (.sk 3 (.aa (.aa (.aa (.sk 17 .nil rfl)))) rfl))),rfl,rfl,?_⟩;exact ⟨Nat.zero_le _,D1 _ _⟩
 rintro mm aS _ ⟨j,aw,rfl,rfl,⟨hj,hU⟩⟩
 obtain ⟨az,rfl⟩:∃ az:Nat→Value,aS=.func (.yield yl) #[] #[]::.pointer (some ⟨6,0,none⟩)::zs az 2 3 (.slice (some ⟨0,0,none⟩) n c::.int .i64 n::.int .i64 j::zs az 8 17 []):=bF aw;clear aw;conv=>whnf
 refine aI (fun h3=>?_) (fun h3=>?_)
 ·have h3:j < n:=by
   have:=of_decide_eq_true h3;omega
  have e7:IntKind.i64.wrap ((j:Int)+1)=((j+1:Nat):Int):=by rw [ax (by omega) (by omega)]; rfl
  obtain ⟨a,ca,ra,pa,sa,qa⟩:=gO (L:=A) (k:=j) (by omega) Ao
  obtain ⟨b,cb,rb,pb,sb,qb⟩:=gO (L:=A) (k:=aN n j) (by rw [hn]; exact ck (by omega)) Ao
  have cg:=jS h3 (by omega)
  have bZ:=ck h3;have fI:(bd A)[j]?=some (a.p,b.p):=by rw [pa,pb]; rw [hn] at bZ ⊢; exact rh (gk (by omega)) (gk bZ)
  rw [← pa] at ca;rw [← pb] at cb;obtain ⟨u,hu⟩:∃ u,u=aN n j:=⟨_,rfl⟩;rw [← hu] at cg bZ rb;rw [← hg] at ra rb;conv=>whnf
  refine ⟨⟨by omega,by omega⟩,?_⟩
  simp only [toNat_cast,au,Nat.zero_add];conv=>whnf
  refine ⟨by show j < n; omega,?_⟩
  conv=>whnf
  rw [ra];conv=>whnf
  refine .inl ⟨10,[[],[],[],[],[3],[],[5],[3,4,5,6],[2,3,4,5,6,7],[2,3,4,5,6,7,8],[0,1,2,3,4,5,6,7,8,9],[0,1,2,3,4,5,6,7,8,9,10]],by kernel_rfl,?_⟩
  conv=>whnf
  rw [show decide ((n:Int)≠0)=true from decide_eq_true (by omega)]
  conv=>whnf
  rw [cg];refine ⟨⟨by omega,by omega⟩,?_⟩
  simp only [toNat_cast,au,Nat.zero_add];conv=>whnf
  refine ⟨by show u < n; omega,?_⟩
  conv=>whnf
  rw [rb];conv=>whnf
  refine ⟨rfl,?_⟩;conv=>whnf
  refine ⟨rfl,?_⟩;conv=>whnf
  refine ⟨rfl,?_⟩;conv=>whnf
  refine .inl ⟨fun mm tz hz=>∃ (i:Nat),bt (some (.slice (some ⟨1,0,none⟩) m d)::some (.func (.func 168) #[] #[.pointer (some ⟨3,0,none⟩),.pointer (some ⟨19,0,none⟩),.pointer (some ⟨20,0,none⟩)])::aC 5 (some (.int .i64 m)::some (.int .i64 i)::aC 10 [])) tz∧hz=[some (.flat false n 6 g),some (.flat false m 6 g2),some (.aL true 1 [[.slice (some ⟨1,0,none⟩) m d]]),some (.aL true 1 [[.func (.func f) #[] #[]]]),some (.aL true 12 [mL.cells]),some (.aL true 1 [[.bool false]]),some (.aL true 1 [[.slice (some ⟨0,0,none⟩) n c]]),some (.bX { p5 Tryz.f144 fn tm df with state:=.busy }),some (.aL true 6 [a.cells]),none,none,none,none,none,none,none,none,none,none,some (.aL true 6 [a.cells]),some (.aL true 6 [b.cells])]∧m - i=mm∧(i≤m∧nq (si s a.p b.p) B i),.inr ⟨[0,1,2,3,4,5,6,7,8,9,10,11,12,13,14,15,16,17,18,19,20],[0,1,7,8],?_⟩,?_⟩
  ·conv=>whnf
   intro _;conv=>whnf
   refine ⟨_,0,(.aa (.aa (.sk 5 (.aa (.aa (.sk 10 .nil rfl))) rfl))),rfl,rfl,?_⟩;exact ⟨Nat.zero_le _,D1 _ _⟩
  rintro mm aS _ ⟨i,aw,rfl,rfl,⟨hi,hV⟩⟩
  obtain ⟨az,rfl⟩:∃ az:Nat→Value,aS=.slice (some ⟨1,0,none⟩) m d::.func (.func 168) #[] #[.pointer (some ⟨3,0,none⟩),.pointer (some ⟨19,0,none⟩),.pointer (some ⟨20,0,none⟩)]::zs az 2 5 (.int .i64 m::.int .i64 i::zs az 9 10 []):=bF aw;clear aw;conv=>whnf
  refine aI (fun h4=>?_) (fun h4=>?_)
  ·have h4:i < m:=by
    have:=of_decide_eq_true h4;omega
   have e8:IntKind.i64.wrap ((i:Int)+1)=((i+1:Nat):Int):=by rw [ax (by omega) (by omega)]; rfl
   obtain ⟨x,cx,rx,px,sx,qx⟩:=gO (L:=B) (k:=i) (by omega) DL
   rw [← xJ] at rx;have Jp:x.p∈B:=by rw [px]; exact c5 (by omega)
   have Jq:B[i]?=some x.p:=by rw [px]; exact gk (by omega)
   conv=>whnf
   refine ⟨⟨by omega,by omega⟩,?_⟩
   simp only [toNat_cast,au,Nat.zero_add];conv=>whnf
   refine ⟨by show i < m; omega,?_⟩
   conv=>whnf
   rw [rx];conv=>whnf
   refine .inl ⟨5,[[],[],[],[],[1,2,3],[0,1,2,3,4],[0,1,2,3,4,5],[0,1,2,3,4,5,6]],by kernel_rfl,?_⟩
   conv=>whnf
   obtain ⟨z,ez,pz⟩:=dT (aV (ao a.p b.p x.p) 0);refine ⟨(a,b,x),rfl,⟨PV.aR sa (by decide),PV.aR sb (by decide),PV.aR sx (by decide)⟩,?_⟩
   rw [show kj.val (a,b,x)=.int .i64 z from ez]
   conv=>whnf
   obtain ⟨w,hw⟩:∃ w,w=qO s z:=⟨_,rfl⟩;have gz:si s a.p b.p x.p=!w:=by unfold si; rw [← pz,← hw]
   rcases vg with h | h | h
   ·obtain ⟨rfl,rfl⟩:=Prod.mk.inj h;refine ⟨(z:Int),rfl,trivial,?_⟩;rw [show (qf true).val z=.bool w from by rw [hw]; rfl]
    conv=>whnf
    cases w with
    | true =>
     conv=>whnf
     rw [e8];refine .inr ⟨[0,1,2,3,4,5,6,7,8,9,10,11,12,13,14,15,16,17,18,19,20],[0,1,7,8],?_⟩;conv=>whnf
     intro _;conv=>whnf
     refine ⟨_,?_,i+1,(.aa (.aa (.sk 5 (.aa (.aa (.sk 10 .nil rfl))) rfl))),rfl,rfl,?_⟩
     ·omega
     ·exact ⟨by omega,s7 hV Jq gz⟩
    | false =>
     conv=>whnf
     refine ⟨rfl,?_⟩;conv=>whnf
     rw [e7];refine .inr ⟨[0,1,2,3,4,5,6,7],[0,1,5,6,7],?_⟩;conv=>whnf
     intro _;conv=>whnf
     refine ⟨_,?_,j+1,(.aa (.aa (.sk 3 (.aa (.aa (.aa (.sk 17 .nil rfl)))) rfl))),rfl,rfl,?_⟩
     ·omega
     ·exact ⟨by omega,s7 hU fI (Gi Jp gz)⟩
   ·obtain ⟨rfl,rfl⟩:=Prod.mk.inj h;refine ⟨(z:Int),rfl,trivial,?_⟩;rw [show (qf false).val z=.bool w from by rw [hw]; rfl]
    conv=>whnf
    cases w with
    | true =>
     conv=>whnf
     rw [e8];refine .inr ⟨[0,1,2,3,4,5,6,7,8,9,10,11,12,13,14,15,16,17,18,19,20],[0,1,7,8],?_⟩;conv=>whnf
     intro _;conv=>whnf
     refine ⟨_,?_,i+1,(.aa (.aa (.sk 5 (.aa (.aa (.sk 10 .nil rfl))) rfl))),rfl,rfl,?_⟩
     ·omega
     ·exact ⟨by omega,s7 hV Jq gz⟩
    | false =>
     conv=>whnf
     refine ⟨rfl,?_⟩;conv=>whnf
     rw [e7];refine .inr ⟨[0,1,2,3,4,5,6,7],[0,1,5,6,7],?_⟩;conv=>whnf
     intro _;conv=>whnf
     refine ⟨_,?_,j+1,(.aa (.aa (.sk 3 (.aa (.aa (.aa (.sk 17 .nil rfl)))) rfl))),rfl,rfl,?_⟩
     ·omega
     ·exact ⟨by omega,s7 hU fI (Gi Jp gz)⟩
   ·obtain ⟨rfl,rfl⟩:=Prod.mk.inj h;refine ⟨(z:Int),rfl,trivial,?_⟩;rw [show (qf true).val z=.bool w from by rw [hw]; rfl]
    conv=>whnf
    cases w with
    | true =>
     conv=>whnf
     rw [e8];refine .inr ⟨[0,1,2,3,4,5,6,7,8,9,10,11,12,13,14,15,16,17,18,19,20],[0,1,7,8],?_⟩;conv=>whnf
     intro _;conv=>whnf
     refine ⟨_,?_,i+1,(.aa (.aa (.sk 5 (.aa (.aa (.sk 10 .nil rfl))) rfl))),rfl,rfl,?_⟩
     ·omega
     ·exact ⟨by omega,s7 hV Jq gz⟩
    | false =>
     conv=>whnf
     refine ⟨rfl,?_⟩;conv=>whnf
     rw [e7];refine .inr ⟨[0,1,2,3,4,5,6,7],[0,1,5,6,7],?_⟩;conv=>whnf
     intro _;conv=>whnf
     refine ⟨_,?_,j+1,(.aa (.aa (.sk 3 (.aa (.aa (.aa (.sk 17 .nil rfl)))) rfl))),rfl,rfl,?_⟩
     ·omega
     ·exact ⟨by omega,s7 hU fI (Gi Jp gz)⟩
  ·have h4:i=m:=by
    have:=of_decide_eq_false h4;omega
   subst h4;conv=>whnf
   refine ⟨rfl,?_⟩;conv=>whnf
   refine fin (a,b) true _ ?_;rw [Vs hU fI (WG (ED (by rw [← hm]; exact hV)))]
   show ((bW a.p,bW b.p),true)=((a,b),true)
   rw [← ca,← cb]
 ·have h3:j=n:=by
   have:=of_decide_eq_false h3;omega
  subst h3;conv=>whnf
  exact fin mL false _ (by rw [Vt hn hU]; rfl)
end Go.Proofs.YtlapbjdhekcipaaGreat
