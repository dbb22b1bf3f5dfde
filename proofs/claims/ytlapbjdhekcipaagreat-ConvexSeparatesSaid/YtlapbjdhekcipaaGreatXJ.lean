import Derived.Test.YtlapbjdhekcipaaGreatXI
set_option linter.unusedVariables false
set_option linter.unusedSimpArgs false
set_option maxRecDepth 20000
set_option maxHeartbeats 4000000
namespace Go.Proofs.YtlapbjdhekcipaaGreat
open Go Go.Ae
def nf:Env:=En [(85,.p kW)]
theorem Dj:EnvOk Tryz.prog nf:=bD ⟨Cz,trivial⟩ trivial
def uD:Nat→FT→Nu→FT:=fun l G nu=>ck { nf with ys:=[(l,G)],nu:=nu } cI Tryz.f118
theorem wJ:zN Tryz.prog 118 uD:=by
 exact Pf Dj aN Tryz.func118 (enters_of Tryz.func118 (by kernel_rfl) rfl)
theorem wY:fM Tryz.prog 64 (ck nf cI Tryz.f64):=by
 exact jc Dj aN Tryz.func64 (enters_of Tryz.func64 (by kernel_rfl) rfl)
def RK:Env:=En [(32,.p kd)] [(64,ck nf cI Tryz.f64)] [(118,uD)]
theorem adF:EnvOk Tryz.prog RK:=bD ⟨BO,trivial⟩ ⟨wY,trivial⟩
theorem acj:gP Tryz.prog RK:=vP ⟨wJ,trivial⟩
theorem Z1:cU Tryz.prog 67 nt:=by
 refine dh adF aN Tryz.func67 (enters_of Tryz.func67 (by kernel_rfl) rfl) ?_ ?_ ?_ (hI:=acj)
 ·intro ⟨i,_⟩ b hb;cases i with
  | none=>simp [nt,PL.ae] at hb
  | some i=>simp [nt,PL.ae] at hb; rw [hb]; rfl
 ·intro i b hb; simp [nt] at hb
 intro ⟨i,p⟩ hp;have hp:(i.list.length≤1099511627776∧∀ v∈i.list,v.sz 2048)∧p.sz 2048:=hp;obtain ⟨⟨hlen,ba⟩,sp⟩:=hp;have qp:=PV.dg sp (by decide)
 cases i with
 | none =>
  conv=>whnf
  intro yl nu fn tm df;conv=>whnf
  refine .inr ⟨1,?_⟩;conv=>whnf
  exact ⟨.int .i64 1,rfl,.refl _⟩
 | some i =>
  obtain ⟨L,c⟩:=i;have hlen:L.length≤1099511627776:=hlen;have ba:∀ v∈L,PV.sz 2048 v:=ba;obtain ⟨n,hn⟩:∃ n,n=L.length:=⟨_,rfl⟩;obtain ⟨g,hg⟩:∃ g,g=cB L:=⟨_,rfl⟩;have fin:∀ z:Int,z=fu (aD L) p.p→∃ v',cM (List.range 1) 3 (nt.val (some (L,c),p))=some v'∧eG (.int .i64 z) v':=fun z h=>⟨.int .i64 z,by rw [h]; rfl,.refl _⟩
  rw [show nt.ae (some (L,c),p)=[.flat false n 6 g] from by rw [hn,hg]; rfl,show nt.args (some (L,c),p)=[.slice (some ⟨0,0,none⟩) n c,p.v] from by rw [hn]; rfl]
  rw [← hn] at hlen;conv=>whnf
  intro yl nu fn tm df;conv=>whnf
  refine .inl ⟨fun mm tz hz=>∃ (j:Nat) (o:Int),bA (some (.func (.yield yl) #[] #[])::some (.pointer (some ⟨3,0,none⟩))::aF 3 (some (.slice (some ⟨0,0,none⟩) n c)::some (.int .i64 n)::some (.int .i64 j)::aF 17 [])) tz∧hz=[some (.flat false n 6 g),some (.aO true 6 [p.cells]),some (.aO true 1 [[.int .i64 o]]),some (.aO true 1 [[.slice (some ⟨0,0,none⟩) n c]]),some (.cg (qV Tryz.f67 fn tm df))]∧n - j=mm∧(j≤n∧o=uM (aD L) p.p j),.inr ⟨[0,1,2,3,4],[0,1,5,6,7],?_⟩,?_⟩
  ·conv=>whnf
   intro _;conv=>whnf
   refine ⟨_,0,1,(.aa (.aa (.sk 3 (.aa (.aa (.aa (.sk 17 .nil rfl)))) rfl))),rfl,rfl,?_⟩;exact ⟨Nat.zero_le _,rfl⟩
  rintro mm aT _ ⟨j,o,aw,rfl,rfl,⟨hj,ho⟩⟩
  obtain ⟨az,rfl⟩:∃ az:Nat→Value,aT=.func (.yield yl) #[] #[]::.pointer (some ⟨3,0,none⟩)::zs az 2 3 (.slice (some ⟨0,0,none⟩) n c::.int .i64 n::.int .i64 j::zs az 8 17 []):=bI aw;clear aw;conv=>whnf
  refine aK (fun h3=>?_) (fun h3=>?_)
  ·have h3:j < n:=by
    have:=of_decide_eq_true h3;omega
   have e7:IntKind.i64.wrap ((j:Int)+1)=((j+1:Nat):Int):=by rw [ax (by omega) (by omega)]; rfl
   obtain ⟨a,b,ra,rb,⟨ma,mb⟩,ib,cG,_,_⟩:=tZ hn h3;have sa:=ba a ma;have sb:=ba b mb;have qa:=PV.dg sa (by decide)
   have qb:=PV.dg sb (by decide)
   have cV:=lV h3 (by omega)
   obtain ⟨u,hu⟩:∃ u,u=aX n j:=⟨_,rfl⟩;rw [← hu] at cV cG rb;rw [← hg] at ra rb;have au:=Ta (p:=p.p) ib;rw [← ho] at au;conv=>whnf
   refine ⟨⟨by omega,by omega⟩,?_⟩
   simp only [toNat_cast,ay,Nat.zero_add];conv=>whnf
   refine ⟨by show j < n; omega,?_⟩
   conv=>whnf
   rw [ra];conv=>whnf
   refine .inl ⟨10,[[],[],[],[],[3],[],[5],[3,4,5,6],[2,3,4,5,6,7],[2,3,4,5,6,7,8],[0,1,2,3,4,5,6,7,8,9],[0,1,2,3,4,5,6,7,8,9,10]],by kernel_rfl,?_⟩
   conv=>whnf
   rw [show decide ((n:Int)≠0)=true from decide_eq_true (by omega)]
   conv=>whnf
   rw [cV];refine ⟨⟨by omega,by omega⟩,?_⟩
   simp only [toNat_cast,ay,Nat.zero_add];conv=>whnf
   refine ⟨by show u < n; omega,?_⟩
   conv=>whnf
   rw [rb];conv=>whnf
   refine ⟨rfl,?_⟩;conv=>whnf
   refine ⟨rfl,?_⟩;conv=>whnf
   refine ⟨rfl,?_⟩;conv=>whnf
   refine .inl ⟨5,[[],[],[],[],[1,2,3],[0,1,2,3,4],[0,1,2,3,4,5]],by kernel_rfl,?_⟩
   conv=>whnf
   obtain ⟨z,ez,pz⟩:=ef (aW (ak a.p b.p p.p) 0);refine ⟨(a,b,p),rfl,⟨PV.aY sa (by decide),PV.aY sb (by decide),PV.aY sp (by decide)⟩,?_⟩
   rw [show kd.val (a,b,p)=.int .i64 z from ez]
   conv=>whnf
   rw [← pz] at au;refine ⟨rfl,?_⟩;conv=>whnf
   rw [e7];refine .inr ⟨[0,1,2,3,4],[0,1,5,6,7],?_⟩;conv=>whnf
   intro _;conv=>whnf
   refine ⟨_,?_,j+1,if z < o then z else o,(.aa (.aa (.sk 3 (.aa (.aa (.aa (.sk 17 .nil rfl)))) rfl))),rfl,rfl,?_⟩
   ·omega
   ·exact ⟨by omega,au.symm⟩
  ·have h3:j=n:=by
    have:=of_decide_eq_false h3;omega
   subst h3;conv=>whnf
   exact fin o (ho.trans (by rw [hn]; exact Ue))
def RL:Env:=En [(56,.q eL)] [(64,ck nf cI Tryz.f64),(49,ck Et cI Tryz.f49)] [(118,uD)]
theorem adG:EnvOk Tryz.prog RL:=bD ⟨EP,trivial⟩ ⟨wY,KN,trivial⟩
theorem ack:gP Tryz.prog RL:=vP ⟨wJ,trivial⟩
theorem Cd:cU Tryz.prog 23 aV:=by
 refine dh adG aN Tryz.func23 (enters_of Tryz.func23 (by kernel_rfl) rfl) ?_ ?_ ?_ (hI:=ack)
 ·intro i b hb;cases i with
  | none=>simp [aV,PL.ae] at hb
  | some i=>simp [aV,PL.ae] at hb; rw [hb]; rfl
 ·intro i b hb; simp [aV] at hb
 intro i hp;have hp:i.list.length≤1099511627776∧∀ v∈i.list,v.sz 2048:=hp;obtain ⟨hlen,ba⟩:=hp;cases i with
 | none =>
  conv=>whnf
  exact ⟨.int .i64 4,rfl,.refl _⟩
 | some i =>
  obtain ⟨L,c⟩:=i;have hlen:L.length≤1099511627776:=hlen;have ba:∀ v∈L,PV.sz 2048 v:=ba;obtain ⟨n,hn⟩:∃ n,n=L.length:=⟨_,rfl⟩;obtain ⟨g,hg⟩:∃ g,g=cB L:=⟨_,rfl⟩;have fin:∀ z:Int,bg L=z→∃ v',cM (List.range 1) 3 (aV.val (some (L,c)))=some v'∧eG (.int .i64 z) v':=fun z h=>⟨.int .i64 z,by rw [← h]; rfl,.refl _⟩
  rw [show aV.ae (some (L,c))=[.flat false n 6 g] from by rw [hn,hg]; rfl,show aV.args (some (L,c))=[.slice (some ⟨0,0,none⟩) n c] from by rw [hn]; rfl]
  rw [← hn] at hlen;conv=>whnf
  by_cases h1:n < 3
  ·rw [show decide ((n:Int) < 3)=true from decide_eq_true (by omega)]
   conv=>whnf
   exact fin 4 (Cs (.inl (by omega)))
  rw [show decide ((n:Int) < 3)=false from decide_eq_false (by omega)]
  conv=>whnf
  by_cases J:64 < n
  ·rw [show decide ((n:Int) > 64)=true from decide_eq_true (by omega)]
   conv=>whnf
   exact fin 4 (Cs (.inr (by omega)))
  rw [show decide ((n:Int) > 64)=false from decide_eq_false (by omega)]
  conv=>whnf
  obtain ⟨z,hz⟩:∃ z,z=dL L:=⟨_,rfl⟩;refine ⟨some (L,c),[0],by rw [show eL.args (some (L,c))=[.slice (some ⟨0,0,none⟩) n c] from by rw [hn]; rfl]; rfl,⟨by show L.length≤_; omega,ba⟩,?_⟩
  rw [show eL.ae (some (L,c))=[.flat false n 6 g] from by rw [hn,hg]; rfl,show eL.val (some (L,c))=.bool (!z) from by rw [hz]; rfl,show eL.new (some (L,c))=none from rfl]
  conv=>whnf
  refine ⟨aG.aR (fun h=>h) (fun r hr=>by rw [hg]; rfl),?_⟩
  conv=>whnf
  refine ⟨_,rfl,?_⟩;conv=>whnf
  cases z with
  | true =>
   conv=>whnf
   exact fin 1 (Oa (by omega) hz.symm)
  | false =>
   conv=>whnf
   refine ⟨⟨by decide,by omega,by omega⟩,?_⟩
   conv=>whnf
   obtain ⟨m,hm⟩:∃ m,m=n - 1:=⟨_,rfl⟩;obtain ⟨c1,rB⟩:∃ x,x=uG c (Int.toNat 1):=⟨_,rfl⟩;rw [← rB,show Int.toNat (n:Int) - Int.toNat 1=m from hm.symm,show eZ 0 (Int.toNat 1)=1 from rfl]
   have re:dL L=false:=hz.symm;have h0:=o5 (L:=L) (k:=0) (by omega)
   have so:=ba _ (np (L:=L) (k:=0) (by omega))
   have po:=ku (L:=L) (k:=0) (by omega)
   obtain ⟨o,ho⟩:∃ o,o=iC L 0:=⟨_,rfl⟩;rw [← ho] at h0 so po;rw [← hg] at h0;have qo:=PV.dg so (by decide)
   refine .inl ⟨fun mm tz hz=>∃ (i:Nat),bA (some (.slice (some ⟨0,1,none⟩) m c1)::some (.func (.func 73) #[] #[.pointer (some ⟨1,0,none⟩)])::aF 5 (some (.int .i64 m)::some (.int .i64 i)::aF 10 [])) tz∧hz=[some (.flat false n 6 g),some (.aO true 1 [[.slice (some ⟨0,0,none⟩) n c]]),some (.aO true 1 [[.int .i64 0]])]∧m - i=mm∧(i≤m∧xM (aD L) i),.inr ⟨[0,1,2],[0,1,7,8],?_⟩,?_⟩
   ·conv=>whnf
    intro _;conv=>whnf
    refine ⟨_,0,(.aa (.aa (.sk 5 (.aa (.aa (.sk 10 .nil rfl))) rfl))),rfl,rfl,?_⟩;exact ⟨Nat.zero_le _,K7 _⟩
   rintro mm aT _ ⟨i,aw,rfl,rfl,⟨hi,hU⟩⟩
   obtain ⟨az,rfl⟩:∃ az:Nat→Value,aT=.slice (some ⟨0,1,none⟩) m c1::.func (.func 73) #[] #[.pointer (some ⟨1,0,none⟩)]::zs az 2 5 (.int .i64 m::.int .i64 i::zs az 9 10 []):=bI aw;clear aw;conv=>whnf
   refine aK (fun h3=>?_) (fun h3=>?_)
   ·have h3:i < m:=by
     have:=of_decide_eq_true h3;omega
    have e7:IntKind.i64.wrap ((i:Int)+1)=((i+1:Nat):Int):=by rw [ax (by omega) (by omega)]; rfl
    have ra:=o5 (L:=L) (k:=i+1) (by omega)
    have sa:=ba _ (np (L:=L) (k:=i+1) (by omega))
    have pa:=ku (L:=L) (k:=i+1) (by omega)
    obtain ⟨a,ha⟩:∃ o,o=iC L (i+1):=⟨_,rfl⟩;rw [← ha] at ra sa pa;rw [← hg] at ra;have qa:=PV.dg sa (by decide)
    conv=>whnf
    refine ⟨⟨by omega,by omega⟩,?_⟩
    simp only [toNat_cast,ay,Nat.zero_add,Nat.add_comm 1 i];conv=>whnf
    refine ⟨by show i+1 < n; omega,?_⟩
    conv=>whnf
    rw [ra];conv=>whnf
    refine .inl ⟨4,[[],[],[1],[1,2],[0,1,2,3],[0,1,2,3,4],[0,1,2,3,4,5]],by kernel_rfl,?_⟩
    conv=>whnf
    have Ad:g (Int.toNat 0)=o.cells:=h0;refine ⟨⟨by omega,by omega⟩,?_⟩
    simp only [toNat_cast,ay,Nat.zero_add];conv=>whnf
    refine ⟨by show 0 < n; omega,?_⟩
    conv=>whnf
    rw [Ad];conv=>whnf
    obtain ⟨z,ez,pz⟩:=ef (fH a.p o.p);refine ⟨(a,o),rfl,⟨PV.aY sa (by decide),PV.aY so (by decide)⟩,?_⟩
    rw [show pG.val (a,o)=.int .i64 z from ez]
    conv=>whnf
    rw [pa,po] at pz;by_cases h4:iS (ar (aD L) 0) (ar (aD L) (i+1))
    ·have:=OX.1 h4;rw [show decide (z≤0)=false from decide_eq_false (by omega)]
     conv=>whnf
     rw [e7];refine .inr ⟨[0,1,2],[0,1,7,8],?_⟩;conv=>whnf
     intro _;conv=>whnf
     refine ⟨_,?_,i+1,(.aa (.aa (.sk 5 (.aa (.aa (.sk 10 .nil rfl))) rfl))),rfl,rfl,?_⟩
     ·omega
     ·exact ⟨by omega,LQ hU h4⟩
    ·have:¬ 0 < fH (ar (aD L) (i+1)) (ar (aD L) 0):=fun e=>h4 (OX.2 e)
     rw [show decide (z≤0)=true from decide_eq_true (by omega)]
     conv=>whnf
     exact fin 8 (Ob (by omega) re fun e=>h4 (e (i+1) (by omega) (by rw [cA]; omega)))
   ·have h3:i=m:=by
     have:=of_decide_eq_false h3;omega
    have ow:=MG hU (by rw [cA]; omega)
    have yn:3≤(aD L).length:=by rw [cA]; omega
    conv=>whnf
    intro yl nu fn tm df;conv=>whnf
    skip
    refine .inl ⟨fun mm tz hz=>∃ (j:Nat),bA (some (.func (.yield yl) #[] #[])::some (.pointer (some ⟨3,0,none⟩))::aF 3 (some (.slice (some ⟨0,0,none⟩) n c)::some (.int .i64 n)::some (.int .i64 j)::aF 17 [])) tz∧hz=[some (.flat false n 6 g),some (.aO true 1 [[.slice (some ⟨0,0,none⟩) n c]]),some (.aO true 1 [[.int .i64 0]]),some (.aO true 1 [[.slice (some ⟨0,0,none⟩) n c]]),some (.cg (qV Tryz.f23 fn tm df))]∧n - j=mm∧(j≤n∧∀ k,k < j→¬ zh (aD L) k),.inr ⟨[0,1,2,3,4],[0,1,5,6,7],?_⟩,?_⟩
    ·conv=>whnf
     intro _;conv=>whnf
     refine ⟨_,0,(.aa (.aa (.sk 3 (.aa (.aa (.aa (.sk 17 .nil rfl)))) rfl))),rfl,rfl,?_⟩;exact ⟨Nat.zero_le _,fun k hk=>absurd hk (Nat.not_lt_zero k)⟩
    rintro mm aT _ ⟨j,aw,rfl,rfl,⟨hj,hB⟩⟩
    obtain ⟨az,rfl⟩:∃ az:Nat→Value,aT=.func (.yield yl) #[] #[]::.pointer (some ⟨3,0,none⟩)::zs az 2 3 (.slice (some ⟨0,0,none⟩) n c::.int .i64 n::.int .i64 j::zs az 8 17 []):=bI aw;clear aw;conv=>whnf
    refine aK (fun h3=>?_) (fun h3=>?_)
    ·have h3:j < n:=by
      have:=of_decide_eq_true h3;omega
     have e7:IntKind.i64.wrap ((j:Int)+1)=((j+1:Nat):Int):=by rw [ax (by omega) (by omega)]; rfl
     obtain ⟨a,b,ra,rb,⟨ma,mb⟩,_,cG,ha,hb⟩:=tZ hn h3;have sa:=ba a ma;have sb:=ba b mb;have cV:=lV h3 (by omega)
     obtain ⟨u,hu⟩:∃ u,u=aX n j:=⟨_,rfl⟩;rw [← hu] at cV cG rb;rw [← hg] at ra rb;conv=>whnf
     refine ⟨⟨by omega,by omega⟩,?_⟩
     simp only [toNat_cast,ay,Nat.zero_add];conv=>whnf
     refine ⟨by show j < n; omega,?_⟩
     conv=>whnf
     rw [ra];conv=>whnf
     refine .inl ⟨10,[[],[],[],[],[3],[],[5],[3,4,5,6],[2,3,4,5,6,7],[2,3,4,5,6,7,8],[0,1,2,3,4,5,6,7,8,9],[0,1,2,3,4,5,6,7,8,9,10]],by kernel_rfl,?_⟩
     conv=>whnf
     rw [show decide ((n:Int)≠0)=true from decide_eq_true (by omega)]
     conv=>whnf
     rw [cV];refine ⟨⟨by omega,by omega⟩,?_⟩
     simp only [toNat_cast,ay,Nat.zero_add];conv=>whnf
     refine ⟨by show u < n; omega,?_⟩
     conv=>whnf
     rw [rb];conv=>whnf
     refine ⟨rfl,?_⟩;conv=>whnf
     refine ⟨rfl,?_⟩;conv=>whnf
     refine ⟨rfl,?_⟩;conv=>whnf
     refine .inl ⟨fun mm tz hz=>∃ (i:Nat),bA (some (.slice (some ⟨0,0,none⟩) n c)::some (.func (.func 75) #[] #[.pointer (some ⟨16,0,none⟩),.pointer (some ⟨17,0,none⟩)])::aF 5 (some (.int .i64 n)::some (.int .i64 i)::aF 10 [])) tz∧hz=[some (.flat false n 6 g),some (.aO true 1 [[.slice (some ⟨0,0,none⟩) n c]]),some (.aO true 1 [[.int .i64 0]]),some (.aO true 1 [[.slice (some ⟨0,0,none⟩) n c]]),some (.cg { qV Tryz.f23 fn tm df with state:=.busy }),some (.aO true 6 [a.cells]),none,none,none,none,none,none,none,none,none,none,some (.aO true 6 [a.cells]),some (.aO true 6 [b.cells])]∧n - i=mm∧(i≤n∧oa (s3 a b) L i),.inr ⟨[0,1,2,3,4,5,6,7,8,9,10,11,12,13,14,15,16,17],[0,1,7,8],?_⟩,?_⟩
     ·conv=>whnf
      intro _;conv=>whnf
      refine ⟨_,0,(.aa (.aa (.sk 5 (.aa (.aa (.sk 10 .nil rfl))) rfl))),rfl,rfl,?_⟩;exact ⟨Nat.zero_le _,EO _ _⟩
     rintro mm aT _ ⟨i,aw,rfl,rfl,⟨hi,hU⟩⟩
     obtain ⟨az,rfl⟩:∃ az:Nat→Value,aT=.slice (some ⟨0,0,none⟩) n c::.func (.func 75) #[] #[.pointer (some ⟨16,0,none⟩),.pointer (some ⟨17,0,none⟩)]::zs az 2 5 (.int .i64 n::.int .i64 i::zs az 9 10 []):=bI aw;clear aw;conv=>whnf
     refine aK (fun h4=>?_) (fun h4=>?_)
     ·have h4:i < n:=by
       have:=of_decide_eq_true h4;omega
      have e8:IntKind.i64.wrap ((i:Int)+1)=((i+1:Nat):Int):=by rw [ax (by omega) (by omega)]; rfl
      obtain ⟨p,lE,vH,aZ⟩:=rT (l:=L) (i:=i) (by omega)
      rw [← hg] at aZ;conv=>whnf
      refine ⟨⟨by omega,by omega⟩,?_⟩
      simp only [toNat_cast,ay,Nat.zero_add];conv=>whnf
      refine ⟨by show i < n; omega,?_⟩
      conv=>whnf
      rw [aZ];conv=>whnf
      obtain ⟨z,hz⟩:∃ z,z=s3 a b p:=⟨_,rfl⟩;refine ⟨(a,b,p),[16,17],rfl,⟨sa,sb,ba p vH⟩,?_⟩;rw [show sM.ae (a,b,p)=[.flat false 1 6 (fun _=>a.cells),.flat false 1 6 (fun _=>b.cells)] from rfl,show sM.val (a,b,p)=.bool z from by rw [hz]; rfl,show sM.new (a,b,p)=none from rfl]
      conv=>whnf
      refine ⟨N8 a,N8 b,?_⟩;conv=>whnf
      refine ⟨_,rfl,?_⟩;conv=>whnf
      cases z with
      | false =>
       conv=>whnf
       rw [e8];refine .inr ⟨[0,1,2,3,4,5,6,7,8,9,10,11,12,13,14,15,16,17],[0,1,7,8],?_⟩;conv=>whnf
       intro _;conv=>whnf
       refine ⟨_,?_,i+1,(.aa (.aa (.sk 5 (.aa (.aa (.sk 10 .nil rfl))) rfl))),rfl,rfl,?_⟩
       ·omega
       ·exact ⟨by omega,tR hU lE hz.symm⟩
      | true =>
       conv=>whnf
       refine ⟨rfl,?_⟩;conv=>whnf
       exact fin 15 (GP (by omega) re ow fun e=>(Nl yn ow).1 e j (by rw [cA]; omega) (XW re (by omega) ha (hb.trans (by rw [hn])) vH hz.symm))
     ·have h4:i=n:=by
       have:=of_decide_eq_false h4;omega
      subst h4;conv=>whnf
      refine ⟨rfl,?_⟩;conv=>whnf
      rw [e7];refine .inr ⟨[0,1,2,3,4],[0,1,5,6,7],?_⟩;conv=>whnf
      intro _;conv=>whnf
      refine ⟨_,?_,j+1,(.aa (.aa (.sk 3 (.aa (.aa (.aa (.sk 17 .nil rfl)))) rfl))),rfl,rfl,?_⟩
      ·omega
      ·refine ⟨by omega,fun k hk=>?_⟩
       rcases Nat.lt_or_eq_of_le (Nat.le_of_lt_succ hk) with e | e
       ·exact hB k e
       ·subst e;exact aaO (by omega) ha (hb.trans (by rw [hn])) (Fl (by rw [← hn]; exact hU))
    ·have h3:j=n:=by
      have:=of_decide_eq_false h3;omega
     subst h3;conv=>whnf
     exact fin 0 (No (by omega) re ow ((Nl yn ow).2 fun k hk=>hB k (by rw [cA] at hk; omega)))
open Go Go.Ae
def Ew1:Env:=En [(23,.q aV),(56,.q eL),(67,.q nt)]
theorem adH:EnvOk Tryz.prog Ew1:=bD ⟨Cd,EP,Z1,trivial⟩ trivial
theorem VC:cU Tryz.prog 19 kR:=by
 refine dh adH aN Tryz.func19 (enters_of Tryz.func19 (by kernel_rfl) rfl) ?_ ?_ ?_
 ·intro ⟨i,_⟩ b hb;cases i with
  | none=>simp [kR,PL.ae] at hb
  | some i=>simp [kR,PL.ae] at hb; rw [hb]; rfl
 ·intro i b hb; simp [kR] at hb
 intro ⟨i,p⟩ hp;have hp:(i.list.length≤1099511627776∧∀ v∈i.list,v.sz 2048)∧p.sz 2048:=hp;obtain ⟨⟨hlen,ba⟩,sp⟩:=hp;cases i with
 | none =>
  conv=>whnf
  refine ⟨none,[],rfl,⟨Nat.zero_le _,fun v hv=>nomatch hv⟩,?_⟩
  rw [show aV.ae none=[] from rfl,show aV.val none=.int .i64 4 from rfl,show aV.new none=none from rfl]
  conv=>whnf
  refine ⟨_,rfl,?_⟩;conv=>whnf
  exact ⟨_,rfl,.refl _⟩
 | some i =>
  obtain ⟨L,c⟩:=i;have hlen:L.length≤1099511627776:=hlen;have ba:∀ v∈L,PV.sz 2048 v:=ba;obtain ⟨n,hn⟩:∃ n,n=L.length:=⟨_,rfl⟩;obtain ⟨g,hg⟩:∃ g,g=cB L:=⟨_,rfl⟩;have fin:∀ z e:Int,qY L p=(z,e)→∃ v',cM (List.range 1) 3 (kR.val (some (L,c),p))=some v'∧eG (.tuple ⟨[.int .i64 z,.int .i64 e]⟩) v':=fun z e h=>⟨_,by
   rw [show kR.val (some (L,c),p)=ZE.v (qY L p) from rfl,h]; rfl,.refl _⟩
  rw [show kR.ae (some (L,c),p)=[.flat false n 6 g] from by rw [hn,hg]; rfl,show kR.args (some (L,c),p)=[.slice (some ⟨0,0,none⟩) n c,p.v] from by rw [hn]; rfl]
  rw [← hn] at hlen;conv=>whnf
  refine ⟨some (L,c),[0],by rw [show aV.args (some (L,c))=[.slice (some ⟨0,0,none⟩) n c] from by rw [hn]; rfl]; rfl,⟨by show L.length≤_; omega,ba⟩,?_⟩
  rw [show aV.ae (some (L,c))=[.flat false n 6 g] from by rw [hn,hg]; rfl,show aV.val (some (L,c))=.int .i64 (bg L) from rfl,show aV.new (some (L,c))=none from rfl]
  conv=>whnf
  refine ⟨aG.aR (fun h=>h) (fun r hr=>by rw [hg]; rfl),?_⟩
  conv=>whnf
  refine ⟨_,rfl,?_⟩;obtain ⟨e,he⟩:∃ z,z=bg L:=⟨_,rfl⟩;rw [← he];conv=>whnf
  by_cases h1:e=0
  ·rw [show (e != 0)=false from by simp [h1]]
   conv=>whnf
   refine ⟨some ([p],1),[2],rfl,⟨by show 1≤1099511627776; decide,(fun v hv=>by rw [List.mem_singleton.1 hv]; exact sp)⟩,?_⟩
   rw [show eL.ae (some ([p],1))=[.flat false 1 6 (cB [p])] from rfl,show eL.val (some ([p],1))=.bool (!dL [p]) from rfl,show eL.new (some ([p],1))=none from rfl]
   conv=>whnf
   refine ⟨N5 [p],?_⟩;conv=>whnf
   refine ⟨_,rfl,?_⟩;obtain ⟨r,hr⟩:∃ z,z=dL [p]:=⟨_,rfl⟩;rw [← hr];conv=>whnf
   cases r with
   | true =>
    conv=>whnf
    exact fin 0 1 (OY fun h=>aeQ hr h.2)
   | false =>
    conv=>whnf
    obtain ⟨w,hw⟩:∃ w,w=fu (aD L) p.p:=⟨_,rfl⟩;refine ⟨(some (L,c),p),[0],by rw [show nt.args (some (L,c),p)=[.slice (some ⟨0,0,none⟩) n c,p.v] from by rw [hn]; rfl]; rfl,⟨⟨by show L.length≤_; omega,ba⟩,sp⟩,?_⟩
    rw [show nt.ae (some (L,c),p)=[.flat false n 6 g] from by rw [hn,hg]; rfl,show nt.val (some (L,c),p)=.int .i64 w from by rw [hw]; rfl,show nt.new (some (L,c),p)=none from rfl]
    conv=>whnf
    refine ⟨aG.aR (fun h=>h) (fun r hr=>by rw [hg]; rfl),?_⟩
    conv=>whnf
    refine ⟨_,rfl,?_⟩;conv=>whnf
    exact fin w 0 (by rw [hw]; exact Od ⟨by rw [← he]; exact h1,ac8 hr⟩)
  ·rw [show (e != 0)=true from by simp [h1]]
   conv=>whnf
   exact fin 0 1 (OY fun h=>h1 (by rw [he]; exact h.1))
open Go Go.Ae
theorem acm:bh Tryz.prog 110 vk:=by
 refine bk qP aN Tryz.func110 (enters_of Tryz.func110 (by kernel_rfl) rfl) (fun _=>rfl) (fun _=>rfl) ?_
 intro ⟨a,b,p⟩ hp;conv=>whnf
 rw [zV b p];by_cases h:b=p
 ·rw [decide_eq_true h,show vk.val (a,b,p)=.bool false from congrArg Value.bool (decide_eq_false fun e=>e h)]; rfl
 ·rw [decide_eq_false h,show vk.val (a,b,p)=.bool true from congrArg Value.bool (decide_eq_true h)]; rfl
theorem acn:bh Tryz.prog 111 vl:=by
 refine bk qP aN Tryz.func111 (enters_of Tryz.func111 (by kernel_rfl) rfl) (fun _=>rfl) (fun _=>rfl) ?_
 intro ⟨a,b,p⟩ hp;have hp:a.sz 1048576∧b.sz 1048576∧p.sz 1048576:=hp;obtain ⟨sa,sb,sp⟩:=hp;conv=>whnf
 obtain ⟨z,ez,pz⟩:=ef (aW (ak a.p b.p p.p) 0);refine ⟨(a,b,p),rfl,⟨PV.aY sa (by decide),PV.aY sb (by decide),PV.aY sp (by decide)⟩,?_⟩
 rw [show kd.val (a,b,p)=.int .i64 z from ez]
 conv=>whnf
 by_cases h:z=0
 ·rw [show vl.val (a,b,p)=.bool false from congrArg Value.bool (decide_eq_false fun e=>e (by rw [← pz]; exact h)),show (z != 0)=false from by simp [h]]
 ·rw [show vl.val (a,b,p)=.bool true from congrArg Value.bool (decide_eq_true (by rw [← pz]; exact h)),show (z != 0)=true from by simp [h]]
def Ex1:Env:=En [(110,.p vk),(111,.p vl)]
theorem adI:EnvOk Tryz.prog Ex1:=bD ⟨acm,acn,trivial⟩ trivial
theorem Z2:cU Tryz.prog 109 (ky 110 111):=by
 refine dh adI aN Tryz.func109 (enters_of Tryz.func109 (by kernel_rfl) rfl) ?_ ?_ ?_
 ·intro ⟨i,b⟩ B hb;cases i with
  | none=>simp [ky,QL.ae] at hb
  | some i=>simp [ky,QL.ae] at hb; rw [hb]; rfl
 ·intro i B hb;exact B9 hb
 intro ⟨i,b⟩ hp;have hp:i.list.length≤549755813888∧∀ v∈i.list,Q2.sz 262144 v:=hp;obtain ⟨hlen,ba⟩:=hp;cases i with
 | none =>
  cases b <;> (conv=>whnf) <;> refine .inr ⟨1,?_⟩ <;> (conv=>whnf) <;> exact ⟨_,rfl,.refl _⟩
 | some i =>
  obtain ⟨L,c⟩:=i;have hlen:L.length≤549755813888:=hlen;have ba:∀ v∈L,Q2.sz 262144 v:=ba;obtain ⟨n,hn⟩:∃ n,n=L.length:=⟨_,rfl⟩;obtain ⟨g,hg⟩:∃ g,g=bS L:=⟨_,rfl⟩;cases b with
  | false =>
   rw [show (ky 110 111).ae (some (L,c),false)=[.flat false n 6 g] from by rw [hn,hg]; rfl,show (ky 110 111).args (some (L,c),false)=[.slice (some ⟨0,0,none⟩) n c,.func (.func 110) #[] #[]] from by rw [hn]; rfl]
   rw [← hn] at hlen;conv=>whnf
   refine .inl ⟨fun mm tz hz=>∃ (j:Nat) (O:List Q2) (q:Nat) (F:Nat→List Value),bA (some (.slice (some ⟨0,0,none⟩) n c)::some (.func (.func 110) #[] #[])::aF 3 (some (eg 1 q)::aF 2 (some (.slice (some ⟨0,0,none⟩) n c)::some (.int .i64 n)::some (.int .i64 j)::aF 32 []))) tz∧hz=[some (.flat false n 6 g)]++zU 6 F q∧n - j=mm∧((j≤n∧q=O.length)∧O=qO L j∧(∀ r,r < q→F r=bS O r)),.inr ⟨[0],[0,1,5,8,9,10],?_⟩,?_⟩
   ·conv=>whnf
    intro _;conv=>whnf
    refine ⟨_,0,[],0,fun _=>[],(.aa (.aa (.sk 3 (.aa (.sk 2 (.aa (.aa (.aa (.sk 32 .nil rfl)))) rfl)) rfl))),rfl,rfl,?_⟩
    exact ⟨⟨Nat.zero_le _,rfl⟩,rfl,fun r hr=>absurd hr (Nat.not_lt_zero r)⟩
   rintro mm aT _ ⟨j,O,q,F,aw,rfl,rfl,⟨⟨hj,hq⟩,hO,hF⟩⟩
   obtain ⟨az,rfl⟩:∃ az:Nat→Value,aT=.slice (some ⟨0,0,none⟩) n c::.func (.func 110) #[] #[]::zs az 2 3 (eg 1 q::zs az 6 2 (.slice (some ⟨0,0,none⟩) n c::.int .i64 n::.int .i64 j::zs az 11 32 [])):=bI aw;clear aw;have tH:=WK L j;rw [← hO,← hq] at tH;cases q with
   | zero =>
    obtain rfl:O=[]:=List.eq_nil_of_length_eq_zero hq.symm;conv=>whnf
    refine aK (fun h1=>?_) (fun h1=>?_)
    ·have h1:j < n:=by
      have:=of_decide_eq_true h1;omega
     have e7:IntKind.i64.wrap ((j:Int)+1)=((j+1:Nat):Int):=by rw [ax (by omega) (by omega)]; rfl
     obtain ⟨a,ca,ra,pa,sa,qa⟩:=il (L:=L) (k:=dA n j) (by rw [← hn]; exact jt h1) ba
     obtain ⟨b,cb,rb,pb,sb,qb⟩:=il (L:=L) (k:=j) (by omega) ba
     obtain ⟨d,cd,rd,pd,sd,qd⟩:=il (L:=L) (k:=aX n j) (by rw [← hn]; exact cL h1) ba
     rw [← hg] at ra rb rd;have mu:=Df h1 (by omega)
     have cV:=lV h1 (by omega)
     have lE:dA n j < n:=jt h1;have cG:=cL h1;obtain ⟨u,hu⟩:∃ u,u=dA n j:=⟨_,rfl⟩;obtain ⟨w,hw⟩:∃ u,u=aX n j:=⟨_,rfl⟩;rw [← hu] at mu lE ra;rw [← hw] at cV cG rd;conv=>whnf
     refine ⟨⟨by omega,by omega⟩,?_⟩
     simp only [toNat_cast,ay,Nat.zero_add];conv=>whnf
     refine ⟨by show j < n; omega,?_⟩
     conv=>whnf
     rw [rb];conv=>whnf
     refine .inl ⟨21,[[],[],[],[],[3],[2,3,4],[2,3,4,5],[],[7],[2,3,4,5,6,7,8],[1,2,3,4,5,6,7,8,9],[1,2,3,4,5,6,7,8,9,10],[],[],[],[14],[],[16],[14,15,16,17],[13,14,15,16,17,18],[13,14,15,16,17,18,19],[0,1,2,3,4,5,6,7,8,9,10,11,12,13,14,15,16,17,18,19,20]],by kernel_rfl,?_⟩
     conv=>whnf
     rw [show decide ((n:Int)≠0)=true from decide_eq_true (by omega)]
     conv=>whnf
     rw [mu];refine ⟨⟨by omega,by omega⟩,?_⟩
     simp only [toNat_cast,ay,Nat.zero_add];conv=>whnf
     refine ⟨by show u < n; omega,?_⟩
     conv=>whnf
     rw [ra];conv=>whnf
     rw [show decide ((n:Int)≠0)=true from decide_eq_true (by omega)]
     conv=>whnf
     rw [cV];refine ⟨⟨by omega,by omega⟩,?_⟩
     simp only [toNat_cast,ay,Nat.zero_add];conv=>whnf
     refine ⟨by show w < n; omega,?_⟩
     conv=>whnf
     rw [rd];conv=>whnf
     obtain ⟨z,hz,au⟩:=Np hn h1 pa cb cd;rw [← hO] at au;refine ⟨(a,b,d),rfl,⟨PV.aY sa (by decide),PV.aY sb (by decide),PV.aY sd (by decide)⟩,?_⟩
     rw [show vk.val (a,b,d)=.bool z from hz]
     conv=>whnf
     cases z with
     | false =>
      conv=>whnf
      rw [e7];refine .inr ⟨[0],[0,1,5,8,9,10],?_⟩;conv=>whnf
      intro _;conv=>whnf
      refine ⟨_,?_,j+1,[],0,F,(.aa (.aa (.sk 3 (.aa (.sk 2 (.aa (.aa (.aa (.sk 32 .nil rfl)))) rfl)) rfl))),rfl,rfl,?_⟩
      ·omega
      ·exact ⟨⟨by omega,rfl⟩,by rw [au]; rfl,hF⟩
     | true =>
      conv=>whnf
      refine ⟨by show (0+1)*80≤140737488355328; decide,?_⟩
      conv=>whnf
      rw [e7];refine .inr ⟨[0,24],[0,1,5,8,9,10],?_⟩;conv=>whnf
      intro _;conv=>whnf
      refine ⟨_,?_,j+1,[ar L j],1,_,(.aa (.aa (.sk 3 (.aa (.sk 2 (.aa (.aa (.aa (.sk 32 .nil rfl)))) rfl)) rfl))),rfl,rfl,?_⟩
      ·omega
      ·exact ⟨⟨by omega,rfl⟩,by rw [au]; rfl,wX cb rfl⟩
    ·have h1:j=n:=by
      have:=of_decide_eq_false h1;omega
     subst h1;have hE:gB L=[]:=by rw [hO,hn]; exact (MH L).symm
     conv=>whnf
     rw [show (ky 110 111).new (some (L,c),false)=none from by show cW (gB L)=none; rw [hE]; rfl]
     exact ⟨.slice none 0 0,by rw [show (ky 110 111).val (some (L,c),false)=.slice none 0 0 from by show eg _ (gB L).length=_; rw [hE]; rfl]; rfl,.refl _⟩
   | succ q =>
    conv=>whnf
    refine aK (fun h1=>?_) (fun h1=>?_)
    ·have h1:j < n:=by
      have:=of_decide_eq_true h1;omega
     have e7:IntKind.i64.wrap ((j:Int)+1)=((j+1:Nat):Int):=by rw [ax (by omega) (by omega)]; rfl
     obtain ⟨a,ca,ra,pa,sa,qa⟩:=il (L:=L) (k:=dA n j) (by rw [← hn]; exact jt h1) ba
     obtain ⟨b,cb,rb,pb,sb,qb⟩:=il (L:=L) (k:=j) (by omega) ba
     obtain ⟨d,cd,rd,pd,sd,qd⟩:=il (L:=L) (k:=aX n j) (by rw [← hn]; exact cL h1) ba
     rw [← hg] at ra rb rd;have mu:=Df h1 (by omega)
     have cV:=lV h1 (by omega)
     have lE:dA n j < n:=jt h1;have cG:=cL h1;obtain ⟨u,hu⟩:∃ u,u=dA n j:=⟨_,rfl⟩;obtain ⟨w,hw⟩:∃ u,u=aX n j:=⟨_,rfl⟩;rw [← hu] at mu lE ra;rw [← hw] at cV cG rd;conv=>whnf
     refine ⟨⟨by omega,by omega⟩,?_⟩
     simp only [toNat_cast,ay,Nat.zero_add];conv=>whnf
     refine ⟨by show j < n; omega,?_⟩
     conv=>whnf
     rw [rb];conv=>whnf
     refine .inl ⟨21,[[],[],[],[],[3],[2,3,4],[2,3,4,5],[],[7],[2,3,4,5,6,7,8],[1,2,3,4,5,6,7,8,9],[1,2,3,4,5,6,7,8,9,10],[],[],[],[14],[],[16],[14,15,16,17],[13,14,15,16,17,18],[13,14,15,16,17,18,19],[0,1,2,3,4,5,6,7,8,9,10,11,12,13,14,15,16,17,18,19,20]],by kernel_rfl,?_⟩
     conv=>whnf
     rw [show decide ((n:Int)≠0)=true from decide_eq_true (by omega)]
     conv=>whnf
     rw [mu];refine ⟨⟨by omega,by omega⟩,?_⟩
     simp only [toNat_cast,ay,Nat.zero_add];conv=>whnf
     refine ⟨by show u < n; omega,?_⟩
     conv=>whnf
     rw [ra];conv=>whnf
     rw [show decide ((n:Int)≠0)=true from decide_eq_true (by omega)]
     conv=>whnf
     rw [cV];refine ⟨⟨by omega,by omega⟩,?_⟩
     simp only [toNat_cast,ay,Nat.zero_add];conv=>whnf
     refine ⟨by show w < n; omega,?_⟩
     conv=>whnf
     rw [rd];conv=>whnf
     obtain ⟨z,hz,au⟩:=Np hn h1 pa cb cd;rw [← hO] at au;refine ⟨(a,b,d),rfl,⟨PV.aY sa (by decide),PV.aY sb (by decide),PV.aY sd (by decide)⟩,?_⟩
     rw [show vk.val (a,b,d)=.bool z from hz]
     conv=>whnf
     cases z with
     | false =>
      conv=>whnf
      rw [e7];refine .inr ⟨[0,1],[0,1,5,8,9,10],?_⟩;conv=>whnf
      intro _;conv=>whnf
      refine ⟨_,?_,j+1,O,q+1,F,(.aa (.aa (.sk 3 (.aa (.sk 2 (.aa (.aa (.aa (.sk 32 .nil rfl)))) rfl)) rfl))),rfl,rfl,?_⟩
      ·omega
      ·exact ⟨⟨by omega,hq⟩,by rw [au]; simp,hF⟩
     | true =>
      conv=>whnf
      refine ⟨⟨by show 1≤1; decide,rfl,by show (q+1+1)*80≤140737488355328; omega⟩,?_⟩
      conv=>whnf
      refine ⟨[0,1,8,9,10],?_⟩;conv=>whnf
      intro _;conv=>whnf
      rw [e7];refine .inr ⟨[0,1],[0,1,5,8,9,10],?_⟩;conv=>whnf
      intro _;conv=>whnf
      refine ⟨_,?_,j+1,O++[ar L j],q+1+1,_,(.aa (.aa (.sk 3 (.aa (.sk 2 (.aa (.aa (.aa (.sk 32 .nil rfl)))) rfl)) rfl))),rfl,rfl,?_⟩
      ·omega
      ·exact ⟨⟨by omega,by rw [List.length_append,← hq]; rfl⟩,by rw [au]; simp,rX hq hF cb rfl⟩
    ·have h1:j=n:=by
      have:=of_decide_eq_false h1;omega
     subst h1;have hE:gB L=O:=by rw [hO,hn]; exact (MH L).symm
     conv=>whnf
     rw [show (ky 110 111).new (some (L,c),false)=some (.flat true (q+1) 6 (bS O)) from by show cW (gB L)=_; rw [hE]; unfold cW; rw [← hq],show (ky 110 111).val (some (L,c),false)=.slice (some ⟨1,0,none⟩) (q+1) aM from by show eg _ (gB L).length=_; rw [hE,← hq]; rfl]
     refine ⟨1,?_⟩;conv=>whnf
     exact ⟨⟨rfl,aG.rU (fun h=>h) hF (fun r hr=>rfl)⟩,_,rfl,.refl _⟩
  | true =>
   rw [show (ky 110 111).ae (some (L,c),true)=[.flat false n 6 g] from by rw [hn,hg]; rfl,show (ky 110 111).args (some (L,c),true)=[.slice (some ⟨0,0,none⟩) n c,.func (.func 111) #[] #[]] from by rw [hn]; rfl]
   rw [← hn] at hlen;conv=>whnf
   refine .inl ⟨fun mm tz hz=>∃ (j:Nat) (O:List Q2) (q:Nat) (F:Nat→List Value),bA (some (.slice (some ⟨0,0,none⟩) n c)::some (.func (.func 111) #[] #[])::aF 3 (some (eg 1 q)::aF 2 (some (.slice (some ⟨0,0,none⟩) n c)::some (.int .i64 n)::some (.int .i64 j)::aF 32 []))) tz∧hz=[some (.flat false n 6 g)]++zU 6 F q∧n - j=mm∧((j≤n∧q=O.length)∧O=sO L j∧(∀ r,r < q→F r=bS O r)),.inr ⟨[0],[0,1,5,8,9,10],?_⟩,?_⟩
   ·conv=>whnf
    intro _;conv=>whnf
    refine ⟨_,0,[],0,fun _=>[],(.aa (.aa (.sk 3 (.aa (.sk 2 (.aa (.aa (.aa (.sk 32 .nil rfl)))) rfl)) rfl))),rfl,rfl,?_⟩
    exact ⟨⟨Nat.zero_le _,rfl⟩,rfl,fun r hr=>absurd hr (Nat.not_lt_zero r)⟩
   rintro mm aT _ ⟨j,O,q,F,aw,rfl,rfl,⟨⟨hj,hq⟩,hO,hF⟩⟩
   obtain ⟨az,rfl⟩:∃ az:Nat→Value,aT=.slice (some ⟨0,0,none⟩) n c::.func (.func 111) #[] #[]::zs az 2 3 (eg 1 q::zs az 6 2 (.slice (some ⟨0,0,none⟩) n c::.int .i64 n::.int .i64 j::zs az 11 32 [])):=bI aw;clear aw;have tH:=WL L j;rw [← hO,← hq] at tH;cases q with
   | zero =>
    obtain rfl:O=[]:=List.eq_nil_of_length_eq_zero hq.symm;conv=>whnf
    refine aK (fun h1=>?_) (fun h1=>?_)
    ·have h1:j < n:=by
      have:=of_decide_eq_true h1;omega
     have e7:IntKind.i64.wrap ((j:Int)+1)=((j+1:Nat):Int):=by rw [ax (by omega) (by omega)]; rfl
     obtain ⟨a,ca,ra,pa,sa,qa⟩:=il (L:=L) (k:=dA n j) (by rw [← hn]; exact jt h1) ba
     obtain ⟨b,cb,rb,pb,sb,qb⟩:=il (L:=L) (k:=j) (by omega) ba
     obtain ⟨d,cd,rd,pd,sd,qd⟩:=il (L:=L) (k:=aX n j) (by rw [← hn]; exact cL h1) ba
     rw [← hg] at ra rb rd;have mu:=Df h1 (by omega)
     have cV:=lV h1 (by omega)
     have lE:dA n j < n:=jt h1;have cG:=cL h1;obtain ⟨u,hu⟩:∃ u,u=dA n j:=⟨_,rfl⟩;obtain ⟨w,hw⟩:∃ u,u=aX n j:=⟨_,rfl⟩;rw [← hu] at mu lE ra;rw [← hw] at cV cG rd;conv=>whnf
     refine ⟨⟨by omega,by omega⟩,?_⟩
     simp only [toNat_cast,ay,Nat.zero_add];conv=>whnf
     refine ⟨by show j < n; omega,?_⟩
     conv=>whnf
     rw [rb];conv=>whnf
     refine .inl ⟨21,[[],[],[],[],[3],[2,3,4],[2,3,4,5],[],[7],[2,3,4,5,6,7,8],[1,2,3,4,5,6,7,8,9],[1,2,3,4,5,6,7,8,9,10],[],[],[],[14],[],[16],[14,15,16,17],[13,14,15,16,17,18],[13,14,15,16,17,18,19],[0,1,2,3,4,5,6,7,8,9,10,11,12,13,14,15,16,17,18,19,20]],by kernel_rfl,?_⟩
     conv=>whnf
     rw [show decide ((n:Int)≠0)=true from decide_eq_true (by omega)]
     conv=>whnf
     rw [mu];refine ⟨⟨by omega,by omega⟩,?_⟩
     simp only [toNat_cast,ay,Nat.zero_add];conv=>whnf
     refine ⟨by show u < n; omega,?_⟩
     conv=>whnf
     rw [ra];conv=>whnf
     rw [show decide ((n:Int)≠0)=true from decide_eq_true (by omega)]
     conv=>whnf
     rw [cV];refine ⟨⟨by omega,by omega⟩,?_⟩
     simp only [toNat_cast,ay,Nat.zero_add];conv=>whnf
     refine ⟨by show w < n; omega,?_⟩
     conv=>whnf
     rw [rd];conv=>whnf
     obtain ⟨z,hz,au⟩:=Nq hn h1 pa cb cd;rw [← hO] at au;refine ⟨(a,b,d),rfl,⟨PV.aY sa (by decide),PV.aY sb (by decide),PV.aY sd (by decide)⟩,?_⟩
     rw [show vl.val (a,b,d)=.bool z from hz]
     conv=>whnf
     cases z with
     | false =>
      conv=>whnf
      rw [e7];refine .inr ⟨[0],[0,1,5,8,9,10],?_⟩;conv=>whnf
      intro _;conv=>whnf
      refine ⟨_,?_,j+1,[],0,F,(.aa (.aa (.sk 3 (.aa (.sk 2 (.aa (.aa (.aa (.sk 32 .nil rfl)))) rfl)) rfl))),rfl,rfl,?_⟩
      ·omega
      ·exact ⟨⟨by omega,rfl⟩,by rw [au]; rfl,hF⟩
     | true =>
      conv=>whnf
      refine ⟨by show (0+1)*80≤140737488355328; decide,?_⟩
      conv=>whnf
      rw [e7];refine .inr ⟨[0,24],[0,1,5,8,9,10],?_⟩;conv=>whnf
      intro _;conv=>whnf
      refine ⟨_,?_,j+1,[ar L j],1,_,(.aa (.aa (.sk 3 (.aa (.sk 2 (.aa (.aa (.aa (.sk 32 .nil rfl)))) rfl)) rfl))),rfl,rfl,?_⟩
      ·omega
      ·exact ⟨⟨by omega,rfl⟩,by rw [au]; rfl,wX cb rfl⟩
    ·have h1:j=n:=by
      have:=of_decide_eq_false h1;omega
     subst h1;have hE:jJ L=[]:=by rw [hO,hn]; exact (MI L).symm
     conv=>whnf
     rw [show (ky 110 111).new (some (L,c),true)=none from by show cW (jJ L)=none; rw [hE]; rfl]
     exact ⟨.slice none 0 0,by rw [show (ky 110 111).val (some (L,c),true)=.slice none 0 0 from by show eg _ (jJ L).length=_; rw [hE]; rfl]; rfl,.refl _⟩
   | succ q =>
    conv=>whnf
    refine aK (fun h1=>?_) (fun h1=>?_)
    ·have h1:j < n:=by
      have:=of_decide_eq_true h1;omega
     have e7:IntKind.i64.wrap ((j:Int)+1)=((j+1:Nat):Int):=by rw [ax (by omega) (by omega)]; rfl
     obtain ⟨a,ca,ra,pa,sa,qa⟩:=il (L:=L) (k:=dA n j) (by rw [← hn]; exact jt h1) ba
     obtain ⟨b,cb,rb,pb,sb,qb⟩:=il (L:=L) (k:=j) (by omega) ba
     obtain ⟨d,cd,rd,pd,sd,qd⟩:=il (L:=L) (k:=aX n j) (by rw [← hn]; exact cL h1) ba
     rw [← hg] at ra rb rd;have mu:=Df h1 (by omega)
     have cV:=lV h1 (by omega)
     have lE:dA n j < n:=jt h1;have cG:=cL h1;obtain ⟨u,hu⟩:∃ u,u=dA n j:=⟨_,rfl⟩;obtain ⟨w,hw⟩:∃ u,u=aX n j:=⟨_,rfl⟩;rw [← hu] at mu lE ra;rw [← hw] at cV cG rd;conv=>whnf
     refine ⟨⟨by omega,by omega⟩,?_⟩
     simp only [toNat_cast,ay,Nat.zero_add];conv=>whnf
     refine ⟨by show j < n; omega,?_⟩
     conv=>whnf
     rw [rb];conv=>whnf
     refine .inl ⟨21,[[],[],[],[],[3],[2,3,4],[2,3,4,5],[],[7],[2,3,4,5,6,7,8],[1,2,3,4,5,6,7,8,9],[1,2,3,4,5,6,7,8,9,10],[],[],[],[14],[],[16],[14,15,16,17],[13,14,15,16,17,18],[13,14,15,16,17,18,19],[0,1,2,3,4,5,6,7,8,9,10,11,12,13,14,15,16,17,18,19,20]],by kernel_rfl,?_⟩
     conv=>whnf
     rw [show decide ((n:Int)≠0)=true from decide_eq_true (by omega)]
     conv=>whnf
     rw [mu];refine ⟨⟨by omega,by omega⟩,?_⟩
     simp only [toNat_cast,ay,Nat.zero_add];conv=>whnf
     refine ⟨by show u < n; omega,?_⟩
     conv=>whnf
     rw [ra];conv=>whnf
     rw [show decide ((n:Int)≠0)=true from decide_eq_true (by omega)]
     conv=>whnf
     rw [cV];refine ⟨⟨by omega,by omega⟩,?_⟩
     simp only [toNat_cast,ay,Nat.zero_add];conv=>whnf
     refine ⟨by show w < n; omega,?_⟩
     conv=>whnf
     rw [rd];conv=>whnf
     obtain ⟨z,hz,au⟩:=Nq hn h1 pa cb cd;rw [← hO] at au;refine ⟨(a,b,d),rfl,⟨PV.aY sa (by decide),PV.aY sb (by decide),PV.aY sd (by decide)⟩,?_⟩
     rw [show vl.val (a,b,d)=.bool z from hz]
     conv=>whnf
     cases z with
     | false =>
      conv=>whnf
      rw [e7];refine .inr ⟨[0,1],[0,1,5,8,9,10],?_⟩;conv=>whnf
      intro _;conv=>whnf
      refine ⟨_,?_,j+1,O,q+1,F,(.aa (.aa (.sk 3 (.aa (.sk 2 (.aa (.aa (.aa (.sk 32 .nil rfl)))) rfl)) rfl))),rfl,rfl,?_⟩
      ·omega
      ·exact ⟨⟨by omega,hq⟩,by rw [au]; simp,hF⟩
     | true =>
      conv=>whnf
      refine ⟨⟨by show 1≤1; decide,rfl,by show (q+1+1)*80≤140737488355328; omega⟩,?_⟩
      conv=>whnf
      refine ⟨[0,1,8,9,10],?_⟩;conv=>whnf
      intro _;conv=>whnf
      rw [e7];refine .inr ⟨[0,1],[0,1,5,8,9,10],?_⟩;conv=>whnf
      intro _;conv=>whnf
      refine ⟨_,?_,j+1,O++[ar L j],q+1+1,_,(.aa (.aa (.sk 3 (.aa (.sk 2 (.aa (.aa (.aa (.sk 32 .nil rfl)))) rfl)) rfl))),rfl,rfl,?_⟩
      ·omega
      ·exact ⟨⟨by omega,by rw [List.length_append,← hq]; rfl⟩,by rw [au]; simp,rX hq hF cb rfl⟩
    ·have h1:j=n:=by
      have:=of_decide_eq_false h1;omega
     subst h1;have hE:jJ L=O:=by rw [hO,hn]; exact (MI L).symm
     conv=>whnf
     rw [show (ky 110 111).new (some (L,c),true)=some (.flat true (q+1) 6 (bS O)) from by show cW (jJ L)=_; rw [hE]; unfold cW; rw [← hq],show (ky 110 111).val (some (L,c),true)=.slice (some ⟨1,0,none⟩) (q+1) aM from by show eg _ (jJ L).length=_; rw [hE,← hq]; rfl]
     refine ⟨1,?_⟩;conv=>whnf
     exact ⟨⟨rfl,aG.rU (fun h=>h) hF (fun r hr=>rfl)⟩,_,rfl,.refl _⟩
open Go Go.Ae
def JW:Env:=En [(33,.p mU)]
theorem adJ:EnvOk Tryz.prog JW:=bD ⟨zj,trivial⟩ trivial
theorem Xd:fM Tryz.prog 145 (ck JW cI Tryz.f145):=by
 exact jc adJ aN Tryz.func145 (enters_of Tryz.func145 (by kernel_rfl) rfl)
def JX:Env:=En [] [(145,ck JW cI Tryz.f145)] [] true
theorem adK:EnvOk Tryz.prog JX:=bD trivial ⟨Xd,trivial⟩
theorem Uw:fM Tryz.prog 112 (ck JX cI Tryz.f112):=by
 exact jc adK aN Tryz.func112 (enters_of Tryz.func112 (by kernel_rfl) rfl)
abbrev jH:a9:=ky 110 111
def Ey2:Env:=En [(109,.q jH),(74,.p pG)] [(112,ck JX cI Tryz.f112)]
theorem adL:EnvOk Tryz.prog Ey2:=bD ⟨Z2,Ou,trivial⟩ ⟨Uw,trivial⟩
theorem Z3:cU Tryz.prog 58 fp:=by
 refine dh adL aN Tryz.func58 (enters_of Tryz.func58 (by kernel_rfl) rfl) ?_ ?_ ?_
 ·intro i B hb;cases i with
  | none=>simp [fp,QL.ae] at hb
  | some i=>simp [fp,QL.ae] at hb; rw [hb]; rfl
 ·intro i B hb;exact B9 hb
 intro i hp;have hp:i.list.length≤549755813888∧∀ v∈i.list,Q2.sz 262144 v:=hp;obtain ⟨hlen,ba⟩:=hp;cases i with
 | none =>
  conv=>whnf
  refine ⟨(none,false),[],rfl,⟨Nat.zero_le _,fun v hv=>nomatch hv⟩,?_⟩
  rw [show jH.ae (none,false)=[] from rfl,show jH.val (none,false)=.slice none 0 0 from rfl,show jH.new (none,false)=none from rfl]
  conv=>whnf
  refine ⟨_,rfl,?_⟩;conv=>whnf
  refine ⟨(none,true),[],rfl,⟨Nat.zero_le _,fun v hv=>nomatch hv⟩,?_⟩
  rw [show jH.ae (none,true)=[] from rfl,show jH.val (none,true)=.slice none 0 0 from rfl,show jH.new (none,true)=none from rfl]
  conv=>whnf
  refine ⟨_,rfl,?_⟩;conv=>whnf
  exact ⟨_,rfl,.refl _⟩
 | some i =>
  obtain ⟨L,c⟩:=i;have hlen:L.length≤549755813888:=hlen;have ba:∀ v∈L,Q2.sz 262144 v:=ba;obtain ⟨n,hn⟩:∃ n,n=L.length:=⟨_,rfl⟩;obtain ⟨g,hg⟩:∃ g,g=bS L:=⟨_,rfl⟩;obtain ⟨D,hD⟩:∃ D,D=sN false L:=⟨_,rfl⟩;obtain ⟨C,hC⟩:∃ C,C=sN true D:=⟨_,rfl⟩;have hR:fK L=if C.length < 3 then [] else eV C:=by rw [Vn,← hD,← hC]
  have JY:D.length≤n∧∀ v∈D,Q2.sz 262144 v:=⟨by rw [hD,hn]; exact (yr L).length_le,fun v hv=>ba v ((yr L).subset (by rw [hD] at hv; exact hv))⟩
  have DO:C.length≤n∧∀ v∈C,Q2.sz 262144 v:=⟨Nat.le_trans (by rw [hC]; exact (Bp D).length_le) JY.1,fun v hv=>JY.2 v ((Bp D).subset (by rw [hC] at hv; exact hv))⟩
  obtain ⟨cu,fm⟩:∃ c,c=aM:=⟨_,rfl⟩;obtain ⟨K,hK⟩:∃ K,K=gJ fp (some (L,c)):=⟨_,rfl⟩;have s7:∀ H:aA,fK L=[]→K (.slice none 0 0) H:=fun H h=>by
   rw [hK];unfold gJ;rw [show fp.new (some (L,c))=none from by show cW (fK L)=none; rw [h]; rfl,show fp.val (some (L,c))=.slice none 0 0 from by show eg _ (fK L).length=_; rw [h]; rfl]
   exact ⟨_,rfl,.refl _⟩
  rw [show fp.ae (some (L,c))=[.flat false n 6 g] from by rw [hn,hg]; rfl,show fp.args (some (L,c))=[.slice (some ⟨0,0,none⟩) n c] from by rw [hn]; rfl,← hK]
  rw [← hn] at hlen;conv=>whnf
  refine ⟨(some (L,c),false),[0],by rw [show jH.args (some (L,c),false)=[.slice (some ⟨0,0,none⟩) n c,.func (.func 110) #[] #[]] from by rw [hn]; rfl]; rfl,⟨by show L.length≤_; omega,ba⟩,?_⟩
  obtain ⟨d,hd⟩:∃ d,d=D.length:=⟨_,rfl⟩;rw [show jH.ae (some (L,c),false)=[.flat false n 6 g] from by rw [hn,hg]; rfl,show jH.val (some (L,c),false)=eg 1 d from by rw [hd,hD]; rfl,show jH.new (some (L,c),false)=cW D from by rw [hD]; rfl]
  cases d with
  | zero =>
   obtain rfl:D=[]:=List.eq_nil_of_length_eq_zero hd.symm;conv=>whnf
   refine ⟨aG.aR (fun h=>h) (fun r hr=>by rw [hg]; rfl),?_⟩
   conv=>whnf
   refine ⟨_,rfl,?_⟩;conv=>whnf
   refine ⟨(none,true),[],rfl,⟨Nat.zero_le _,fun v hv=>nomatch hv⟩,?_⟩
   rw [show jH.ae (none,true)=[] from rfl,show jH.val (none,true)=.slice none 0 0 from rfl,show jH.new (none,true)=none from rfl]
   conv=>whnf
   refine ⟨_,rfl,?_⟩;conv=>whnf
   exact s7 _ (by rw [hR,hC]; rfl)
  | succ d =>
   obtain ⟨G,hG⟩:∃ G,G=bS D:=⟨_,rfl⟩;rw [show cW D=some (.flat true (d+1) 6 G) from by unfold cW; rw [← hd,hG]]
   conv=>whnf
   refine ⟨aG.aR (fun h=>h) (fun r hr=>by rw [hg]; rfl),?_⟩
   conv=>whnf
   refine ⟨_,rfl,?_⟩;conv=>whnf
   obtain ⟨e,he⟩:∃ d,d=C.length:=⟨_,rfl⟩;refine ⟨(some (D,aM),true),[1],by rw [show jH.args (some (D,aM),true)=[.slice (some ⟨0,0,none⟩) (d+1) aM,.func (.func 111) #[] #[]] from by rw [hd]; rfl]; rfl,⟨by show D.length≤_; omega,JY.2⟩,?_⟩
   rw [show jH.ae (some (D,aM),true)=[.flat false (d+1) 6 G] from by rw [hd,hG]; rfl,show jH.val (some (D,aM),true)=eg 1 e from by rw [he,hC]; rfl,show jH.new (some (D,aM),true)=cW C from by rw [hC]; rfl]
   cases e with
   | zero =>
    obtain rfl:C=[]:=List.eq_nil_of_length_eq_zero he.symm;conv=>whnf
    refine ⟨aG.aR (fun h=>by cases h) (fun r hr=>by rw [hG]; rfl),?_⟩
    conv=>whnf
    refine ⟨_,rfl,?_⟩;conv=>whnf
    exact s7 _ (by rw [hR]; rfl)
   | succ e =>
    obtain ⟨E,hE⟩:∃ G,G=bS C:=⟨_,rfl⟩;rw [show cW C=some (.flat true (e+1) 6 E) from by unfold cW; rw [← he,hE]]
    conv=>whnf
    refine ⟨aG.aR (fun h=>by cases h) (fun r hr=>by rw [hG]; rfl),?_⟩
    conv=>whnf
    refine ⟨_,rfl,?_⟩;conv=>whnf
    by_cases h3:e+1 < 3
    ·rw [show decide (((e+1:Nat):Int) < 3)=true from decide_eq_true (by omega)]
     conv=>whnf
     exact s7 _ (by rw [hR,if_pos (by omega)])
    rw [show decide (((e+1:Nat):Int) < 3)=false from decide_eq_false (by omega)]
    rw [if_neg (by omega)] at hR
    obtain ⟨N,hN⟩:∃ N,N=e+1:=⟨_,rfl⟩;rw [← hN] at he;rw [← hN];obtain ⟨M,hM⟩:∃ N,N=d+1:=⟨_,rfl⟩;rw [← hM,← fm];conv=>whnf
    refine .inl ⟨fun mm tz hz=>∃ (i:Nat) (m:Nat),bA (some (.slice (some ⟨2,0,none⟩) N cu)::aF 2 (some (.int .i64 m)::aF 9 (some (.slice (some ⟨2,0,none⟩) N cu)::some (.int .i64 N)::some (.int .i64 i)::aF 21 []))) tz∧hz=[some (.flat false n 6 g),some (.flat true M 6 G),some (.flat true N 6 E)]∧N - i=mm∧(i≤N∧m=nZ C i),.inr ⟨[0,1,2],[0,3,13,14,15],?_⟩,?_⟩
    ·conv=>whnf
     intro _;conv=>whnf
     refine ⟨_,0,0,(.aa (.sk 2 (.aa (.sk 9 (.aa (.aa (.aa (.sk 21 .nil rfl)))) rfl)) rfl)),rfl,rfl,?_⟩;exact ⟨Nat.zero_le _,rfl⟩
    rintro mm aT _ ⟨i,m,aw,rfl,rfl,⟨hi,hm⟩⟩
    obtain ⟨az,rfl⟩:∃ az:Nat→Value,aT=.slice (some ⟨2,0,none⟩) N cu::zs az 1 2 (.int .i64 m::zs az 4 9 (.slice (some ⟨2,0,none⟩) N cu::.int .i64 N::.int .i64 i::zs az 16 21 [])):=bI aw;clear aw;have lH:m < N:=by rw [hm,he]; exact (KJ C i (by omega)).1 (by omega)
    conv=>whnf
    refine aK (fun h1=>?_) (fun h1=>?_)
    ·have h1:i < N:=by
      have:=of_decide_eq_true h1;omega
     have e7:IntKind.i64.wrap ((i:Int)+1)=((i+1:Nat):Int):=by rw [ax (by omega) (by omega)]; rfl
     obtain ⟨p,cp,rp,pp,sp,qp⟩:=il (L:=C) (k:=i) (by omega) DO.2
     obtain ⟨q,cq,rq,pq,sq,qq⟩:=il (L:=C) (k:=m) (by omega) DO.2
     rw [← hE] at rp rq;conv=>whnf
     refine ⟨⟨by omega,by omega⟩,?_⟩
     simp only [toNat_cast,ay,Nat.zero_add];conv=>whnf
     refine ⟨by show i < N; omega,?_⟩
     conv=>whnf
     rw [rp];conv=>whnf
     refine .inl ⟨5,[[],[],[],[1,2],[1,2,3],[0,1,2,3,4],[0,1,2,3,4,5]],by kernel_rfl,?_⟩
     conv=>whnf
     refine ⟨⟨by omega,by omega⟩,?_⟩
     simp only [toNat_cast,ay,Nat.zero_add];conv=>whnf
     refine ⟨by show m < N; omega,?_⟩
     conv=>whnf
     rw [rq];conv=>whnf
     obtain ⟨z,ez,pz⟩:=ef (fH p.p q.p);refine ⟨(p,q),rfl,⟨PV.aY sp (by decide),PV.aY sq (by decide)⟩,?_⟩
     rw [show pG.val (p,q)=.int .i64 z from ez]
     conv=>whnf
     rw [pp,pq] at pz;have tH:nZ C (i+1)=if z < 0 then i else m:=by
      show (if fH (ar C i) (ar C (nZ C i)) < 0 then i else nZ C i)=_
      rw [pz,hm]
     refine aK (fun J=>?_) (fun J=>?_)
     ·have J:z < 0:=of_decide_eq_true J;conv=>whnf
      rw [e7];refine .inr ⟨[0,1,2],[0,3,13,14,15],?_⟩;conv=>whnf
      intro _;conv=>whnf
      refine ⟨_,?_,i+1,i,(.aa (.sk 2 (.aa (.sk 9 (.aa (.aa (.aa (.sk 21 .nil rfl)))) rfl)) rfl)),rfl,rfl,?_⟩
      ·omega
      ·exact ⟨by omega,by rw [tH,if_pos J]⟩
     ·have J:¬ z < 0:=of_decide_eq_false J;conv=>whnf
      rw [e7];refine .inr ⟨[0,1,2],[0,3,13,14,15],?_⟩;conv=>whnf
      intro _;conv=>whnf
      refine ⟨_,?_,i+1,m,(.aa (.sk 2 (.aa (.sk 9 (.aa (.aa (.aa (.sk 21 .nil rfl)))) rfl)) rfl)),rfl,rfl,?_⟩
      ·omega
      ·exact ⟨by omega,by rw [tH,if_neg J]⟩
    ·have h1:i=N:=by
      have:=of_decide_eq_false h1;omega
     subst h1;conv=>whnf
     refine .inl ⟨6,[[],[],[0,1],[],[],[3,4],[0,1,2,3,4,5],[0,1,2,3,4,5,6],[0,1,2,3,4,5,6,7]],by kernel_rfl,?_⟩
     conv=>whnf
     refine ⟨⟨by omega,by omega,by omega⟩,?_⟩
     rw [show Int.toNat (i:Int) - Int.toNat (m:Int)=i - m from rfl,show Int.toNat (m:Int)=m from rfl,ay,Nat.zero_add]
     conv=>whnf
     refine ⟨⟨by omega,by omega,by omega⟩,?_⟩
     conv=>whnf
     obtain ⟨a,ha⟩:∃ a,a=i - m:=⟨_,rfl⟩;obtain ⟨ca,hca⟩:∃ a,a=uG cu m:=⟨_,rfl⟩;obtain ⟨cb,hcb⟩:∃ a,a=uG cu (Int.toNat 0):=⟨_,rfl⟩;rw [← ha,← hca,← hcb,show eZ 0 (Int.toNat 0)=0 from rfl,show Int.toNat (m:Int) - Int.toNat 0=m from rfl,Nat.zero_add]
     have w1:IntKind.i64.wrap (0+(a:Int))=(a:Int):=by rw [ax (by omega) (by omega)]; omega
     have w2:IntKind.i64.wrap ((a:Int)+(m:Int))=(i:Int):=by rw [ax (by omega) (by omega)]; omega
     refine .inr ⟨3,?_⟩;conv=>whnf
     refine ⟨by decide,?_⟩
     conv=>whnf
     rw [w1,show decide ((a:Int) < 0)=false from decide_eq_false (by omega)]
     conv=>whnf
     refine ⟨by decide,?_⟩
     conv=>whnf
     rw [w2,show decide ((i:Int) < 0)=false from decide_eq_false (by omega)]
     conv=>whnf
     have w3:IntKind.i64.wrap ((i:Int) - IntKind.i64.wrap (0 - ((0:Nat):Int)))=(i:Int):=by
      rw [show IntKind.i64.wrap (0 - ((0:Nat):Int))=0 from rfl,ax (by omega) (by omega)]; omega
     rw [w3,show decide ((i:Int) > 0)=true from decide_eq_true (by omega)]
     conv=>whnf
     refine ⟨⟨by omega,by omega,by omega⟩,?_⟩
     conv=>whnf
     refine ⟨⟨by omega,by show (i:Int)*((80:Nat):Int)≤_; omega⟩,?_⟩
     conv=>whnf
     refine ⟨⟨by omega,by omega,by omega⟩,?_⟩
     rw [show (0:Int).toNat=0 from rfl,show eZ 0 0=0 from rfl]
     conv=>whnf
     refine .inr ⟨3,?_⟩;conv=>whnf
     refine ⟨by decide,?_⟩
     conv=>whnf
     refine ⟨by omega,?_⟩
     conv=>whnf
     rw [show Int.toNat (((0:Nat):Int)) - 0=0 from rfl,show (Src.fl a fun j=>E (eZ (0+m) j)).m=a from rfl,Nat.zero_add]
     refine ⟨⟨by decide,⟨Nat.zero_le _,rfl⟩,by show (0+a)*80≤_; omega⟩,?_⟩
     conv=>whnf
     refine ⟨[25,26,27],?_⟩;conv=>whnf
     intro _;conv=>whnf
     refine ⟨by decide,?_⟩
     conv=>whnf
     refine ⟨by omega,?_⟩
     conv=>whnf
     rw [show (Src.fl m fun j=>E (eZ 0 j)).m=m from rfl]
     refine ⟨⟨by decide,⟨Nat.le_refl _,rfl⟩,by show (0+a+m)*80≤_; omega⟩,?_⟩
     conv=>whnf
     refine ⟨[25,26,27],?_⟩;conv=>whnf
     intro _;conv=>whnf
     rw [show 0+a+m=i from by omega]
     have hl:(fK L).length=i:=by rw [hR,Bo]; omega
     rw [hK];unfold gJ;rw [show fp.new (some (L,c))=some (.flat true i 6 (bS (fK L))) from Oe hl (by omega),show fp.val (some (L,c))=.slice (some ⟨1,0,none⟩) i aM from (congrArg (eg 1) hl).trans (Of (by omega))]
     refine ⟨10,?_⟩;conv=>whnf
     refine ⟨⟨rfl,aG.rU (fun h=>h) (fun r hr=>?_) (fun r hr=>rfl)⟩,_,rfl,.refl _⟩
     rw [hR,Vj (L:=C) (fun r hr=>by rw [hE]) (by omega) (by omega) r (by omega),hm,he]
     rfl
open Go Go.Ae
def JZ:Env:=En [(70,.p qz),(34,.p iJ),(38,.p gQ),(71,.p qN),(39,.p xV)] [(64,ck nf cI Tryz.f64)] [(118,uD)]
theorem adM:EnvOk Tryz.prog JZ:=bD ⟨MT,Gp,xl,Ov,aci,trivial⟩ ⟨wY,trivial⟩
theorem aco:gP Tryz.prog JZ:=vP ⟨wJ,trivial⟩
def QC:Nat→FT→Nu→FT:=fun l G nu=>ck { JZ with ys:=[(l,G)],nu:=nu } cI Tryz.f114
theorem Z4:zN Tryz.prog 114 QC:=by
 exact Pf adM aN Tryz.func114 (enters_of Tryz.func114 (by kernel_rfl) rfl) (hI:=aco)
def Eu:Env:=En [] [] [(114,QC)]
theorem adN:EnvOk Tryz.prog Eu:=bD trivial trivial
theorem acp:gP Tryz.prog Eu:=vP ⟨Z4,trivial⟩
theorem Z5:fM Tryz.prog 113 (ck Eu cI Tryz.f113):=by
 exact jc adN aN Tryz.func113 (enters_of Tryz.func113 (by kernel_rfl) rfl) (hI:=acp)
def Ez3:Env:=En [] [(113,ck Eu cI Tryz.f113)]
theorem adO:EnvOk Tryz.prog Ez3:=bD trivial ⟨Z5,trivial⟩
abbrev iF:a9:=IE 114
theorem acq:cU Tryz.prog 59 iF:=by
 refine dh adO aN Tryz.func59 (enters_of Tryz.func59 (by kernel_rfl) rfl) ?_ ?_ ?_
 ·intro ⟨i,_⟩ B hb;cases i with
  | none=>simp [iF,IE,QL.ae] at hb; rcases hb with rfl | rfl | rfl <;> rfl
  | some i=>simp [iF,IE,QL.ae] at hb; rcases hb with rfl | rfl | rfl | rfl <;> rfl
 ·intro i B hb;exact B9 hb
 intro ⟨i,a,b⟩ hp;have hp:i.list.length≤1073741824∧(∀ v∈i.list,Q2.sz 2048 v)∧a.sz 2048∧b.sz 2048:=hp;obtain ⟨hlen,ba,sa,sb⟩:=hp;have qa:=PV.dg sa (by decide)
 have qb:=PV.dg sb (by decide)
 cases i with
 | none =>
  conv=>whnf
  intro yl nu fn tm df;conv=>whnf
  intro J0 nu2 RM RN RO;conv=>whnf
  refine .inr ⟨1,?_⟩;conv=>whnf
  exact ⟨_,rfl,.refl _⟩
 | some i =>
  obtain ⟨L,c⟩:=i;have hlen:L.length≤1073741824:=hlen;have ba:∀ v∈L,Q2.sz 2048 v:=ba;obtain ⟨n,hn⟩:∃ n,n=L.length:=⟨_,rfl⟩;obtain ⟨g,hg⟩:∃ g,g=bS L:=⟨_,rfl⟩;obtain ⟨K,hK⟩:∃ K,K=gJ iF (some (L,c),(a,b)):=⟨_,rfl⟩;rw [show iF.ae (some (L,c),(a,b))=[.flat false n 6 g,.aO false 1 [[.slice (some ⟨0,0,none⟩) n c]],.aO false 6 [a.cells],.aO false 6 [b.cells]] from by rw [hn,hg]; rfl,show iF.args (some (L,c),(a,b))=[.func (.func 114) #[] #[.pointer (some ⟨1,0,none⟩),.pointer (some ⟨2,0,none⟩),.pointer (some ⟨3,0,none⟩)]] from rfl,← hK]
  rw [← hn] at hlen;conv=>whnf
  intro yl nu fn tm df;conv=>whnf
  intro J0 nu2 RM RN RO;conv=>whnf
  refine .inl ⟨fun mm tz hz=>∃ (j:Nat) (O:List Q2) (q:Nat) (F:Nat→List Value),bA (some (.func (.yield J0) #[] #[])::some (.pointer (some ⟨7,0,none⟩))::aF 3 (some (.slice (some ⟨0,0,none⟩) n c)::some (.int .i64 n)::some (.int .i64 j)::aF 17 [])) tz∧hz=[some (.flat false n 6 g),some (.aO false 1 [[.slice (some ⟨0,0,none⟩) n c]]),some (.aO false 6 [a.cells]),some (.aO false 6 [b.cells]),some (.aO true 1 [[eg 9 q]]),some (.cg (qV Tryz.f113 fn tm df)),some (.aO true 1 [[.func (.yield yl) #[] #[]]]),some (.aO true 1 [[.slice (some ⟨0,0,none⟩) n c]]),some (.cg (qV Tryz.f114 RM RN RO))]++zU 6 F q∧n - j=mm∧((j≤n∧q=O.length)∧O=((aU L).take j).flatMap (nJ (bG a.p b.p))∧∀ r,r < q→F r=bS O r),.inr ⟨[0,1,2,3,4,5,6,7,8],[0,1,5,6,7],?_⟩,?_⟩
  ·conv=>whnf
   intro _;conv=>whnf
   refine ⟨_,0,[],0,fun _=>[],(.aa (.aa (.sk 3 (.aa (.aa (.aa (.sk 17 .nil rfl)))) rfl))),rfl,rfl,?_⟩
   exact ⟨⟨Nat.zero_le _,rfl⟩,rfl,fun r hr=>absurd hr (Nat.not_lt_zero r)⟩
  rintro mm aT _ ⟨j,O,q,F,aw,rfl,rfl,⟨⟨hj,hq⟩,hO,hF⟩⟩
  obtain ⟨az,rfl⟩:∃ az:Nat→Value,aT=.func (.yield J0) #[] #[]::.pointer (some ⟨7,0,none⟩)::zs az 2 3 (.slice (some ⟨0,0,none⟩) n c::.int .i64 n::.int .i64 j::zs az 8 17 []):=bI aw;clear aw;have tH:=XX (bG a.p b.p) L j;rw [← hO,← hq] at tH;cases q with
  | zero =>
   obtain rfl:O=[]:=List.eq_nil_of_length_eq_zero hq.symm;conv=>whnf
   refine aK (fun h7=>?_) (fun h7=>?_)
   ·have h7:j < n:=by
     have:=of_decide_eq_true h7;omega
    have e8:IntKind.i64.wrap ((j:Int)+1)=((j+1:Nat):Int):=by rw [ax (by omega) (by omega)]; rfl
    obtain ⟨u,cu,ru,pu,su,qu⟩:=il (L:=L) (k:=j) (by omega) ba
    obtain ⟨v,cv,rv,pv,sv,qv⟩:=il (L:=L) (k:=aX n j) (by rw [hn]; exact cL (by omega)) ba
    have cV:=lV h7 (by omega)
    have cG:=cL h7;have ib:(aU L)[j]?=some (u.p,v.p):=by rw [pu,pv]; rw [hn] at cG ⊢; exact qe (ij (by omega)) (ij cG)
    rw [← pu] at cu;obtain ⟨k,hk⟩:∃ u,u=aX n j:=⟨_,rfl⟩;rw [← hk] at cV cG rv;rw [← hg] at ru rv;conv=>whnf
    refine ⟨⟨by omega,by omega⟩,?_⟩
    simp only [toNat_cast,ay,Nat.zero_add];conv=>whnf
    refine ⟨by show j < n; omega,?_⟩
    conv=>whnf
    rw [ru];conv=>whnf
    refine .inl ⟨10,[[],[],[],[],[3],[],[5],[3,4,5,6],[2,3,4,5,6,7],[2,3,4,5,6,7,8],[0,1,2,3,4,5,6,7,8,9],[0,1,2,3,4,5,6,7,8,9,10]],by kernel_rfl,?_⟩
    conv=>whnf
    rw [show decide ((n:Int)≠0)=true from decide_eq_true (by omega)]
    conv=>whnf
    rw [cV];refine ⟨⟨by omega,by omega⟩,?_⟩
    simp only [toNat_cast,ay,Nat.zero_add];conv=>whnf
    refine ⟨by show k < n; omega,?_⟩
    conv=>whnf
    rw [rv];conv=>whnf
    refine ⟨rfl,?_⟩;conv=>whnf
    refine ⟨rfl,?_⟩;conv=>whnf
    refine ⟨rfl,?_⟩;conv=>whnf
    refine .inl ⟨10,[[],[],[],[0,1,2],[],[],[],[0,1,2,3,4,5,6],[],[],[0,1,2,3,4,5,6,7,8,9],[0,1,2,3,4,5,6,7,8,9,10]],by kernel_rfl,?_⟩
    conv=>whnf
    obtain ⟨x,ex,px,sx,qx⟩:=gR (xN qa qb qu);refine ⟨(a,b,u),rfl,⟨PV.aY sa (by decide),PV.aY sb (by decide),PV.aY su (by decide)⟩,?_⟩
    rw [show qz.val (a,b,u)=x.v from ex]
    conv=>whnf
    obtain ⟨y,ey,py,sy,qy⟩:=gR (xN qa qb qv);refine ⟨(a,b,v),rfl,⟨PV.aY sa (by decide),PV.aY sb (by decide),PV.aY sv (by decide)⟩,?_⟩
    rw [show qz.val (a,b,v)=y.v from ey]
    conv=>whnf
    obtain ⟨z,ez,pz⟩:=ef (aW x.q 0);refine ⟨x,rfl,RV.bZ sx (by decide),?_⟩
    rw [show iJ.val x=.int .i64 z from ez]
    conv=>whnf
    have hz:=p8 x.q 0;rw [← pz] at hz;have au:=MJ (w:=cj (atR u.p v.p (x.q / (x.q - y.q)))) ib hO (px.trans (cO _ _ _).symm) (py.trans (cO _ _ _).symm) (gF _);rw [← pz] at au;by_cases h8:z ≥ 0
    ·rw [show decide (z ≥ 0)=true from decide_eq_true h8]
     rw [if_pos h8] at au;conv=>whnf
     refine ⟨rfl,?_⟩;conv=>whnf
     refine ⟨rfl,?_⟩;conv=>whnf
     refine ⟨rfl,?_⟩;conv=>whnf
     refine ⟨by decide,?_⟩
     conv=>whnf
     refine ⟨rfl,?_⟩;conv=>whnf
     refine .inl ⟨3,[[],[0],[],[0,1,2],[0,1,2,3],[0,1,2,3,4]],by kernel_rfl,?_⟩
     conv=>whnf
     obtain ⟨z3,vU,vV⟩:=ef (aW x.q 0);refine ⟨x,rfl,RV.bZ sx (by decide),?_⟩
     rw [show iJ.val x=.int .i64 z3 from vU]
     conv=>whnf
     obtain ⟨z2,vW,oV⟩:=ef (aW y.q 0);refine ⟨y,rfl,RV.bZ sy (by decide),?_⟩
     rw [show iJ.val y=.int .i64 z2 from vW]
     conv=>whnf
     have nX:=p8 y.q 0;rw [← oV] at nX;obtain rfl:z3=z:=vV.trans pz.symm;rw [show IntKind.i64.wrap (z3*z2)=z3*z2 from by rcases hz with rfl | rfl | rfl <;> rcases nX with rfl | rfl | rfl <;> rfl]
     rw [← oV] at au;by_cases h9:z3*z2 < 0
     ·rw [show decide (z3*z2 < 0)=true from decide_eq_true h9]
      rw [if_pos h9] at au;conv=>whnf
      refine .inr (.inr (.inl ⟨9,1,[[],[],[],[1,2],[0,1,2,3],[0,1,2,3,4],[0,1,2,3,4,5],[0,1,2,3,4,5],[],[0,1,2,3,4,5,6,8],[0,1,2,3,4,5,6,7,8,9]],[7],by kernel_rfl,?_⟩))
      conv=>whnf
      obtain ⟨d2,kN,vX,vY,vZ⟩:=gR (QB.sub qx qy);refine ⟨(x,y),rfl,⟨RV.bZ sx (by decide),RV.bZ sy (by decide)⟩,?_⟩
      rw [show gQ.val (x,y)=d2.v from kN]
      conv=>whnf
      obtain ⟨t,et,pt,st,qt⟩:=gR (QB.div qx vZ (by decide))
      obtain ⟨e,ee,pe⟩:=ef (if d2.q=0 then 10 else 0)
      refine ⟨(x,d2),rfl,⟨RV.bZ sx (by decide),RV.bZ vY (by decide)⟩,?_⟩
      rw [show qN.val (x,d2)=.tuple ⟨[t.v,.int .i64 e]⟩ from by rw [← et,← ee]; rfl]
      conv=>whnf
      refine .inl ⟨5,[[],[],[],[],[1,2,3],[0,1,2,3,4],[0,1,2,3,4,5]],by kernel_rfl,?_⟩
      conv=>whnf
      obtain ⟨w,ew,pw,sw,qw⟩:=sL (zH qu qv qt);refine ⟨((u,v),t),rfl,⟨⟨PV.aY su (by decide),PV.aY sv (by decide)⟩,RV.aY st (by decide)⟩,?_⟩
      rw [show xV.val ((u,v),t)=w.v from ew]
      conv=>whnf
      have cw:=(PV.oq ew).symm;rw [← pw] at cw;rw [show (cj (atR u.p v.p (x.q / (x.q - y.q)))).p=w.p from by rw [gF,pw,pt,vX]] at au
      refine ⟨rfl,?_⟩;conv=>whnf
      refine ⟨rfl,?_⟩;conv=>whnf
      refine ⟨rfl,?_⟩;conv=>whnf
      refine ⟨⟨rfl,by show (0+1+1)*80≤140737488355328; decide⟩,?_⟩
      conv=>whnf
      refine ⟨rfl,?_⟩;conv=>whnf
      refine ⟨rfl,?_⟩;conv=>whnf
      rw [e8];refine .inr ⟨[0,1,2,3,4,5,6,7,8,54],[0,1,5,6,7],?_⟩;conv=>whnf
      intro _;conv=>whnf
      refine ⟨_,?_,j+1,[u.p]++[w.p],0+1+1,_,(.aa (.aa (.sk 3 (.aa (.aa (.aa (.sk 17 .nil rfl)))) rfl))),rfl,rfl,?_⟩
      ·omega
      ·exact ⟨⟨by omega,rfl⟩,by rw [au]; rfl,rX (O:=[u.p]) rfl (wX cu rfl) cw rfl⟩
     ·rw [show decide (z3*z2 < 0)=false from decide_eq_false h9]
      rw [if_neg h9] at au;conv=>whnf
      refine ⟨rfl,?_⟩;conv=>whnf
      rw [e8];refine .inr ⟨[0,1,2,3,4,5,6,7,8,34],[0,1,5,6,7],?_⟩;conv=>whnf
      intro _;conv=>whnf
      refine ⟨_,?_,j+1,[u.p],0+1,_,(.aa (.aa (.sk 3 (.aa (.aa (.aa (.sk 17 .nil rfl)))) rfl))),rfl,rfl,?_⟩
      ·omega
      ·exact ⟨⟨by omega,rfl⟩,by rw [au]; rfl,wX cu rfl⟩
    ·rw [show decide (z ≥ 0)=false from decide_eq_false h8]
     rw [if_neg h8] at au;conv=>whnf
     refine .inl ⟨3,[[],[0],[],[0,1,2],[0,1,2,3],[0,1,2,3,4]],by kernel_rfl,?_⟩
     conv=>whnf
     obtain ⟨z3,vU,vV⟩:=ef (aW x.q 0);refine ⟨x,rfl,RV.bZ sx (by decide),?_⟩
     rw [show iJ.val x=.int .i64 z3 from vU]
     conv=>whnf
     obtain ⟨z2,vW,oV⟩:=ef (aW y.q 0);refine ⟨y,rfl,RV.bZ sy (by decide),?_⟩
     rw [show iJ.val y=.int .i64 z2 from vW]
     conv=>whnf
     have nX:=p8 y.q 0;rw [← oV] at nX;obtain rfl:z3=z:=vV.trans pz.symm;rw [show IntKind.i64.wrap (z3*z2)=z3*z2 from by rcases hz with rfl | rfl | rfl <;> rcases nX with rfl | rfl | rfl <;> rfl]
     rw [← oV] at au;by_cases h9:z3*z2 < 0
     ·rw [show decide (z3*z2 < 0)=true from decide_eq_true h9]
      rw [if_pos h9] at au;conv=>whnf
      refine .inr (.inr (.inl ⟨9,1,[[],[],[],[1,2],[0,1,2,3],[0,1,2,3,4],[0,1,2,3,4,5],[0,1,2,3,4,5],[],[0,1,2,3,4,5,6,8],[0,1,2,3,4,5,6,7,8,9]],[7],by kernel_rfl,?_⟩))
      conv=>whnf
      obtain ⟨d2,kN,vX,vY,vZ⟩:=gR (QB.sub qx qy);refine ⟨(x,y),rfl,⟨RV.bZ sx (by decide),RV.bZ sy (by decide)⟩,?_⟩
      rw [show gQ.val (x,y)=d2.v from kN]
      conv=>whnf
      obtain ⟨t,et,pt,st,qt⟩:=gR (QB.div qx vZ (by decide))
      obtain ⟨e,ee,pe⟩:=ef (if d2.q=0 then 10 else 0)
      refine ⟨(x,d2),rfl,⟨RV.bZ sx (by decide),RV.bZ vY (by decide)⟩,?_⟩
      rw [show qN.val (x,d2)=.tuple ⟨[t.v,.int .i64 e]⟩ from by rw [← et,← ee]; rfl]
      conv=>whnf
      refine .inl ⟨5,[[],[],[],[],[1,2,3],[0,1,2,3,4],[0,1,2,3,4,5]],by kernel_rfl,?_⟩
      conv=>whnf
      obtain ⟨w,ew,pw,sw,qw⟩:=sL (zH qu qv qt);refine ⟨((u,v),t),rfl,⟨⟨PV.aY su (by decide),PV.aY sv (by decide)⟩,RV.aY st (by decide)⟩,?_⟩
      rw [show xV.val ((u,v),t)=w.v from ew]
      conv=>whnf
      have cw:=(PV.oq ew).symm;rw [← pw] at cw;rw [show (cj (atR u.p v.p (x.q / (x.q - y.q)))).p=w.p from by rw [gF,pw,pt,vX]] at au
      refine ⟨rfl,?_⟩;conv=>whnf
      refine ⟨rfl,?_⟩;conv=>whnf
      refine ⟨rfl,?_⟩;conv=>whnf
      refine ⟨by decide,?_⟩
      conv=>whnf
      refine ⟨rfl,?_⟩;conv=>whnf
      refine ⟨rfl,?_⟩;conv=>whnf
      rw [e8];refine .inr ⟨[0,1,2,3,4,5,6,7,8,51],[0,1,5,6,7],?_⟩;conv=>whnf
      intro _;conv=>whnf
      refine ⟨_,?_,j+1,[w.p],0+1,_,(.aa (.aa (.sk 3 (.aa (.aa (.aa (.sk 17 .nil rfl)))) rfl))),rfl,rfl,?_⟩
      ·omega
      ·exact ⟨⟨by omega,rfl⟩,by rw [au]; rfl,wX cw rfl⟩
     ·rw [show decide (z3*z2 < 0)=false from decide_eq_false h9]
      rw [if_neg h9] at au;conv=>whnf
      refine ⟨rfl,?_⟩;conv=>whnf
      rw [e8];refine .inr ⟨[0,1,2,3,4,5,6,7,8],[0,1,5,6,7],?_⟩;conv=>whnf
      intro _;conv=>whnf
      refine ⟨_,?_,j+1,[],0,fun _=>[],(.aa (.aa (.sk 3 (.aa (.aa (.aa (.sk 17 .nil rfl)))) rfl))),rfl,rfl,?_⟩
      ·omega
      ·exact ⟨⟨by omega,rfl⟩,by rw [au]; rfl,fun r hr=>absurd hr (Nat.not_lt_zero r)⟩
   ·have h7:j=n:=by
     have:=of_decide_eq_false h7;omega
    subst h7;have Aa:db (bG a.p b.p) L=[]:=by rw [hO,hn]; exact (Nr _ L).symm
    conv=>whnf
    rw [hK];unfold gJ;rw [show iF.new (some (L,c),(a,b))=none from by show cW (db (bG a.p b.p) L)=none; rw [Aa]; rfl,show iF.val (some (L,c),(a,b))=.slice none 0 0 from by show eg _ (db (bG a.p b.p) L).length=_; rw [Aa]; rfl]
    exact ⟨_,rfl,.refl _⟩
  | succ q =>
   conv=>whnf
   refine aK (fun h7=>?_) (fun h7=>?_)
   ·have h7:j < n:=by
     have:=of_decide_eq_true h7;omega
    have e8:IntKind.i64.wrap ((j:Int)+1)=((j+1:Nat):Int):=by rw [ax (by omega) (by omega)]; rfl
    obtain ⟨u,cu,ru,pu,su,qu⟩:=il (L:=L) (k:=j) (by omega) ba
    obtain ⟨v,cv,rv,pv,sv,qv⟩:=il (L:=L) (k:=aX n j) (by rw [hn]; exact cL (by omega)) ba
    have cV:=lV h7 (by omega)
    have cG:=cL h7;have ib:(aU L)[j]?=some (u.p,v.p):=by rw [pu,pv]; rw [hn] at cG ⊢; exact qe (ij (by omega)) (ij cG)
    rw [← pu] at cu;obtain ⟨k,hk⟩:∃ u,u=aX n j:=⟨_,rfl⟩;rw [← hk] at cV cG rv;rw [← hg] at ru rv;conv=>whnf
    refine ⟨⟨by omega,by omega⟩,?_⟩
    simp only [toNat_cast,ay,Nat.zero_add];conv=>whnf
    refine ⟨by show j < n; omega,?_⟩
    conv=>whnf
    rw [ru];conv=>whnf
    refine .inl ⟨10,[[],[],[],[],[3],[],[5],[3,4,5,6],[2,3,4,5,6,7],[2,3,4,5,6,7,8],[0,1,2,3,4,5,6,7,8,9],[0,1,2,3,4,5,6,7,8,9,10]],by kernel_rfl,?_⟩
    conv=>whnf
    rw [show decide ((n:Int)≠0)=true from decide_eq_true (by omega)]
    conv=>whnf
    rw [cV];refine ⟨⟨by omega,by omega⟩,?_⟩
    simp only [toNat_cast,ay,Nat.zero_add];conv=>whnf
    refine ⟨by show k < n; omega,?_⟩
    conv=>whnf
    rw [rv];conv=>whnf
    refine ⟨rfl,?_⟩;conv=>whnf
    refine ⟨rfl,?_⟩;conv=>whnf
    refine ⟨rfl,?_⟩;conv=>whnf
    refine .inl ⟨10,[[],[],[],[0,1,2],[],[],[],[0,1,2,3,4,5,6],[],[],[0,1,2,3,4,5,6,7,8,9],[0,1,2,3,4,5,6,7,8,9,10]],by kernel_rfl,?_⟩
    conv=>whnf
    obtain ⟨x,ex,px,sx,qx⟩:=gR (xN qa qb qu);refine ⟨(a,b,u),rfl,⟨PV.aY sa (by decide),PV.aY sb (by decide),PV.aY su (by decide)⟩,?_⟩
    rw [show qz.val (a,b,u)=x.v from ex]
    conv=>whnf
    obtain ⟨y,ey,py,sy,qy⟩:=gR (xN qa qb qv);refine ⟨(a,b,v),rfl,⟨PV.aY sa (by decide),PV.aY sb (by decide),PV.aY sv (by decide)⟩,?_⟩
    rw [show qz.val (a,b,v)=y.v from ey]
    conv=>whnf
    obtain ⟨z,ez,pz⟩:=ef (aW x.q 0);refine ⟨x,rfl,RV.bZ sx (by decide),?_⟩
    rw [show iJ.val x=.int .i64 z from ez]
    conv=>whnf
    have hz:=p8 x.q 0;rw [← pz] at hz;have au:=MJ (w:=cj (atR u.p v.p (x.q / (x.q - y.q)))) ib hO (px.trans (cO _ _ _).symm) (py.trans (cO _ _ _).symm) (gF _);rw [← pz] at au;by_cases h8:z ≥ 0
    ·rw [show decide (z ≥ 0)=true from decide_eq_true h8]
     rw [if_pos h8] at au;conv=>whnf
     refine ⟨rfl,?_⟩;conv=>whnf
     refine ⟨rfl,?_⟩;conv=>whnf
     refine ⟨rfl,?_⟩;conv=>whnf
     refine ⟨⟨rfl,by show (q+1+1)*80≤140737488355328; omega⟩,?_⟩
     conv=>whnf
     refine ⟨rfl,?_⟩;conv=>whnf
     refine .inl ⟨3,[[],[0],[],[0,1,2],[0,1,2,3],[0,1,2,3,4]],by kernel_rfl,?_⟩
     conv=>whnf
     obtain ⟨z3,vU,vV⟩:=ef (aW x.q 0);refine ⟨x,rfl,RV.bZ sx (by decide),?_⟩
     rw [show iJ.val x=.int .i64 z3 from vU]
     conv=>whnf
     obtain ⟨z2,vW,oV⟩:=ef (aW y.q 0);refine ⟨y,rfl,RV.bZ sy (by decide),?_⟩
     rw [show iJ.val y=.int .i64 z2 from vW]
     conv=>whnf
     have nX:=p8 y.q 0;rw [← oV] at nX;obtain rfl:z3=z:=vV.trans pz.symm;rw [show IntKind.i64.wrap (z3*z2)=z3*z2 from by rcases hz with rfl | rfl | rfl <;> rcases nX with rfl | rfl | rfl <;> rfl]
     rw [← oV] at au;by_cases h9:z3*z2 < 0
     ·rw [show decide (z3*z2 < 0)=true from decide_eq_true h9]
      rw [if_pos h9] at au;conv=>whnf
      refine .inr (.inr (.inl ⟨9,1,[[],[],[],[1,2],[0,1,2,3],[0,1,2,3,4],[0,1,2,3,4,5],[0,1,2,3,4,5],[],[0,1,2,3,4,5,6,8],[0,1,2,3,4,5,6,7,8,9]],[7],by kernel_rfl,?_⟩))
      conv=>whnf
      obtain ⟨d2,kN,vX,vY,vZ⟩:=gR (QB.sub qx qy);refine ⟨(x,y),rfl,⟨RV.bZ sx (by decide),RV.bZ sy (by decide)⟩,?_⟩
      rw [show gQ.val (x,y)=d2.v from kN]
      conv=>whnf
      obtain ⟨t,et,pt,st,qt⟩:=gR (QB.div qx vZ (by decide))
      obtain ⟨e,ee,pe⟩:=ef (if d2.q=0 then 10 else 0)
      refine ⟨(x,d2),rfl,⟨RV.bZ sx (by decide),RV.bZ vY (by decide)⟩,?_⟩
      rw [show qN.val (x,d2)=.tuple ⟨[t.v,.int .i64 e]⟩ from by rw [← et,← ee]; rfl]
      conv=>whnf
      refine .inl ⟨5,[[],[],[],[],[1,2,3],[0,1,2,3,4],[0,1,2,3,4,5]],by kernel_rfl,?_⟩
      conv=>whnf
      obtain ⟨w,ew,pw,sw,qw⟩:=sL (zH qu qv qt);refine ⟨((u,v),t),rfl,⟨⟨PV.aY su (by decide),PV.aY sv (by decide)⟩,RV.aY st (by decide)⟩,?_⟩
      rw [show xV.val ((u,v),t)=w.v from ew]
      conv=>whnf
      have cw:=(PV.oq ew).symm;rw [← pw] at cw;rw [show (cj (atR u.p v.p (x.q / (x.q - y.q)))).p=w.p from by rw [gF,pw,pt,vX]] at au
      refine ⟨rfl,?_⟩;conv=>whnf
      refine ⟨rfl,?_⟩;conv=>whnf
      refine ⟨rfl,?_⟩;conv=>whnf
      refine ⟨⟨rfl,by show (q+1+1+1)*80≤140737488355328; omega⟩,?_⟩
      conv=>whnf
      refine ⟨rfl,?_⟩;conv=>whnf
      refine ⟨rfl,?_⟩;conv=>whnf
      rw [e8];refine .inr ⟨[0,1,2,3,4,5,6,7,8,55],[0,1,5,6,7],?_⟩;conv=>whnf
      intro _;conv=>whnf
      refine ⟨_,?_,j+1,(O++[u.p])++[w.p],q+1+1+1,_,(.aa (.aa (.sk 3 (.aa (.aa (.aa (.sk 17 .nil rfl)))) rfl))),rfl,rfl,?_⟩
      ·omega
      ·exact ⟨⟨by omega,by rw [List.length_append,List.length_append,← hq]; rfl⟩,by rw [au]; simp,rX (O:=O++[u.p]) (by rw [List.length_append,← hq]; rfl) (rX hq hF cu rfl) cw rfl⟩
     ·rw [show decide (z3*z2 < 0)=false from decide_eq_false h9]
      rw [if_neg h9] at au;conv=>whnf
      refine ⟨rfl,?_⟩;conv=>whnf
      rw [e8];refine .inr ⟨[0,1,2,3,4,5,6,7,8,35],[0,1,5,6,7],?_⟩;conv=>whnf
      intro _;conv=>whnf
      refine ⟨_,?_,j+1,O++[u.p],q+1+1,_,(.aa (.aa (.sk 3 (.aa (.aa (.aa (.sk 17 .nil rfl)))) rfl))),rfl,rfl,?_⟩
      ·omega
      ·exact ⟨⟨by omega,by rw [List.length_append,← hq]; rfl⟩,by rw [au]; simp,rX hq hF cu rfl⟩
    ·rw [show decide (z ≥ 0)=false from decide_eq_false h8]
     rw [if_neg h8] at au;conv=>whnf
     refine .inl ⟨3,[[],[0],[],[0,1,2],[0,1,2,3],[0,1,2,3,4]],by kernel_rfl,?_⟩
     conv=>whnf
     obtain ⟨z3,vU,vV⟩:=ef (aW x.q 0);refine ⟨x,rfl,RV.bZ sx (by decide),?_⟩
     rw [show iJ.val x=.int .i64 z3 from vU]
     conv=>whnf
     obtain ⟨z2,vW,oV⟩:=ef (aW y.q 0);refine ⟨y,rfl,RV.bZ sy (by decide),?_⟩
     rw [show iJ.val y=.int .i64 z2 from vW]
     conv=>whnf
     have nX:=p8 y.q 0;rw [← oV] at nX;obtain rfl:z3=z:=vV.trans pz.symm;rw [show IntKind.i64.wrap (z3*z2)=z3*z2 from by rcases hz with rfl | rfl | rfl <;> rcases nX with rfl | rfl | rfl <;> rfl]
     rw [← oV] at au;by_cases h9:z3*z2 < 0
     ·rw [show decide (z3*z2 < 0)=true from decide_eq_true h9]
      rw [if_pos h9] at au;conv=>whnf
      refine .inr (.inr (.inl ⟨9,1,[[],[],[],[1,2],[0,1,2,3],[0,1,2,3,4],[0,1,2,3,4,5],[0,1,2,3,4,5],[],[0,1,2,3,4,5,6,8],[0,1,2,3,4,5,6,7,8,9]],[7],by kernel_rfl,?_⟩))
      conv=>whnf
      obtain ⟨d2,kN,vX,vY,vZ⟩:=gR (QB.sub qx qy);refine ⟨(x,y),rfl,⟨RV.bZ sx (by decide),RV.bZ sy (by decide)⟩,?_⟩
      rw [show gQ.val (x,y)=d2.v from kN]
      conv=>whnf
      obtain ⟨t,et,pt,st,qt⟩:=gR (QB.div qx vZ (by decide))
      obtain ⟨e,ee,pe⟩:=ef (if d2.q=0 then 10 else 0)
      refine ⟨(x,d2),rfl,⟨RV.bZ sx (by decide),RV.bZ vY (by decide)⟩,?_⟩
      rw [show qN.val (x,d2)=.tuple ⟨[t.v,.int .i64 e]⟩ from by rw [← et,← ee]; rfl]
      conv=>whnf
      refine .inl ⟨5,[[],[],[],[],[1,2,3],[0,1,2,3,4],[0,1,2,3,4,5]],by kernel_rfl,?_⟩
      conv=>whnf
      obtain ⟨w,ew,pw,sw,qw⟩:=sL (zH qu qv qt);refine ⟨((u,v),t),rfl,⟨⟨PV.aY su (by decide),PV.aY sv (by decide)⟩,RV.aY st (by decide)⟩,?_⟩
      rw [show xV.val ((u,v),t)=w.v from ew]
      conv=>whnf
      have cw:=(PV.oq ew).symm;rw [← pw] at cw;rw [show (cj (atR u.p v.p (x.q / (x.q - y.q)))).p=w.p from by rw [gF,pw,pt,vX]] at au
      refine ⟨rfl,?_⟩;conv=>whnf
      refine ⟨rfl,?_⟩;conv=>whnf
      refine ⟨rfl,?_⟩;conv=>whnf
      refine ⟨⟨rfl,by show (q+1+1)*80≤140737488355328; omega⟩,?_⟩
      conv=>whnf
      refine ⟨rfl,?_⟩;conv=>whnf
      refine ⟨rfl,?_⟩;conv=>whnf
      rw [e8];refine .inr ⟨[0,1,2,3,4,5,6,7,8,52],[0,1,5,6,7],?_⟩;conv=>whnf
      intro _;conv=>whnf
      refine ⟨_,?_,j+1,O++[w.p],q+1+1,_,(.aa (.aa (.sk 3 (.aa (.aa (.aa (.sk 17 .nil rfl)))) rfl))),rfl,rfl,?_⟩
      ·omega
      ·exact ⟨⟨by omega,by rw [List.length_append,← hq]; rfl⟩,by rw [au]; simp,rX hq hF cw rfl⟩
     ·rw [show decide (z3*z2 < 0)=false from decide_eq_false h9]
      rw [if_neg h9] at au;conv=>whnf
      refine ⟨rfl,?_⟩;conv=>whnf
      rw [e8];refine .inr ⟨[0,1,2,3,4,5,6,7,8,9],[0,1,5,6,7],?_⟩;conv=>whnf
      intro _;conv=>whnf
      refine ⟨_,?_,j+1,O,q+1,F,(.aa (.aa (.sk 3 (.aa (.aa (.aa (.sk 17 .nil rfl)))) rfl))),rfl,rfl,?_⟩
      ·omega
      ·exact ⟨⟨by omega,hq⟩,by rw [au]; simp,hF⟩
   ·have h7:j=n:=by
     have:=of_decide_eq_false h7;omega
    subst h7;have Aa:db (bG a.p b.p) L=O:=by rw [hO,hn]; exact (Nr _ L).symm
    conv=>whnf
    rw [hK];unfold gJ;rw [show iF.new (some (L,c),(a,b))=some (.flat true (q+1) 6 (bS O)) from by show cW (db (bG a.p b.p) L)=_; rw [Aa]; unfold cW; rw [← hq],show iF.val (some (L,c),(a,b))=.slice (some ⟨4,0,none⟩) (q+1) aM from by show eg _ (db (bG a.p b.p) L).length=_; rw [Aa,← hq]; rfl]
    refine ⟨9,?_⟩;conv=>whnf
    exact ⟨⟨rfl,aG.rU (fun h=>h) hF (fun r hr=>rfl)⟩,_,rfl,.refl _⟩
open Go Go.Ae
theorem Z6:fM Tryz.prog 60 (ck nf cI Tryz.f60):=by
 exact jc Dj aN Tryz.func60 (enters_of Tryz.func60 (by kernel_rfl) rfl)
theorem Ux:fM Tryz.prog 57 (ck nf cI Tryz.f57):=by
 exact jc Dj aN Tryz.func57 (enters_of Tryz.func57 (by kernel_rfl) rfl)
open Go Go.Ae
def RP:Env:=En [(23,.q aV),(58,.q fp),(59,.r iF)] [(60,ck nf cI Tryz.f60),(57,ck nf cI Tryz.f57),(64,ck nf cI Tryz.f64)] [(118,uD)]
theorem adP:EnvOk Tryz.prog RP:=bD ⟨Cd,Z3,acq,trivial⟩ ⟨Z6,Ux,wY,trivial⟩
theorem acr:gP Tryz.prog RP:=vP ⟨wJ,trivial⟩
theorem NI:cU Tryz.prog 16 fh:=by
 refine dh adP aN Tryz.func16 (enters_of Tryz.func16 (by kernel_rfl) rfl) ?_ ?_ ?_ (hI:=acr)
 ·intro ⟨i,k⟩ B hb;cases i <;> cases k <;> simp [fh,PL.ae] at hb
  ·rw [hb]; rfl
  ·rw [hb]; rfl
  ·rcases hb with rfl | rfl <;> rfl
 ·intro i B hb;exact B9 hb
 intro ⟨i,k⟩ hp;have hp:((i.list.length≤1099511627776∧∀ v∈i.list,v.sz 2048)∧k.list.length≤1099511627776∧∀ v∈k.list,v.sz 2048)∧z5 i.list k.list:=hp;obtain ⟨⟨⟨jf,g0⟩,kY,gx⟩,bd⟩:=hp;cases i with
 | none =>
  cases k with
  | none =>
   conv=>whnf
   refine ⟨none,[],rfl,⟨Nat.zero_le _,fun v hv=>nomatch hv⟩,?_⟩
   rw [show aV.ae none=[] from rfl,show aV.val none=.int .i64 4 from rfl,show aV.new none=none from rfl]
   conv=>whnf
   refine ⟨_,rfl,?_⟩;conv=>whnf
   exact ⟨_,rfl,.refl _⟩
  | some k =>
   conv=>whnf
   refine ⟨none,[],rfl,⟨Nat.zero_le _,fun v hv=>nomatch hv⟩,?_⟩
   rw [show aV.ae none=[] from rfl,show aV.val none=.int .i64 4 from rfl,show aV.new none=none from rfl]
   conv=>whnf
   refine ⟨_,rfl,?_⟩;conv=>whnf
   exact ⟨_,rfl,.refl _⟩
 | some i =>
  obtain ⟨A,c⟩:=i;have jf:A.length≤1099511627776:=jf;have g0:∀ v∈A,PV.sz 2048 v:=g0;obtain ⟨na,bw⟩:∃ n,n=A.length:=⟨_,rfl⟩;obtain ⟨ga,bP⟩:∃ g,g=cB A:=⟨_,rfl⟩;cases k with
  | none =>
   obtain ⟨K,hK⟩:∃ K,K=gJ fh (some (A,c),none):=⟨_,rfl⟩;have fin:∀ H:aA,K (.tuple ⟨[.slice none 0 0,.int .i64 1]⟩) H:=fun H=>by
    have h:dm A []=([],1):=HR fun e=>by have:=e.2; cases this
    rw [hK];unfold gJ;rw [show fh.new (some (A,c),none)=none from by show cW (dm A []).1=none; rw [h]; rfl,show fh.val (some (A,c),none)=.tuple ⟨[.slice none 0 0,.int .i64 1]⟩ from by show Value.tuple ⟨[eg _ (dm A []).1.length,.int .i64 (dm A []).2]⟩=_; rw [h]; rfl]
    exact ⟨_,rfl,.refl _⟩
   rw [show fh.ae (some (A,c),none)=[.flat false na 6 ga] from by rw [bw,bP]; rfl,show fh.args (some (A,c),none)=[.slice (some ⟨0,0,none⟩) na c,.slice none 0 0] from by rw [bw]; rfl,← hK]
   rw [← bw] at jf;conv=>whnf
   refine ⟨some (A,c),[0],by rw [show aV.args (some (A,c))=[.slice (some ⟨0,0,none⟩) na c] from by rw [bw]; rfl]; rfl,⟨by show A.length≤_; omega,g0⟩,?_⟩
   rw [show aV.ae (some (A,c))=[.flat false na 6 ga] from by rw [bw,bP]; rfl,show aV.val (some (A,c))=.int .i64 (bg A) from rfl,show aV.new (some (A,c))=none from rfl]
   conv=>whnf
   refine ⟨aG.aR (fun h=>h) (fun r hr=>by rw [bP]; rfl),?_⟩
   conv=>whnf
   refine ⟨_,rfl,?_⟩;obtain ⟨e,he⟩:∃ z,z=bg A:=⟨_,rfl⟩;rw [← he];conv=>whnf
   by_cases h1:e=0
   ·rw [show (e != 0)=false from by simp [h1]]
    conv=>whnf
    refine ⟨none,[],rfl,⟨Nat.zero_le _,fun v hv=>nomatch hv⟩,?_⟩
    rw [show aV.ae none=[] from rfl,show aV.val none=.int .i64 4 from rfl,show aV.new none=none from rfl]
    conv=>whnf
    refine ⟨_,rfl,?_⟩;conv=>whnf
    exact fin _
   ·rw [show (e != 0)=true from by simp [h1]]
    conv=>whnf
    exact fin _
  | some k =>
   obtain ⟨B,d⟩:=k;have kY:B.length≤1099511627776:=kY;have gx:∀ v∈B,PV.sz 2048 v:=gx;have bd:z5 A B:=bd;obtain ⟨nb,bJ⟩:∃ n,n=B.length:=⟨_,rfl⟩;obtain ⟨gb,cD⟩:∃ g,g=cB B:=⟨_,rfl⟩;obtain ⟨K,hK⟩:∃ K,K=gJ fh (some (A,c),some (B,d)):=⟨_,rfl⟩;have s7:∀ (e:Int) (H:aA),dm A B=([],e)→K (.tuple ⟨[.slice none 0 0,.int .i64 e]⟩) H:=fun e H h=>by
    rw [hK];unfold gJ;rw [show fh.new (some (A,c),some (B,d))=none from by show cW (dm A B).1=none; rw [h]; rfl,show fh.val (some (A,c),some (B,d))=.tuple ⟨[.slice none 0 0,.int .i64 e]⟩ from by show Value.tuple ⟨[eg _ (dm A B).1.length,.int .i64 (dm A B).2]⟩=_; rw [h]; rfl]
    exact ⟨_,rfl,.refl _⟩
   rw [show fh.ae (some (A,c),some (B,d))=[.flat false na 6 ga,.flat false nb 6 gb] from by rw [bw,bP,bJ,cD]; rfl,show fh.args (some (A,c),some (B,d))=[.slice (some ⟨0,0,none⟩) na c,.slice (some ⟨1,0,none⟩) nb d] from by rw [bw,bJ]; rfl,← hK]
   rw [← bw] at jf;rw [← bJ] at kY;conv=>whnf
   refine ⟨some (A,c),[0],by rw [show aV.args (some (A,c))=[.slice (some ⟨0,0,none⟩) na c] from by rw [bw]; rfl]; rfl,⟨by show A.length≤_; omega,g0⟩,?_⟩
   rw [show aV.ae (some (A,c))=[.flat false na 6 ga] from by rw [bw,bP]; rfl,show aV.val (some (A,c))=.int .i64 (bg A) from rfl,show aV.new (some (A,c))=none from rfl]
   conv=>whnf
   refine ⟨aG.aR (fun h=>h) (fun r hr=>by rw [bP]; rfl),?_⟩
   conv=>whnf
   refine ⟨_,rfl,?_⟩;obtain ⟨e,he⟩:∃ z,z=bg A:=⟨_,rfl⟩;rw [← he];conv=>whnf
   by_cases h1:e=0
   ·rw [show (e != 0)=false from by simp [h1]]
    conv=>whnf
    refine ⟨some (B,d),[1],by rw [show aV.args (some (B,d))=[.slice (some ⟨0,0,none⟩) nb d] from by rw [bJ]; rfl]; rfl,⟨by show B.length≤_; omega,gx⟩,?_⟩
    rw [show aV.ae (some (B,d))=[.flat false nb 6 gb] from by rw [bJ,cD]; rfl,show aV.val (some (B,d))=.int .i64 (bg B) from rfl,show aV.new (some (B,d))=none from rfl]
    conv=>whnf
    refine ⟨aG.aR (fun h=>h) (fun r hr=>by rw [cD]; rfl),?_⟩
    conv=>whnf
    refine ⟨_,rfl,?_⟩;obtain ⟨e2,bO⟩:∃ z,z=bg B:=⟨_,rfl⟩;rw [← bO];conv=>whnf
    by_cases J:e2=0
    ·rw [show (e2 != 0)=false from by simp [J]]
     have AW:bg A=0:=by rw [← he]; exact h1
     have Ev:bg B=0:=by rw [← bO]; exact J
     have bd:=bd AW Ev;have J1:=j8 AW;have J2:=j8 Ev;have J3:ga=bS (aD A):=by rw [uq AW,bP]
     have hnA:na=(aD A).length:=by rw [cA,bw]
     conv=>whnf
     intro yl nu fn tm df;conv=>whnf
     refine .inl ⟨fun mm tz hz=>∃ (j:Nat) (p:Nat) (F:Nat→List Value),bA (some (.func (.yield yl) #[] #[])::some (.pointer (some ⟨3,0,none⟩))::aF 3 (some (.slice (some ⟨1,0,none⟩) nb d)::some (.int .i64 nb)::some (.int .i64 j)::aF 17 [])) tz∧hz=[some (.flat false na 6 ga),some (.flat false nb 6 gb),some (.aO true 1 [[aeS (.slice (some ⟨0,0,none⟩) na c) p j]]),some (.aO true 1 [[.slice (some ⟨1,0,none⟩) nb d]]),some (.cg (qV Tryz.f16 fn tm df))]++aeT F p j∧nb - j=mm∧((j≤nb∧(0 < j→p=(ju (aD A) (aD B) j).length))∧(0 < j→∀ r,r < p→F r=bS (ju (aD A) (aD B) j) r)),.inr ⟨[0,1,2,3,4],[0,1,5,6,7],?_⟩,?_⟩
     ·conv=>whnf
      intro _;conv=>whnf
      refine ⟨_,0,0,fun _=>[],(.aa (.aa (.sk 3 (.aa (.aa (.aa (.sk 17 .nil rfl)))) rfl))),rfl,rfl,?_⟩
      exact ⟨⟨Nat.zero_le _,fun h=>absurd h (Nat.lt_irrefl 0)⟩,fun h=>absurd h (Nat.lt_irrefl 0)⟩
     rintro mm aT _ ⟨j,p,F,aw,rfl,rfl,⟨⟨hj,m5⟩,hF⟩⟩
     obtain ⟨az,rfl⟩:∃ az:Nat→Value,aT=.func (.yield yl) #[] #[]::.pointer (some ⟨3,0,none⟩)::zs az 2 3 (.slice (some ⟨1,0,none⟩) nb d::.int .i64 nb::.int .i64 j::zs az 8 17 []):=bI aw;clear aw;cases j with
     | zero =>
      conv=>whnf
      refine aK (fun h3=>?_) (fun h3=>?_)
      ·have h3:0 < nb:=by
        have:=of_decide_eq_true h3;omega
       have e7:IntKind.i64.wrap (((0:Nat):Int)+1)=((0+1:Nat):Int):=by rw [ax (by omega) (by omega)]; rfl
       obtain ⟨a,b,ra,rb,⟨ma,mb⟩,ib,cG,_,_⟩:=tZ bJ h3;have sa:=gx a ma;have sb:=gx b mb;have cV:=lV h3 (by omega)
       obtain ⟨u,hu⟩:∃ u,u=aX nb (0):=⟨_,rfl⟩;rw [← hu] at cV cG rb;rw [← cD] at ra rb;obtain ⟨v5,v7⟩:=bd (0) (by rw [cA]; omega)
       have hf:=Gl (a:=a.p) (b:=b.p) v5 v7 (PV.dg sa (by decide)) (PV.dg sb (by decide))
       obtain ⟨C,hC⟩:∃ C,C=db (bG a.p b.p) (ju (aD A) (aD B) (0)):=⟨_,rfl⟩;obtain ⟨R,hR⟩:∃ R,R=fK C:=⟨_,rfl⟩;have og:=Fo ib hC hR;obtain ⟨m,hm⟩:∃ m,m=C.length:=⟨_,rfl⟩;obtain ⟨q,hq⟩:∃ m,m=R.length:=⟨_,rfl⟩;conv=>whnf
       refine ⟨⟨by omega,by omega⟩,?_⟩
       simp only [toNat_cast,ay,Nat.zero_add];conv=>whnf
       refine ⟨by show 0 < nb; omega,?_⟩
       conv=>whnf
       rw [ra];conv=>whnf
       refine .inl ⟨10,[[],[],[],[],[3],[],[5],[3,4,5,6],[2,3,4,5,6,7],[2,3,4,5,6,7,8],[0,1,2,3,4,5,6,7,8,9],[0,1,2,3,4,5,6,7,8,9,10]],by kernel_rfl,?_⟩
       conv=>whnf
       rw [show decide ((nb:Int)≠0)=true from decide_eq_true (by omega)]
       conv=>whnf
       rw [cV];refine ⟨⟨by omega,by omega⟩,?_⟩
       simp only [toNat_cast,ay,Nat.zero_add];conv=>whnf
       refine ⟨by show u < nb; omega,?_⟩
       conv=>whnf
       rw [rb];conv=>whnf
       refine ⟨rfl,?_⟩;conv=>whnf
       refine ⟨rfl,?_⟩;conv=>whnf
       refine ⟨rfl,?_⟩;conv=>whnf
       refine ⟨(some (aD A,c),(a,b)),[0,18,19,20],rfl,⟨v5,v7,sa,sb⟩,?_⟩;rw [show iF.ae (some (aD A,c),(a,b))=[.flat false na 6 ga,.aO false 1 [[.slice (some ⟨0,0,none⟩) na c]],.aO false 6 [a.cells],.aO false 6 [b.cells]] from by rw [hnA,J3]; rfl,show iF.val (some (aD A,c),(a,b))=eg 4 m from by rw [hm,hC]; rfl]
       rw [show iF.new (some (aD A,c),(a,b))=cW C from by rw [hC]; rfl]
       cases m with
       | zero =>
        obtain rfl:C=[]:=List.eq_nil_of_length_eq_zero hm.symm;conv=>whnf
        refine ⟨.inl (aG.aR (fun h=>h) (fun r hr=>by rw [J3]; rfl)),?_⟩
        conv=>whnf
        refine ⟨.inr ⟨_,_,_,_,rfl,rfl,rfl⟩,?_⟩;conv=>whnf
        refine ⟨.inr ⟨_,_,_,_,rfl,rfl,rfl⟩,?_⟩;conv=>whnf
        refine ⟨.inr ⟨_,_,_,_,rfl,rfl,rfl⟩,?_⟩;conv=>whnf
        refine ⟨_,rfl,?_⟩;conv=>whnf
        refine ⟨none,[],rfl,⟨Nat.zero_le _,fun v hv=>nomatch hv⟩,?_⟩
        rw [show fp.ae none=[] from rfl,show fp.val none=.slice none 0 0 from rfl,show fp.new none=none from rfl]
        conv=>whnf
        refine ⟨_,rfl,?_⟩;conv=>whnf
        rw [show fK []=[] from rfl] at hR
        subst hR;refine ⟨rfl,?_⟩;conv=>whnf
        rw [e7];refine .inr ⟨[0,1,2,3,4],[0,1,5,6,7],?_⟩;conv=>whnf
        intro _;conv=>whnf
        refine ⟨_,?_,0+1,0,fun _=>[],(.aa (.aa (.sk 3 (.aa (.aa (.aa (.sk 17 .nil rfl)))) rfl))),rfl,rfl,?_⟩
        ·omega
        ·exact ⟨⟨by omega,fun _=>congrArg List.length og⟩,fun _ r hr=>absurd hr (Nat.not_lt_zero r)⟩
       | succ m =>
        rw [show cW C=some (.flat true (m+1) 6 (bS C)) from by unfold cW; rw [← hm]]
        conv=>whnf
        refine ⟨.inl (aG.aR (fun h=>h) (fun r hr=>by rw [J3]; rfl)),?_⟩
        conv=>whnf
        refine ⟨.inr ⟨_,_,_,_,rfl,rfl,rfl⟩,?_⟩;conv=>whnf
        refine ⟨.inr ⟨_,_,_,_,rfl,rfl,rfl⟩,?_⟩;conv=>whnf
        refine ⟨.inr ⟨_,_,_,_,rfl,rfl,rfl⟩,?_⟩;conv=>whnf
        refine ⟨_,rfl,?_⟩;conv=>whnf
        refine ⟨some (C,aM),[21],by rw [show fp.args (some (C,aM))=[.slice (some ⟨0,0,none⟩) (m+1) aM] from by rw [hm]; rfl]; rfl,⟨by rw [hC]; exact hf.1,fun v hv=>hf.2 v (by rw [← hC]; exact hv)⟩,?_⟩
        obtain ⟨G,hG⟩:∃ G,G=bS C:=⟨_,rfl⟩;rw [← hG,show fp.ae (some (C,aM))=[.flat false (m+1) 6 G] from by rw [hm,hG]; rfl,show fp.val (some (C,aM))=eg 1 q from by rw [hq,hR]; rfl,show fp.new (some (C,aM))=cW R from by rw [hR]; rfl]
        cases q with
        | zero =>
         obtain rfl:R=[]:=List.eq_nil_of_length_eq_zero hq.symm;conv=>whnf
         refine ⟨aG.aR (fun h=>by cases h) (fun r hr=>by rw [hG]; rfl),?_⟩
         conv=>whnf
         refine ⟨_,rfl,?_⟩;conv=>whnf
         refine ⟨rfl,?_⟩;conv=>whnf
         rw [e7];refine .inr ⟨[0,1,2,3,4],[0,1,5,6,7],?_⟩;conv=>whnf
         intro _;conv=>whnf
         refine ⟨_,?_,0+1,0,fun _=>[],(.aa (.aa (.sk 3 (.aa (.aa (.aa (.sk 17 .nil rfl)))) rfl))),rfl,rfl,?_⟩
         ·omega
         ·exact ⟨⟨by omega,fun _=>congrArg List.length og⟩,fun _ r hr=>absurd hr (Nat.not_lt_zero r)⟩
        | succ q =>
         obtain ⟨E,hE⟩:∃ G,G=bS R:=⟨_,rfl⟩;rw [show cW R=some (.flat true (q+1) 6 E) from by unfold cW; rw [← hq,hE]]
         conv=>whnf
         refine ⟨aG.aR (fun h=>by cases h) (fun r hr=>by rw [hG]; rfl),?_⟩
         conv=>whnf
         refine ⟨_,rfl,?_⟩;conv=>whnf
         refine ⟨rfl,?_⟩;conv=>whnf
         rw [e7];refine .inr ⟨[0,1,2,3,4,22],[0,1,5,6,7],?_⟩;conv=>whnf
         intro _;conv=>whnf
         refine ⟨_,?_,0+1,q+1,E,(.aa (.aa (.sk 3 (.aa (.aa (.aa (.sk 17 .nil rfl)))) rfl))),rfl,rfl,?_⟩
         ·omega
         ·exact ⟨⟨by omega,fun _=>hq.trans (congrArg List.length og)⟩,fun _ r hr=>by rw [hE,og]⟩
      ·have:=of_decide_eq_false h3;omega
     | succ j =>
      have nT:=m5 (Nat.succ_pos j);have Ew:=hF (Nat.succ_pos j);obtain ⟨S,hS⟩:∃ S,S=ju (aD A) (aD B) (j+1):=⟨_,rfl⟩;rw [← hS] at nT Ew;cases p with
      | zero =>
       obtain rfl:S=[]:=List.eq_nil_of_length_eq_zero nT.symm;conv=>whnf
       refine aK (fun h3=>?_) (fun h3=>?_)
       ·have h3:(j+1) < nb:=by
         have:=of_decide_eq_true h3;omega
        have e7:IntKind.i64.wrap ((((j+1):Nat):Int)+1)=(((j+1)+1:Nat):Int):=by rw [ax (by omega) (by omega)]; rfl
        obtain ⟨a,b,ra,rb,⟨ma,mb⟩,ib,cG,_,_⟩:=tZ bJ h3;have sa:=gx a ma;have sb:=gx b mb;have cV:=lV h3 (by omega)
        obtain ⟨u,hu⟩:∃ u,u=aX nb ((j+1)):=⟨_,rfl⟩;rw [← hu] at cV cG rb;rw [← cD] at ra rb;obtain ⟨v5,v7⟩:=bd ((j+1)) (by rw [cA]; omega)
        have hf:=Gl (a:=a.p) (b:=b.p) v5 v7 (PV.dg sa (by decide)) (PV.dg sb (by decide))
        obtain ⟨C,hC⟩:∃ C,C=db (bG a.p b.p) (ju (aD A) (aD B) ((j+1))):=⟨_,rfl⟩;obtain ⟨R,hR⟩:∃ R,R=fK C:=⟨_,rfl⟩;have og:=Fo ib hC hR;obtain ⟨m,hm⟩:∃ m,m=C.length:=⟨_,rfl⟩;obtain ⟨q,hq⟩:∃ m,m=R.length:=⟨_,rfl⟩;conv=>whnf
        refine ⟨⟨by omega,by omega⟩,?_⟩
        simp only [toNat_cast,ay,Nat.zero_add];conv=>whnf
        refine ⟨by show (j+1) < nb; omega,?_⟩
        conv=>whnf
        rw [ra];conv=>whnf
        refine .inl ⟨10,[[],[],[],[],[3],[],[5],[3,4,5,6],[2,3,4,5,6,7],[2,3,4,5,6,7,8],[0,1,2,3,4,5,6,7,8,9],[0,1,2,3,4,5,6,7,8,9,10]],by kernel_rfl,?_⟩
        conv=>whnf
        rw [show decide ((nb:Int)≠0)=true from decide_eq_true (by omega)]
        conv=>whnf
        rw [cV];refine ⟨⟨by omega,by omega⟩,?_⟩
        simp only [toNat_cast,ay,Nat.zero_add];conv=>whnf
        refine ⟨by show u < nb; omega,?_⟩
        conv=>whnf
        rw [rb];conv=>whnf
        refine ⟨rfl,?_⟩;conv=>whnf
        refine ⟨rfl,?_⟩;conv=>whnf
        refine ⟨rfl,?_⟩;conv=>whnf
        refine ⟨(none,(a,b)),[18,19,20],rfl,⟨Nat.zero_le _,(fun v hv=>nomatch hv),sa,sb⟩,?_⟩
        rw [show iF.ae (none,(a,b))=[.aO false 1 [[.slice none 0 0]],.aO false 6 [a.cells],.aO false 6 [b.cells]] from rfl,show iF.val (none,(a,b))=.slice none 0 0 from rfl,show iF.new (none,(a,b))=none from rfl]
        conv=>whnf
        refine ⟨.inr ⟨_,_,_,_,rfl,rfl,rfl⟩,?_⟩;conv=>whnf
        refine ⟨.inr ⟨_,_,_,_,rfl,rfl,rfl⟩,?_⟩;conv=>whnf
        refine ⟨.inr ⟨_,_,_,_,rfl,rfl,rfl⟩,?_⟩;conv=>whnf
        refine ⟨_,rfl,?_⟩;conv=>whnf
        refine ⟨none,[],rfl,⟨Nat.zero_le _,fun v hv=>nomatch hv⟩,?_⟩
        rw [show fp.ae none=[] from rfl,show fp.val none=.slice none 0 0 from rfl,show fp.new none=none from rfl]
        conv=>whnf
        refine ⟨_,rfl,?_⟩;conv=>whnf
        obtain rfl:C=[]:=by rw [hC,← hS]; rfl
        rw [show fK []=[] from rfl] at hR
        subst hR;refine ⟨rfl,?_⟩;conv=>whnf
        rw [e7];refine .inr ⟨[0,1,2,3,4],[0,1,5,6,7],?_⟩;conv=>whnf
        intro _;conv=>whnf
        refine ⟨_,?_,(j+1)+1,0,fun _=>[],(.aa (.aa (.sk 3 (.aa (.aa (.aa (.sk 17 .nil rfl)))) rfl))),rfl,rfl,?_⟩
        ·omega
        ·exact ⟨⟨by omega,fun _=>congrArg List.length og⟩,fun _ r hr=>absurd hr (Nat.not_lt_zero r)⟩
       ·have h3:j+1=nb:=by
         have:=of_decide_eq_false h3;omega
        conv=>whnf
        exact s7 11 _ ((OZ ⟨AW,Ev⟩ (R:=[]) (by rw [← bJ,← h3]; exact hS)).trans (XZ rfl))
      | succ p =>
       conv=>whnf
       refine aK (fun h3=>?_) (fun h3=>?_)
       ·have h3:(j+1) < nb:=by
         have:=of_decide_eq_true h3;omega
        have e7:IntKind.i64.wrap ((((j+1):Nat):Int)+1)=(((j+1)+1:Nat):Int):=by rw [ax (by omega) (by omega)]; rfl
        obtain ⟨a,b,ra,rb,⟨ma,mb⟩,ib,cG,_,_⟩:=tZ bJ h3;have sa:=gx a ma;have sb:=gx b mb;have cV:=lV h3 (by omega)
        obtain ⟨u,hu⟩:∃ u,u=aX nb ((j+1)):=⟨_,rfl⟩;rw [← hu] at cV cG rb;rw [← cD] at ra rb;obtain ⟨v5,v7⟩:=bd ((j+1)) (by rw [cA]; omega)
        have hf:=Gl (a:=a.p) (b:=b.p) v5 v7 (PV.dg sa (by decide)) (PV.dg sb (by decide))
        obtain ⟨C,hC⟩:∃ C,C=db (bG a.p b.p) (ju (aD A) (aD B) ((j+1))):=⟨_,rfl⟩;obtain ⟨R,hR⟩:∃ R,R=fK C:=⟨_,rfl⟩;have og:=Fo ib hC hR;obtain ⟨m,hm⟩:∃ m,m=C.length:=⟨_,rfl⟩;obtain ⟨q,hq⟩:∃ m,m=R.length:=⟨_,rfl⟩;conv=>whnf
        refine ⟨⟨by omega,by omega⟩,?_⟩
        simp only [toNat_cast,ay,Nat.zero_add];conv=>whnf
        refine ⟨by show (j+1) < nb; omega,?_⟩
        conv=>whnf
        rw [ra];conv=>whnf
        refine .inl ⟨10,[[],[],[],[],[3],[],[5],[3,4,5,6],[2,3,4,5,6,7],[2,3,4,5,6,7,8],[0,1,2,3,4,5,6,7,8,9],[0,1,2,3,4,5,6,7,8,9,10]],by kernel_rfl,?_⟩
        conv=>whnf
        rw [show decide ((nb:Int)≠0)=true from decide_eq_true (by omega)]
        conv=>whnf
        rw [cV];refine ⟨⟨by omega,by omega⟩,?_⟩
        simp only [toNat_cast,ay,Nat.zero_add];conv=>whnf
        refine ⟨by show u < nb; omega,?_⟩
        conv=>whnf
        rw [rb];conv=>whnf
        refine ⟨rfl,?_⟩;conv=>whnf
        refine ⟨rfl,?_⟩;conv=>whnf
        refine ⟨rfl,?_⟩;conv=>whnf
        refine ⟨(some (S,aM),(a,b)),[5,19,20,21],by rw [show iF.args (some (S,aM),(a,b))=[.func (.func 114) #[] #[.pointer (some ⟨1,0,none⟩),.pointer (some ⟨2,0,none⟩),.pointer (some ⟨3,0,none⟩)]] from rfl]; rfl,⟨by rw [hS]; exact v5,by rw [hS]; exact v7,sa,sb⟩,?_⟩
        rw [show iF.ae (some (S,aM),(a,b))=[.flat false (p+1) 6 (bS S),.aO false 1 [[.slice (some ⟨0,0,none⟩) (p+1) aM]],.aO false 6 [a.cells],.aO false 6 [b.cells]] from by rw [nT]; rfl,show iF.val (some (S,aM),(a,b))=eg 4 m from by rw [hm,hC,← hS]; rfl]
        rw [show iF.new (some (S,aM),(a,b))=cW C from by rw [hC,← hS]; rfl]
        cases m with
        | zero =>
         obtain rfl:C=[]:=List.eq_nil_of_length_eq_zero hm.symm;conv=>whnf
         refine ⟨.inl (aG.rU (fun h=>by cases h) Ew (fun r hr=>rfl)),?_⟩
         conv=>whnf
         refine ⟨.inr ⟨_,_,_,_,rfl,rfl,rfl⟩,?_⟩;conv=>whnf
         refine ⟨.inr ⟨_,_,_,_,rfl,rfl,rfl⟩,?_⟩;conv=>whnf
         refine ⟨.inr ⟨_,_,_,_,rfl,rfl,rfl⟩,?_⟩;conv=>whnf
         refine ⟨_,rfl,?_⟩;conv=>whnf
         refine ⟨none,[],rfl,⟨Nat.zero_le _,fun v hv=>nomatch hv⟩,?_⟩
         rw [show fp.ae none=[] from rfl,show fp.val none=.slice none 0 0 from rfl,show fp.new none=none from rfl]
         conv=>whnf
         refine ⟨_,rfl,?_⟩;conv=>whnf
         rw [show fK []=[] from rfl] at hR
         subst hR;refine ⟨rfl,?_⟩;conv=>whnf
         rw [e7];refine .inr ⟨[0,1,2,3,4],[0,1,5,6,7],?_⟩;conv=>whnf
         intro _;conv=>whnf
         refine ⟨_,?_,(j+1)+1,0,fun _=>[],(.aa (.aa (.sk 3 (.aa (.aa (.aa (.sk 17 .nil rfl)))) rfl))),rfl,rfl,?_⟩
         ·omega
         ·exact ⟨⟨by omega,fun _=>congrArg List.length og⟩,fun _ r hr=>absurd hr (Nat.not_lt_zero r)⟩
        | succ m =>
         rw [show cW C=some (.flat true (m+1) 6 (bS C)) from by unfold cW; rw [← hm]]
         conv=>whnf
         refine ⟨.inl (aG.rU (fun h=>by cases h) Ew (fun r hr=>rfl)),?_⟩
         conv=>whnf
         refine ⟨.inr ⟨_,_,_,_,rfl,rfl,rfl⟩,?_⟩;conv=>whnf
         refine ⟨.inr ⟨_,_,_,_,rfl,rfl,rfl⟩,?_⟩;conv=>whnf
         refine ⟨.inr ⟨_,_,_,_,rfl,rfl,rfl⟩,?_⟩;conv=>whnf
         refine ⟨_,rfl,?_⟩;conv=>whnf
         refine ⟨some (C,aM),[22],by rw [show fp.args (some (C,aM))=[.slice (some ⟨0,0,none⟩) (m+1) aM] from by rw [hm]; rfl]; rfl,⟨by rw [hC]; exact hf.1,fun v hv=>hf.2 v (by rw [← hC]; exact hv)⟩,?_⟩
         obtain ⟨G,hG⟩:∃ G,G=bS C:=⟨_,rfl⟩;rw [← hG,show fp.ae (some (C,aM))=[.flat false (m+1) 6 G] from by rw [hm,hG]; rfl,show fp.val (some (C,aM))=eg 1 q from by rw [hq,hR]; rfl,show fp.new (some (C,aM))=cW R from by rw [hR]; rfl]
         cases q with
         | zero =>
          obtain rfl:R=[]:=List.eq_nil_of_length_eq_zero hq.symm;conv=>whnf
          refine ⟨aG.aR (fun h=>by cases h) (fun r hr=>by rw [hG]; rfl),?_⟩
          conv=>whnf
          refine ⟨_,rfl,?_⟩;conv=>whnf
          refine ⟨rfl,?_⟩;conv=>whnf
          rw [e7];refine .inr ⟨[0,1,2,3,4],[0,1,5,6,7],?_⟩;conv=>whnf
          intro _;conv=>whnf
          refine ⟨_,?_,(j+1)+1,0,fun _=>[],(.aa (.aa (.sk 3 (.aa (.aa (.aa (.sk 17 .nil rfl)))) rfl))),rfl,rfl,?_⟩
          ·omega
          ·exact ⟨⟨by omega,fun _=>congrArg List.length og⟩,fun _ r hr=>absurd hr (Nat.not_lt_zero r)⟩
         | succ q =>
          obtain ⟨E,hE⟩:∃ G,G=bS R:=⟨_,rfl⟩;rw [show cW R=some (.flat true (q+1) 6 E) from by unfold cW; rw [← hq,hE]]
          conv=>whnf
          refine ⟨aG.aR (fun h=>by cases h) (fun r hr=>by rw [hG]; rfl),?_⟩
          conv=>whnf
          refine ⟨_,rfl,?_⟩;conv=>whnf
          refine ⟨rfl,?_⟩;conv=>whnf
          rw [e7];refine .inr ⟨[0,1,2,3,4,23],[0,1,5,6,7],?_⟩;conv=>whnf
          intro _;conv=>whnf
          refine ⟨_,?_,(j+1)+1,q+1,E,(.aa (.aa (.sk 3 (.aa (.aa (.aa (.sk 17 .nil rfl)))) rfl))),rfl,rfl,?_⟩
          ·omega
          ·exact ⟨⟨by omega,fun _=>hq.trans (congrArg List.length og)⟩,fun _ r hr=>by rw [hE,og]⟩
       ·have h3:j+1=nb:=by
         have:=of_decide_eq_false h3;omega
        have hv:=OZ ⟨AW,Ev⟩ (R:=S) (by rw [← bJ,← h3]; exact hS)
        conv=>whnf
        by_cases h6:64 < p+1
        ·rw [show decide (((p+1:Nat):Int) > 64)=true from decide_eq_true (by omega)]
         conv=>whnf
         exact s7 4 _ (hv.trans (X0 (by omega)))
        ·rw [show decide (((p+1:Nat):Int) > 64)=false from decide_eq_false (by omega)]
         conv=>whnf
         rw [hK];unfold gJ;rw [Hi (by omega) (by omega)] at hv
         rw [show fh.new (some (A,c),some (B,d))=some (.flat true (p+1) 6 (bS S)) from by show cW (dm A B).1=_; rw [hv]; unfold cW; rw [← nT],show fh.val (some (A,c),some (B,d))=.tuple ⟨[.slice (some ⟨2,0,none⟩) (p+1) aM,.int .i64 0]⟩ from by show Value.tuple ⟨[eg _ (dm A B).1.length,.int .i64 (dm A B).2]⟩=_; rw [hv,← nT]; rfl]
         refine ⟨5,?_⟩;conv=>whnf
         exact ⟨⟨rfl,aG.rU (fun h=>h) Ew (fun r hr=>rfl)⟩,_,rfl,.refl _⟩
    ·rw [show (e2 != 0)=true from by simp [J]]
     conv=>whnf
     exact s7 1 _ (HR fun h=>J (by rw [bO]; exact h.2))
   ·rw [show (e != 0)=true from by simp [h1]]
    conv=>whnf
    exact s7 1 _ (HR fun h=>h1 (by rw [he]; exact h.1))
open Go Go.Ae
theorem Z7:bh Tryz.prog 101 (q8 true):=by
 refine bk qP aN Tryz.func101 (enters_of Tryz.func101 (by kernel_rfl) rfl) (fun _=>rfl) (fun _=>rfl) ?_
 intro (z:Int) hp;conv=>whnf
 rfl
theorem Z8:bh Tryz.prog 103 (q8 false):=by
 refine bk qP aN Tryz.func103 (enters_of Tryz.func103 (by kernel_rfl) rfl) (fun _=>rfl) (fun _=>rfl) ?_
 intro (z:Int) hp;conv=>whnf
 rfl
theorem Z9:bh Tryz.prog 105 (q8 true):=by
 refine bk qP aN Tryz.func105 (enters_of Tryz.func105 (by kernel_rfl) rfl) (fun _=>rfl) (fun _=>rfl) ?_
 intro (z:Int) hp;conv=>whnf
 rfl
def J4:Env:=En [(32,.p kd),(101,.p (q8 true)),(103,.p (q8 false)),(105,.p (q8 true))]
theorem adQ:EnvOk Tryz.prog J4:=bD ⟨BO,Z7,Z8,Z9,trivial⟩ trivial
theorem Uy:fM Tryz.prog 168 (ck J4 cI Tryz.f168):=by
 exact jc adQ aN Tryz.func168 (enters_of Tryz.func168 (by kernel_rfl) rfl)
def J5:Env:=En [] [(168,ck J4 cI Tryz.f168)]
theorem adR:EnvOk Tryz.prog J5:=bD trivial ⟨Uy,trivial⟩
theorem VD:fM Tryz.prog 106 (ck J5 cI Tryz.f106):=by
 exact jc adR aN Tryz.func106 (enters_of Tryz.func106 (by kernel_rfl) rfl)
def J6:Env:=En [] [(106,ck J5 cI Tryz.f106)]
theorem adS:EnvOk Tryz.prog J6:=bD trivial ⟨VD,trivial⟩
theorem SB:fM Tryz.prog 49 (ck J6 cI Tryz.f49):=by
 exact jc adS aN Tryz.func49 (enters_of Tryz.func49 (by kernel_rfl) rfl)
def RQ:Env:=En [] [(49,ck J6 cI Tryz.f49),(64,ck nf cI Tryz.f64)] [(118,uD)]
theorem adT:EnvOk Tryz.prog RQ:=bD trivial ⟨SB,wY,trivial⟩
theorem acs:gP Tryz.prog RQ:=vP ⟨wJ,trivial⟩
abbrev j6:a9:=x0 101 103 105 fa
abbrev iU:a9:=x0 101 103 105 eK
theorem VE:cU Tryz.prog 144 j6:=by
 refine dh adT aN Tryz.func144 (enters_of Tryz.func144 (by kernel_rfl) rfl) ?_ ?_ ?_ (hI:=acs)
 ·intro i b hb; simp [j6,x0] at hb; rcases hb with rfl | rfl <;> rfl
 ·intro i b hb; simp [j6,x0] at hb
 intro ⟨⟨⟨A,c⟩,⟨B,d⟩⟩,f,s⟩ hp;have hp:((f,s)=(101,true)∨(f,s)=(103,false)∨(f,s)=(105,true))∧(A.length≤1073741824∧∀ v∈A,Q2.sz 2048 v)∧B.length≤1073741824∧∀ v∈B,Q2.sz 2048 v:=hp;obtain ⟨vI,⟨hla,AX⟩,hlb,Ex⟩:=hp;obtain ⟨n,hn⟩:∃ n,n=A.length:=⟨_,rfl⟩;obtain ⟨g,hg⟩:∃ g,g=bS A:=⟨_,rfl⟩;obtain ⟨m,hm⟩:∃ n,n=B.length:=⟨_,rfl⟩;obtain ⟨g2,mr⟩:∃ g,g=bS B:=⟨_,rfl⟩;obtain ⟨K,hK⟩:∃ K,K=gJ j6 (((A,c),(B,d)),(f,s)):=⟨_,rfl⟩;have fin:∀ (x:XV) (z:Bool) (H:aA),fc (fa s A B)=(x,z)→K (.tuple ⟨[x.v,.bool z]⟩) H:=fun x z H h=>by
  rw [hK];unfold gJ;rw [show j6.new (((A,c),(B,d)),(f,s))=none from rfl,show j6.val (((A,c),(B,d)),(f,s))=.tuple ⟨[x.v,.bool z]⟩ from by show Value.tuple ⟨[(fc (fa s A B)).1.v,.bool (fc (fa s A B)).2]⟩=_; rw [h]]
  exact ⟨_,rfl,.refl _⟩
 rw [show j6.ae (((A,c),(B,d)),(f,s))=[.flat false n 6 g,.flat false m 6 g2] from by rw [hn,hg,hm,mr]; rfl,show j6.args (((A,c),(B,d)),(f,s))=[.slice (some ⟨0,0,none⟩) n c,.slice (some ⟨1,0,none⟩) m d,.func (.func f) #[] #[]] from by rw [hn,hm]; rfl,← hK]
 rw [← hn] at hla;rw [← hm] at hlb;conv=>whnf
 intro yl nu fn tm df;conv=>whnf
 refine .inl ⟨fun mm tz hz=>∃ (j:Nat),bA (some (.func (.yield yl) #[] #[])::some (.pointer (some ⟨6,0,none⟩))::aF 3 (some (.slice (some ⟨0,0,none⟩) n c)::some (.int .i64 n)::some (.int .i64 j)::aF 17 [])) tz∧hz=[some (.flat false n 6 g),some (.flat false m 6 g2),some (.aO true 1 [[.slice (some ⟨1,0,none⟩) m d]]),some (.aO true 1 [[.func (.func f) #[] #[]]]),some (.aO true 12 [lT.cells]),some (.aO true 1 [[.bool false]]),some (.aO true 1 [[.slice (some ⟨0,0,none⟩) n c]]),some (.cg (qV Tryz.f144 fn tm df))]∧n - j=mm∧(j≤n∧oa (nK s B) (aU A) j),.inr ⟨[0,1,2,3,4,5,6,7],[0,1,5,6,7],?_⟩,?_⟩
 ·conv=>whnf
  intro _;conv=>whnf
  refine ⟨_,0,(.aa (.aa (.sk 3 (.aa (.aa (.aa (.sk 17 .nil rfl)))) rfl))),rfl,rfl,?_⟩;exact ⟨Nat.zero_le _,EO _ _⟩
 rintro mm aT _ ⟨j,aw,rfl,rfl,⟨hj,hU⟩⟩
 obtain ⟨az,rfl⟩:∃ az:Nat→Value,aT=.func (.yield yl) #[] #[]::.pointer (some ⟨6,0,none⟩)::zs az 2 3 (.slice (some ⟨0,0,none⟩) n c::.int .i64 n::.int .i64 j::zs az 8 17 []):=bI aw;clear aw;conv=>whnf
 refine aK (fun h3=>?_) (fun h3=>?_)
 ·have h3:j < n:=by
   have:=of_decide_eq_true h3;omega
  have e7:IntKind.i64.wrap ((j:Int)+1)=((j+1:Nat):Int):=by rw [ax (by omega) (by omega)]; rfl
  obtain ⟨a,ca,ra,pa,sa,qa⟩:=il (L:=A) (k:=j) (by omega) AX
  obtain ⟨b,cb,rb,pb,sb,qb⟩:=il (L:=A) (k:=aX n j) (by rw [hn]; exact cL (by omega)) AX
  have cV:=lV h3 (by omega)
  have cG:=cL h3;have ib:(aU A)[j]?=some (a.p,b.p):=by rw [pa,pb]; rw [hn] at cG ⊢; exact qe (ij (by omega)) (ij cG)
  rw [← pa] at ca;rw [← pb] at cb;obtain ⟨u,hu⟩:∃ u,u=aX n j:=⟨_,rfl⟩;rw [← hu] at cV cG rb;rw [← hg] at ra rb;conv=>whnf
  refine ⟨⟨by omega,by omega⟩,?_⟩
  simp only [toNat_cast,ay,Nat.zero_add];conv=>whnf
  refine ⟨by show j < n; omega,?_⟩
  conv=>whnf
  rw [ra];conv=>whnf
  refine .inl ⟨10,[[],[],[],[],[3],[],[5],[3,4,5,6],[2,3,4,5,6,7],[2,3,4,5,6,7,8],[0,1,2,3,4,5,6,7,8,9],[0,1,2,3,4,5,6,7,8,9,10]],by kernel_rfl,?_⟩
  conv=>whnf
  rw [show decide ((n:Int)≠0)=true from decide_eq_true (by omega)]
  conv=>whnf
  rw [cV];refine ⟨⟨by omega,by omega⟩,?_⟩
  simp only [toNat_cast,ay,Nat.zero_add];conv=>whnf
  refine ⟨by show u < n; omega,?_⟩
  conv=>whnf
  rw [rb];conv=>whnf
  refine ⟨rfl,?_⟩;conv=>whnf
  refine ⟨rfl,?_⟩;conv=>whnf
  refine ⟨rfl,?_⟩;conv=>whnf
  refine .inl ⟨fun mm tz hz=>∃ (i:Nat),bA (some (.slice (some ⟨1,0,none⟩) m d)::some (.func (.func 168) #[] #[.pointer (some ⟨3,0,none⟩),.pointer (some ⟨19,0,none⟩),.pointer (some ⟨20,0,none⟩)])::aF 5 (some (.int .i64 m)::some (.int .i64 i)::aF 10 [])) tz∧hz=[some (.flat false n 6 g),some (.flat false m 6 g2),some (.aO true 1 [[.slice (some ⟨1,0,none⟩) m d]]),some (.aO true 1 [[.func (.func f) #[] #[]]]),some (.aO true 12 [lT.cells]),some (.aO true 1 [[.bool false]]),some (.aO true 1 [[.slice (some ⟨0,0,none⟩) n c]]),some (.cg { qV Tryz.f144 fn tm df with state:=.busy }),some (.aO true 6 [a.cells]),none,none,none,none,none,none,none,none,none,none,some (.aO true 6 [a.cells]),some (.aO true 6 [b.cells])]∧m - i=mm∧(i≤m∧oa (s4 s a.p b.p) B i),.inr ⟨[0,1,2,3,4,5,6,7,8,9,10,11,12,13,14,15,16,17,18,19,20],[0,1,7,8],?_⟩,?_⟩
  ·conv=>whnf
   intro _;conv=>whnf
   refine ⟨_,0,(.aa (.aa (.sk 5 (.aa (.aa (.sk 10 .nil rfl))) rfl))),rfl,rfl,?_⟩;exact ⟨Nat.zero_le _,EO _ _⟩
  rintro mm aT _ ⟨i,aw,rfl,rfl,⟨hi,hV⟩⟩
  obtain ⟨az,rfl⟩:∃ az:Nat→Value,aT=.slice (some ⟨1,0,none⟩) m d::.func (.func 168) #[] #[.pointer (some ⟨3,0,none⟩),.pointer (some ⟨19,0,none⟩),.pointer (some ⟨20,0,none⟩)]::zs az 2 5 (.int .i64 m::.int .i64 i::zs az 9 10 []):=bI aw;clear aw;conv=>whnf
  refine aK (fun h4=>?_) (fun h4=>?_)
  ·have h4:i < m:=by
    have:=of_decide_eq_true h4;omega
   have e8:IntKind.i64.wrap ((i:Int)+1)=((i+1:Nat):Int):=by rw [ax (by omega) (by omega)]; rfl
   obtain ⟨x,cx,rx,px,sx,qx⟩:=il (L:=B) (k:=i) (by omega) Ex
   rw [← mr] at rx;have J7:x.p∈B:=by rw [px]; exact eJ (by omega)
   have J8:B[i]?=some x.p:=by rw [px]; exact ij (by omega)
   conv=>whnf
   refine ⟨⟨by omega,by omega⟩,?_⟩
   simp only [toNat_cast,ay,Nat.zero_add];conv=>whnf
   refine ⟨by show i < m; omega,?_⟩
   conv=>whnf
   rw [rx];conv=>whnf
   refine .inl ⟨5,[[],[],[],[],[1,2,3],[0,1,2,3,4],[0,1,2,3,4,5],[0,1,2,3,4,5,6]],by kernel_rfl,?_⟩
   conv=>whnf
   obtain ⟨z,ez,pz⟩:=ef (aW (ak a.p b.p x.p) 0);refine ⟨(a,b,x),rfl,⟨PV.aY sa (by decide),PV.aY sb (by decide),PV.aY sx (by decide)⟩,?_⟩
   rw [show kd.val (a,b,x)=.int .i64 z from ez]
   conv=>whnf
   obtain ⟨w,hw⟩:∃ w,w=j4 s z:=⟨_,rfl⟩;have gV:s4 s a.p b.p x.p=!w:=by unfold s4; rw [← pz,← hw]
   rcases vI with h | h | h
   ·obtain ⟨rfl,rfl⟩:=Prod.mk.inj h;refine ⟨(z:Int),rfl,trivial,?_⟩;rw [show (q8 true).val z=.bool w from by rw [hw]; rfl]
    conv=>whnf
    cases w with
    | true =>
     conv=>whnf
     rw [e8];refine .inr ⟨[0,1,2,3,4,5,6,7,8,9,10,11,12,13,14,15,16,17,18,19,20],[0,1,7,8],?_⟩;conv=>whnf
     intro _;conv=>whnf
     refine ⟨_,?_,i+1,(.aa (.aa (.sk 5 (.aa (.aa (.sk 10 .nil rfl))) rfl))),rfl,rfl,?_⟩
     ·omega
     ·exact ⟨by omega,tR hV J8 gV⟩
    | false =>
     conv=>whnf
     refine ⟨rfl,?_⟩;conv=>whnf
     rw [e7];refine .inr ⟨[0,1,2,3,4,5,6,7],[0,1,5,6,7],?_⟩;conv=>whnf
     intro _;conv=>whnf
     refine ⟨_,?_,j+1,(.aa (.aa (.sk 3 (.aa (.aa (.aa (.sk 17 .nil rfl)))) rfl))),rfl,rfl,?_⟩
     ·omega
     ·exact ⟨by omega,tR hU ib (GQ J7 gV)⟩
   ·obtain ⟨rfl,rfl⟩:=Prod.mk.inj h;refine ⟨(z:Int),rfl,trivial,?_⟩;rw [show (q8 false).val z=.bool w from by rw [hw]; rfl]
    conv=>whnf
    cases w with
    | true =>
     conv=>whnf
     rw [e8];refine .inr ⟨[0,1,2,3,4,5,6,7,8,9,10,11,12,13,14,15,16,17,18,19,20],[0,1,7,8],?_⟩;conv=>whnf
     intro _;conv=>whnf
     refine ⟨_,?_,i+1,(.aa (.aa (.sk 5 (.aa (.aa (.sk 10 .nil rfl))) rfl))),rfl,rfl,?_⟩
     ·omega
     ·exact ⟨by omega,tR hV J8 gV⟩
    | false =>
     conv=>whnf
     refine ⟨rfl,?_⟩;conv=>whnf
     rw [e7];refine .inr ⟨[0,1,2,3,4,5,6,7],[0,1,5,6,7],?_⟩;conv=>whnf
     intro _;conv=>whnf
     refine ⟨_,?_,j+1,(.aa (.aa (.sk 3 (.aa (.aa (.aa (.sk 17 .nil rfl)))) rfl))),rfl,rfl,?_⟩
     ·omega
     ·exact ⟨by omega,tR hU ib (GQ J7 gV)⟩
   ·obtain ⟨rfl,rfl⟩:=Prod.mk.inj h;refine ⟨(z:Int),rfl,trivial,?_⟩;rw [show (q8 true).val z=.bool w from by rw [hw]; rfl]
    conv=>whnf
    cases w with
    | true =>
     conv=>whnf
     rw [e8];refine .inr ⟨[0,1,2,3,4,5,6,7,8,9,10,11,12,13,14,15,16,17,18,19,20],[0,1,7,8],?_⟩;conv=>whnf
     intro _;conv=>whnf
     refine ⟨_,?_,i+1,(.aa (.aa (.sk 5 (.aa (.aa (.sk 10 .nil rfl))) rfl))),rfl,rfl,?_⟩
     ·omega
     ·exact ⟨by omega,tR hV J8 gV⟩
    | false =>
     conv=>whnf
     refine ⟨rfl,?_⟩;conv=>whnf
     rw [e7];refine .inr ⟨[0,1,2,3,4,5,6,7],[0,1,5,6,7],?_⟩;conv=>whnf
     intro _;conv=>whnf
     refine ⟨_,?_,j+1,(.aa (.aa (.sk 3 (.aa (.aa (.aa (.sk 17 .nil rfl)))) rfl))),rfl,rfl,?_⟩
     ·omega
     ·exact ⟨by omega,tR hU ib (GQ J7 gV)⟩
  ·have h4:i=m:=by
    have:=of_decide_eq_false h4;omega
   subst h4;conv=>whnf
   refine ⟨rfl,?_⟩;conv=>whnf
   refine fin (a,b) true _ ?_;rw [WN hU ib (X2 (Fl (by rw [← hm]; exact hV)))]
   show ((cj a.p,cj b.p),true)=((a,b),true)
   rw [← ca,← cb]
 ·have h3:j=n:=by
   have:=of_decide_eq_false h3;omega
  subst h3;conv=>whnf
  exact fin lT false _ (by rw [WO hn hU]; rfl)
end Go.Proofs.YtlapbjdhekcipaaGreat
