import Derived.Test.YtlapbjdhekcipaaGreatTI
set_option linter.unusedVariables false
set_option linter.unusedSimpArgs false
set_option maxRecDepth 20000
set_option maxHeartbeats 4000000
namespace Go.Proofs.YtlapbjdhekcipaaGreat
open Go Go.Ae
def mr:Env:=En [(85,.p ia)]
theorem Da:EnvOk Tryz.prog mr:=bI ⟨Co,trivial⟩ trivial
def wX:Nat→FT→Nu→FT:=fun l G nu=>cC { mr with ys:=[(l,G)],nu:=nu } cO Tryz.f118
theorem yB:zM Tryz.prog 118 wX:=by
 exact O4 Da aL Tryz.func118 (enters_of Tryz.func118 (by kernel_rfl) rfl)
theorem yQ:gj Tryz.prog 64 (cC mr cO Tryz.f64):=by
 exact jh Da aL Tryz.func64 (enters_of Tryz.func64 (by kernel_rfl) rfl)
def Ro:Env:=En [(56,.q dN)] [(64,cC mr cO Tryz.f64),(49,cC D6 cO Tryz.f49)] [(118,wX)]
theorem adf:EnvOk Tryz.prog Ro:=bI ⟨EF,trivial⟩ ⟨yQ,KL,trivial⟩
theorem abR:iD Tryz.prog Ro:=x6 ⟨yB,trivial⟩
theorem B0:dj Tryz.prog 23 bk:=by
 refine dC adf aL Tryz.func23 (enters_of Tryz.func23 (by kernel_rfl) rfl) ?_ ?_ ?_ (hI:=abR)
 ·intro i b hb;cases i with
  | none=>simp [bk,PL.ae] at hb
  | some i=>simp [bk,PL.ae] at hb; rw [hb]; rfl
 ·intro i b hb; simp [bk] at hb
 intro i hp;have hp:i.list.length≤1099511627776∧∀ v∈i.list,v.sz 2048:=hp;obtain ⟨hlen,aY⟩:=hp;cases i with
 | none =>
  conv=>whnf
  exact ⟨.int .i64 4,rfl,.refl _⟩
 | some i =>
  obtain ⟨L,c⟩:=i;have hlen:L.length≤1099511627776:=hlen;have aY:∀ v∈L,PV.sz 2048 v:=aY;obtain ⟨n,hn⟩:∃ n,n=L.length:=⟨_,rfl⟩;obtain ⟨g,hg⟩:∃ g,g=bF L:=⟨_,rfl⟩;have fin:∀ z:Int,bt L=z→∃ v',dn (List.range 1) 3 (bk.val (some (L,c)))=some v'∧gd (.int .i64 z) v':=fun z h=>⟨.int .i64 z,by rw [← h]; rfl,.refl _⟩
  rw [show bk.ae (some (L,c))=[.flat false n 6 g] from by rw [hn,hg]; rfl,show bk.args (some (L,c))=[.slice (some ⟨0,0,none⟩) n c] from by rw [hn]; rfl]
  rw [← hn] at hlen;conv=>whnf
  by_cases h1:n < 3
  ·rw [show decide ((n:Int) < 3)=true from decide_eq_true (by omega)]
   conv=>whnf
   exact fin 4 (Ci (.inl (by omega)))
  rw [show decide ((n:Int) < 3)=false from decide_eq_false (by omega)]
  conv=>whnf
  by_cases J:64 < n
  ·rw [show decide ((n:Int) > 64)=true from decide_eq_true (by omega)]
   conv=>whnf
   exact fin 4 (Ci (.inr (by omega)))
  rw [show decide ((n:Int) > 64)=false from decide_eq_false (by omega)]
  conv=>whnf
  obtain ⟨z,hz⟩:∃ z,z=fa L:=⟨_,rfl⟩;refine ⟨some (L,c),[0],by rw [show dN.args (some (L,c))=[.slice (some ⟨0,0,none⟩) n c] from by rw [hn]; rfl]; rfl,⟨by show L.length≤_; omega,aY⟩,?_⟩
  rw [show dN.ae (some (L,c))=[.flat false n 6 g] from by rw [hn,hg]; rfl,show dN.val (some (L,c))=.bool (!z) from by rw [hz]; rfl,show dN.new (some (L,c))=none from rfl]
  conv=>whnf
  refine ⟨aq.aO (fun h=>h) (fun r hr=>by rw [hg]; rfl),?_⟩
  conv=>whnf
  refine ⟨_,rfl,?_⟩;conv=>whnf
  cases z with
  | true =>
   conv=>whnf
   exact fin 1 (N4 (by omega) hz.symm)
  | false =>
   conv=>whnf
   refine ⟨⟨by decide,by omega,by omega⟩,?_⟩
   conv=>whnf
   obtain ⟨m,hm⟩:∃ m,m=n - 1:=⟨_,rfl⟩;obtain ⟨c1,vI⟩:∃ x,x=uA c (Int.toNat 1):=⟨_,rfl⟩;rw [← vI,show Int.toNat (n:Int) - Int.toNat 1=m from hm.symm,show dR 0 (Int.toNat 1)=1 from rfl]
   have q7:fa L=false:=hz.symm;have h0:=ni (L:=L) (k:=0) (by omega)
   have so:=aY _ (lO (L:=L) (k:=0) (by omega))
   have po:=jC (L:=L) (k:=0) (by omega)
   obtain ⟨o,ho⟩:∃ o,o=gg L 0:=⟨_,rfl⟩;rw [← ho] at h0 so po;rw [← hg] at h0;have qo:=PV.cM so (by decide)
   refine .inl ⟨fun mm tz hz=>∃ (i:Nat),bC (some (.slice (some ⟨0,1,none⟩) m c1)::some (.func (.func 73) #[] #[.pointer (some ⟨1,0,none⟩)])::aD 5 (some (.int .i64 m)::some (.int .i64 i)::aD 10 [])) tz∧hz=[some (.flat false n 6 g),some (.aR true 1 [[.slice (some ⟨0,0,none⟩) n c]]),some (.aR true 1 [[.int .i64 0]])]∧m - i=mm∧(i≤m∧xC (aG L) i),.inr ⟨[0,1,2],[0,1,7,8],?_⟩,?_⟩
   ·conv=>whnf
    intro _;conv=>whnf
    refine ⟨_,0,(.aa (.aa (.sk 5 (.aa (.aa (.sk 10 .nil rfl))) rfl))),rfl,rfl,?_⟩;exact ⟨Nat.zero_le _,K5 _⟩
   rintro mm aT _ ⟨i,aw,rfl,rfl,⟨hi,hU⟩⟩
   obtain ⟨az,rfl⟩:∃ az:Nat→Value,aT=.slice (some ⟨0,1,none⟩) m c1::.func (.func 73) #[] #[.pointer (some ⟨1,0,none⟩)]::zs az 2 5 (.int .i64 m::.int .i64 i::zs az 9 10 []):=bL aw;clear aw;conv=>whnf
   refine aI (fun h3=>?_) (fun h3=>?_)
   ·have h3:i < m:=by
     have:=of_decide_eq_true h3;omega
    have e7:IntKind.i64.wrap ((i:Int)+1)=((i+1:Nat):Int):=by rw [ay (by omega) (by omega)]; rfl
    have ra:=ni (L:=L) (k:=i+1) (by omega)
    have sa:=aY _ (lO (L:=L) (k:=i+1) (by omega))
    have pa:=jC (L:=L) (k:=i+1) (by omega)
    obtain ⟨a,ha⟩:∃ o,o=gg L (i+1):=⟨_,rfl⟩;rw [← ha] at ra sa pa;rw [← hg] at ra;have qa:=PV.cM sa (by decide)
    conv=>whnf
    refine ⟨⟨by omega,by omega⟩,?_⟩
    simp only [toNat_cast,ar,Nat.zero_add,Nat.add_comm 1 i];conv=>whnf
    refine ⟨by show i+1 < n; omega,?_⟩
    conv=>whnf
    rw [ra];conv=>whnf
    refine .inl ⟨4,[[],[],[1],[1,2],[0,1,2,3],[0,1,2,3,4],[0,1,2,3,4,5]],by kernel_rfl,?_⟩
    conv=>whnf
    have z7:g (Int.toNat 0)=o.cells:=h0;refine ⟨⟨by omega,by omega⟩,?_⟩
    simp only [toNat_cast,ar,Nat.zero_add];conv=>whnf
    refine ⟨by show 0 < n; omega,?_⟩
    conv=>whnf
    rw [z7];conv=>whnf
    obtain ⟨z,ez,pz⟩:=cZ (dV a.p o.p);refine ⟨(a,o),rfl,⟨PV.aP sa (by decide),PV.aP so (by decide)⟩,?_⟩
    rw [show kv.val (a,o)=.int .i64 z from ez]
    conv=>whnf
    rw [pa,po] at pz;by_cases h4:iY (aF (aG L) 0) (aF (aG L) (i+1))
    ·have:=OM.1 h4;rw [show decide (z≤0)=false from decide_eq_false (by omega)]
     conv=>whnf
     rw [e7];refine .inr ⟨[0,1,2],[0,1,7,8],?_⟩;conv=>whnf
     intro _;conv=>whnf
     refine ⟨_,?_,i+1,(.aa (.aa (.sk 5 (.aa (.aa (.sk 10 .nil rfl))) rfl))),rfl,rfl,?_⟩
     ·omega
     ·exact ⟨by omega,LJ hU h4⟩
    ·have:¬ 0 < dV (aF (aG L) (i+1)) (aF (aG L) 0):=fun e=>h4 (OM.2 e)
     rw [show decide (z≤0)=true from decide_eq_true (by omega)]
     conv=>whnf
     exact fin 8 (N5 (by omega) q7 fun e=>h4 (e (i+1) (by omega) (by rw [cE]; omega)))
   ·have h3:i=m:=by
     have:=of_decide_eq_false h3;omega
    have ot:=MC hU (by rw [cE]; omega)
    have yc:3≤(aG L).length:=by rw [cE]; omega
    conv=>whnf
    intro yl nu fn tm df;conv=>whnf
    skip
    refine .inl ⟨fun mm tz hz=>∃ (j:Nat),bC (some (.func (.yield yl) #[] #[])::some (.pointer (some ⟨3,0,none⟩))::aD 3 (some (.slice (some ⟨0,0,none⟩) n c)::some (.int .i64 n)::some (.int .i64 j)::aD 17 [])) tz∧hz=[some (.flat false n 6 g),some (.aR true 1 [[.slice (some ⟨0,0,none⟩) n c]]),some (.aR true 1 [[.int .i64 0]]),some (.aR true 1 [[.slice (some ⟨0,0,none⟩) n c]]),some (.cB (sY Tryz.f23 fn tm df))]∧n - j=mm∧(j≤n∧∀ k,k < j→¬ zh (aG L) k),.inr ⟨[0,1,2,3,4],[0,1,5,6,7],?_⟩,?_⟩
    ·conv=>whnf
     intro _;conv=>whnf
     refine ⟨_,0,(.aa (.aa (.sk 3 (.aa (.aa (.aa (.sk 17 .nil rfl)))) rfl))),rfl,rfl,?_⟩;exact ⟨Nat.zero_le _,fun k hk=>absurd hk (Nat.not_lt_zero k)⟩
    rintro mm aT _ ⟨j,aw,rfl,rfl,⟨hj,hB⟩⟩
    obtain ⟨az,rfl⟩:∃ az:Nat→Value,aT=.func (.yield yl) #[] #[]::.pointer (some ⟨3,0,none⟩)::zs az 2 3 (.slice (some ⟨0,0,none⟩) n c::.int .i64 n::.int .i64 j::zs az 8 17 []):=bL aw;clear aw;conv=>whnf
    refine aI (fun h3=>?_) (fun h3=>?_)
    ·have h3:j < n:=by
      have:=of_decide_eq_true h3;omega
     have e7:IntKind.i64.wrap ((j:Int)+1)=((j+1:Nat):Int):=by rw [ay (by omega) (by omega)]; rfl
     obtain ⟨a,b,ra,rb,⟨ma,mb⟩,_,b8,ha,hb⟩:=pY hn h3;have sa:=aY a ma;have sb:=aY b mb;have b6:=jm h3 (by omega)
     obtain ⟨u,hu⟩:∃ u,u=aZ n j:=⟨_,rfl⟩;rw [← hu] at b6 b8 rb;rw [← hg] at ra rb;conv=>whnf
     refine ⟨⟨by omega,by omega⟩,?_⟩
     simp only [toNat_cast,ar,Nat.zero_add];conv=>whnf
     refine ⟨by show j < n; omega,?_⟩
     conv=>whnf
     rw [ra];conv=>whnf
     refine .inl ⟨10,[[],[],[],[],[3],[],[5],[3,4,5,6],[2,3,4,5,6,7],[2,3,4,5,6,7,8],[0,1,2,3,4,5,6,7,8,9],[0,1,2,3,4,5,6,7,8,9,10]],by kernel_rfl,?_⟩
     conv=>whnf
     rw [show decide ((n:Int)≠0)=true from decide_eq_true (by omega)]
     conv=>whnf
     rw [b6];refine ⟨⟨by omega,by omega⟩,?_⟩
     simp only [toNat_cast,ar,Nat.zero_add];conv=>whnf
     refine ⟨by show u < n; omega,?_⟩
     conv=>whnf
     rw [rb];conv=>whnf
     refine ⟨rfl,?_⟩;conv=>whnf
     refine ⟨rfl,?_⟩;conv=>whnf
     refine ⟨rfl,?_⟩;conv=>whnf
     refine .inl ⟨fun mm tz hz=>∃ (i:Nat),bC (some (.slice (some ⟨0,0,none⟩) n c)::some (.func (.func 75) #[] #[.pointer (some ⟨16,0,none⟩),.pointer (some ⟨17,0,none⟩)])::aD 5 (some (.int .i64 n)::some (.int .i64 i)::aD 10 [])) tz∧hz=[some (.flat false n 6 g),some (.aR true 1 [[.slice (some ⟨0,0,none⟩) n c]]),some (.aR true 1 [[.int .i64 0]]),some (.aR true 1 [[.slice (some ⟨0,0,none⟩) n c]]),some (.cB { sY Tryz.f23 fn tm df with state:=.busy }),some (.aR true 6 [a.cells]),none,none,none,none,none,none,none,none,none,none,some (.aR true 6 [a.cells]),some (.aR true 6 [b.cells])]∧n - i=mm∧(i≤n∧ob (s7 a b) L i),.inr ⟨[0,1,2,3,4,5,6,7,8,9,10,11,12,13,14,15,16,17],[0,1,7,8],?_⟩,?_⟩
     ·conv=>whnf
      intro _;conv=>whnf
      refine ⟨_,0,(.aa (.aa (.sk 5 (.aa (.aa (.sk 10 .nil rfl))) rfl))),rfl,rfl,?_⟩;exact ⟨Nat.zero_le _,EE _ _⟩
     rintro mm aT _ ⟨i,aw,rfl,rfl,⟨hi,hU⟩⟩
     obtain ⟨az,rfl⟩:∃ az:Nat→Value,aT=.slice (some ⟨0,0,none⟩) n c::.func (.func 75) #[] #[.pointer (some ⟨16,0,none⟩),.pointer (some ⟨17,0,none⟩)]::zs az 2 5 (.int .i64 n::.int .i64 i::zs az 9 10 []):=bL aw;clear aw;conv=>whnf
     refine aI (fun h4=>?_) (fun h4=>?_)
     ·have h4:i < n:=by
       have:=of_decide_eq_true h4;omega
      have e8:IntKind.i64.wrap ((i:Int)+1)=((i+1:Nat):Int):=by rw [ay (by omega) (by omega)]; rfl
      obtain ⟨p,ke,vJ,bd⟩:=rR (l:=L) (i:=i) (by omega)
      rw [← hg] at bd;conv=>whnf
      refine ⟨⟨by omega,by omega⟩,?_⟩
      simp only [toNat_cast,ar,Nat.zero_add];conv=>whnf
      refine ⟨by show i < n; omega,?_⟩
      conv=>whnf
      rw [bd];conv=>whnf
      obtain ⟨z,hz⟩:∃ z,z=s7 a b p:=⟨_,rfl⟩;refine ⟨(a,b,p),[16,17],rfl,⟨sa,sb,aY p vJ⟩,?_⟩;rw [show sP.ae (a,b,p)=[.flat false 1 6 (fun _=>a.cells),.flat false 1 6 (fun _=>b.cells)] from rfl,show sP.val (a,b,p)=.bool z from by rw [hz]; rfl,show sP.new (a,b,p)=none from rfl]
      conv=>whnf
      refine ⟨N0 a,N0 b,?_⟩;conv=>whnf
      refine ⟨_,rfl,?_⟩;conv=>whnf
      cases z with
      | false =>
       conv=>whnf
       rw [e8];refine .inr ⟨[0,1,2,3,4,5,6,7,8,9,10,11,12,13,14,15,16,17],[0,1,7,8],?_⟩;conv=>whnf
       intro _;conv=>whnf
       refine ⟨_,?_,i+1,(.aa (.aa (.sk 5 (.aa (.aa (.sk 10 .nil rfl))) rfl))),rfl,rfl,?_⟩
       ·omega
       ·exact ⟨by omega,tQ hU ke hz.symm⟩
      | true =>
       conv=>whnf
       refine ⟨rfl,?_⟩;conv=>whnf
       exact fin 15 (GO (by omega) q7 ot fun e=>(Ng yc ot).1 e j (by rw [cE]; omega) (XE q7 (by omega) ha (hb.trans (by rw [hn])) vJ hz.symm))
     ·have h4:i=n:=by
       have:=of_decide_eq_false h4;omega
      subst h4;conv=>whnf
      refine ⟨rfl,?_⟩;conv=>whnf
      rw [e7];refine .inr ⟨[0,1,2,3,4],[0,1,5,6,7],?_⟩;conv=>whnf
      intro _;conv=>whnf
      refine ⟨_,?_,j+1,(.aa (.aa (.sk 3 (.aa (.aa (.aa (.sk 17 .nil rfl)))) rfl))),rfl,rfl,?_⟩
      ·omega
      ·refine ⟨by omega,fun k hk=>?_⟩
       rcases Nat.lt_or_eq_of_le (Nat.le_of_lt_succ hk) with e | e
       ·exact hB k e
       ·subst e;exact aam (by omega) ha (hb.trans (by rw [hn])) (E7 (by rw [← hn]; exact hU))
    ·have h3:j=n:=by
      have:=of_decide_eq_false h3;omega
     subst h3;conv=>whnf
     exact fin 0 (Nj (by omega) q7 ot ((Ng yc ot).2 fun k hk=>hB k (by rw [cE] at hk; omega)))
open Go Go.Ae
open Go Go.Ae
theorem abS:bc Tryz.prog 110 vm:=by
 refine bh qN aL Tryz.func110 (enters_of Tryz.func110 (by kernel_rfl) rfl) (fun _=>rfl) (fun _=>rfl) ?_
 intro ⟨a,b,p⟩ hp;conv=>whnf
 rw [xM b p];by_cases h:b=p
 ·rw [decide_eq_true h,show vm.val (a,b,p)=.bool false from congrArg Value.bool (decide_eq_false fun e=>e h)]; rfl
 ·rw [decide_eq_false h,show vm.val (a,b,p)=.bool true from congrArg Value.bool (decide_eq_true h)]; rfl
theorem abT:bc Tryz.prog 111 vn:=by
 refine bh qN aL Tryz.func111 (enters_of Tryz.func111 (by kernel_rfl) rfl) (fun _=>rfl) (fun _=>rfl) ?_
 intro ⟨a,b,p⟩ hp;have hp:a.sz 1048576∧b.sz 1048576∧p.sz 1048576:=hp;obtain ⟨sa,sb,sp⟩:=hp;conv=>whnf
 obtain ⟨z,ez,pz⟩:=cZ (aW (aB a.p b.p p.p) 0);refine ⟨(a,b,p),rfl,⟨PV.aP sa (by decide),PV.aP sb (by decide),PV.aP sp (by decide)⟩,?_⟩
 rw [show np.val (a,b,p)=.int .i64 z from ez]
 conv=>whnf
 by_cases h:z=0
 ·rw [show vn.val (a,b,p)=.bool false from congrArg Value.bool (decide_eq_false fun e=>e (by rw [← pz]; exact h)),show (z != 0)=false from by simp [h]]
 ·rw [show vn.val (a,b,p)=.bool true from congrArg Value.bool (decide_eq_true (by rw [← pz]; exact h)),show (z != 0)=true from by simp [h]]
def Ex1:Env:=En [(110,.p vm),(111,.p vn)]
theorem adg:EnvOk Tryz.prog Ex1:=bI ⟨abS,abT,trivial⟩ trivial
theorem ZC:dj Tryz.prog 109 (ky 110 111):=by
 refine dC adg aL Tryz.func109 (enters_of Tryz.func109 (by kernel_rfl) rfl) ?_ ?_ ?_
 ·intro ⟨i,b⟩ B hb;cases i with
  | none=>simp [ky,QL.ae] at hb
  | some i=>simp [ky,QL.ae] at hb; rw [hb]; rfl
 ·intro i B hb;exact yK hb
 intro ⟨i,b⟩ hp;have hp:i.list.length≤549755813888∧∀ v∈i.list,Q2.sz 262144 v:=hp;obtain ⟨hlen,aY⟩:=hp;cases i with
 | none =>
  cases b <;> (conv=>whnf) <;> refine .inr ⟨1,?_⟩ <;> (conv=>whnf) <;> exact ⟨_,rfl,.refl _⟩
 | some i =>
  obtain ⟨L,c⟩:=i;have hlen:L.length≤549755813888:=hlen;have aY:∀ v∈L,Q2.sz 262144 v:=aY;obtain ⟨n,hn⟩:∃ n,n=L.length:=⟨_,rfl⟩;obtain ⟨g,hg⟩:∃ g,g=aX L:=⟨_,rfl⟩;cases b with
  | false =>
   rw [show (ky 110 111).ae (some (L,c),false)=[.flat false n 6 g] from by rw [hn,hg]; rfl,show (ky 110 111).args (some (L,c),false)=[.slice (some ⟨0,0,none⟩) n c,.func (.func 110) #[] #[]] from by rw [hn]; rfl]
   rw [← hn] at hlen;conv=>whnf
   refine .inl ⟨fun mm tz hz=>∃ (j:Nat) (O:List Q2) (q:Nat) (F:Nat→List Value),bC (some (.slice (some ⟨0,0,none⟩) n c)::some (.func (.func 110) #[] #[])::aD 3 (some (dw 1 q)::aD 2 (some (.slice (some ⟨0,0,none⟩) n c)::some (.int .i64 n)::some (.int .i64 j)::aD 32 []))) tz∧hz=[some (.flat false n 6 g)]++zT 6 F q∧n - j=mm∧((j≤n∧q=O.length)∧O=qL L j∧(∀ r,r < q→F r=aX O r)),.inr ⟨[0],[0,1,5,8,9,10],?_⟩,?_⟩
   ·conv=>whnf
    intro _;conv=>whnf
    refine ⟨_,0,[],0,fun _=>[],(.aa (.aa (.sk 3 (.aa (.sk 2 (.aa (.aa (.aa (.sk 32 .nil rfl)))) rfl)) rfl))),rfl,rfl,?_⟩
    exact ⟨⟨Nat.zero_le _,rfl⟩,rfl,fun r hr=>absurd hr (Nat.not_lt_zero r)⟩
   rintro mm aT _ ⟨j,O,q,F,aw,rfl,rfl,⟨⟨hj,hq⟩,hO,hF⟩⟩
   obtain ⟨az,rfl⟩:∃ az:Nat→Value,aT=.slice (some ⟨0,0,none⟩) n c::.func (.func 110) #[] #[]::zs az 2 3 (dw 1 q::zs az 6 2 (.slice (some ⟨0,0,none⟩) n c::.int .i64 n::.int .i64 j::zs az 11 32 [])):=bL aw;clear aw;have jr:=Wu L j;rw [← hO,← hq] at jr;cases q with
   | zero =>
    obtain rfl:O=[]:=List.eq_nil_of_length_eq_zero hq.symm;conv=>whnf
    refine aI (fun h1=>?_) (fun h1=>?_)
    ·have h1:j < n:=by
      have:=of_decide_eq_true h1;omega
     have e7:IntKind.i64.wrap ((j:Int)+1)=((j+1:Nat):Int):=by rw [ay (by omega) (by omega)]; rfl
     obtain ⟨a,ca,ra,pa,sa,qa⟩:=gi (L:=L) (k:=dZ n j) (by rw [← hn]; exact jT h1) aY
     obtain ⟨b,cb,rb,pb,sb,qb⟩:=gi (L:=L) (k:=j) (by omega) aY
     obtain ⟨d,cd,rd,pd,sd,qd⟩:=gi (L:=L) (k:=aZ n j) (by rw [← hn]; exact cJ h1) aY
     rw [← hg] at ra rb rd;have kg:=zG h1 (by omega)
     have b6:=jm h1 (by omega)
     have ke:dZ n j < n:=jT h1;have b8:=cJ h1;obtain ⟨u,hu⟩:∃ u,u=dZ n j:=⟨_,rfl⟩;obtain ⟨w,hw⟩:∃ u,u=aZ n j:=⟨_,rfl⟩;rw [← hu] at kg ke ra;rw [← hw] at b6 b8 rd;conv=>whnf
     refine ⟨⟨by omega,by omega⟩,?_⟩
     simp only [toNat_cast,ar,Nat.zero_add];conv=>whnf
     refine ⟨by show j < n; omega,?_⟩
     conv=>whnf
     rw [rb];conv=>whnf
     refine .inl ⟨21,[[],[],[],[],[3],[2,3,4],[2,3,4,5],[],[7],[2,3,4,5,6,7,8],[1,2,3,4,5,6,7,8,9],[1,2,3,4,5,6,7,8,9,10],[],[],[],[14],[],[16],[14,15,16,17],[13,14,15,16,17,18],[13,14,15,16,17,18,19],[0,1,2,3,4,5,6,7,8,9,10,11,12,13,14,15,16,17,18,19,20]],by kernel_rfl,?_⟩
     conv=>whnf
     rw [show decide ((n:Int)≠0)=true from decide_eq_true (by omega)]
     conv=>whnf
     rw [kg];refine ⟨⟨by omega,by omega⟩,?_⟩
     simp only [toNat_cast,ar,Nat.zero_add];conv=>whnf
     refine ⟨by show u < n; omega,?_⟩
     conv=>whnf
     rw [ra];conv=>whnf
     rw [show decide ((n:Int)≠0)=true from decide_eq_true (by omega)]
     conv=>whnf
     rw [b6];refine ⟨⟨by omega,by omega⟩,?_⟩
     simp only [toNat_cast,ar,Nat.zero_add];conv=>whnf
     refine ⟨by show w < n; omega,?_⟩
     conv=>whnf
     rw [rd];conv=>whnf
     obtain ⟨z,hz,an⟩:=Nk hn h1 pa cb cd;rw [← hO] at an;refine ⟨(a,b,d),rfl,⟨PV.aP sa (by decide),PV.aP sb (by decide),PV.aP sd (by decide)⟩,?_⟩
     rw [show vm.val (a,b,d)=.bool z from hz]
     conv=>whnf
     cases z with
     | false =>
      conv=>whnf
      rw [e7];refine .inr ⟨[0],[0,1,5,8,9,10],?_⟩;conv=>whnf
      intro _;conv=>whnf
      refine ⟨_,?_,j+1,[],0,F,(.aa (.aa (.sk 3 (.aa (.sk 2 (.aa (.aa (.aa (.sk 32 .nil rfl)))) rfl)) rfl))),rfl,rfl,?_⟩
      ·omega
      ·exact ⟨⟨by omega,rfl⟩,by rw [an]; rfl,hF⟩
     | true =>
      conv=>whnf
      refine ⟨by show (0+1)*80≤140737488355328; decide,?_⟩
      conv=>whnf
      rw [e7];refine .inr ⟨[0,24],[0,1,5,8,9,10],?_⟩;conv=>whnf
      intro _;conv=>whnf
      refine ⟨_,?_,j+1,[aF L j],1,_,(.aa (.aa (.sk 3 (.aa (.sk 2 (.aa (.aa (.aa (.sk 32 .nil rfl)))) rfl)) rfl))),rfl,rfl,?_⟩
      ·omega
      ·exact ⟨⟨by omega,rfl⟩,by rw [an]; rfl,rY cb rfl⟩
    ·have h1:j=n:=by
      have:=of_decide_eq_false h1;omega
     subst h1;have hE:gC L=[]:=by rw [hO,hn]; exact (MD L).symm
     conv=>whnf
     rw [show (ky 110 111).new (some (L,c),false)=none from by show bW (gC L)=none; rw [hE]; rfl]
     exact ⟨.slice none 0 0,by rw [show (ky 110 111).val (some (L,c),false)=.slice none 0 0 from by show dw _ (gC L).length=_; rw [hE]; rfl]; rfl,.refl _⟩
   | succ q =>
    conv=>whnf
    refine aI (fun h1=>?_) (fun h1=>?_)
    ·have h1:j < n:=by
      have:=of_decide_eq_true h1;omega
     have e7:IntKind.i64.wrap ((j:Int)+1)=((j+1:Nat):Int):=by rw [ay (by omega) (by omega)]; rfl
     obtain ⟨a,ca,ra,pa,sa,qa⟩:=gi (L:=L) (k:=dZ n j) (by rw [← hn]; exact jT h1) aY
     obtain ⟨b,cb,rb,pb,sb,qb⟩:=gi (L:=L) (k:=j) (by omega) aY
     obtain ⟨d,cd,rd,pd,sd,qd⟩:=gi (L:=L) (k:=aZ n j) (by rw [← hn]; exact cJ h1) aY
     rw [← hg] at ra rb rd;have kg:=zG h1 (by omega)
     have b6:=jm h1 (by omega)
     have ke:dZ n j < n:=jT h1;have b8:=cJ h1;obtain ⟨u,hu⟩:∃ u,u=dZ n j:=⟨_,rfl⟩;obtain ⟨w,hw⟩:∃ u,u=aZ n j:=⟨_,rfl⟩;rw [← hu] at kg ke ra;rw [← hw] at b6 b8 rd;conv=>whnf
     refine ⟨⟨by omega,by omega⟩,?_⟩
     simp only [toNat_cast,ar,Nat.zero_add];conv=>whnf
     refine ⟨by show j < n; omega,?_⟩
     conv=>whnf
     rw [rb];conv=>whnf
     refine .inl ⟨21,[[],[],[],[],[3],[2,3,4],[2,3,4,5],[],[7],[2,3,4,5,6,7,8],[1,2,3,4,5,6,7,8,9],[1,2,3,4,5,6,7,8,9,10],[],[],[],[14],[],[16],[14,15,16,17],[13,14,15,16,17,18],[13,14,15,16,17,18,19],[0,1,2,3,4,5,6,7,8,9,10,11,12,13,14,15,16,17,18,19,20]],by kernel_rfl,?_⟩
     conv=>whnf
     rw [show decide ((n:Int)≠0)=true from decide_eq_true (by omega)]
     conv=>whnf
     rw [kg];refine ⟨⟨by omega,by omega⟩,?_⟩
     simp only [toNat_cast,ar,Nat.zero_add];conv=>whnf
     refine ⟨by show u < n; omega,?_⟩
     conv=>whnf
     rw [ra];conv=>whnf
     rw [show decide ((n:Int)≠0)=true from decide_eq_true (by omega)]
     conv=>whnf
     rw [b6];refine ⟨⟨by omega,by omega⟩,?_⟩
     simp only [toNat_cast,ar,Nat.zero_add];conv=>whnf
     refine ⟨by show w < n; omega,?_⟩
     conv=>whnf
     rw [rd];conv=>whnf
     obtain ⟨z,hz,an⟩:=Nk hn h1 pa cb cd;rw [← hO] at an;refine ⟨(a,b,d),rfl,⟨PV.aP sa (by decide),PV.aP sb (by decide),PV.aP sd (by decide)⟩,?_⟩
     rw [show vm.val (a,b,d)=.bool z from hz]
     conv=>whnf
     cases z with
     | false =>
      conv=>whnf
      rw [e7];refine .inr ⟨[0,1],[0,1,5,8,9,10],?_⟩;conv=>whnf
      intro _;conv=>whnf
      refine ⟨_,?_,j+1,O,q+1,F,(.aa (.aa (.sk 3 (.aa (.sk 2 (.aa (.aa (.aa (.sk 32 .nil rfl)))) rfl)) rfl))),rfl,rfl,?_⟩
      ·omega
      ·exact ⟨⟨by omega,hq⟩,by rw [an]; simp,hF⟩
     | true =>
      conv=>whnf
      refine ⟨⟨by show 1≤1; decide,rfl,by show (q+1+1)*80≤140737488355328; omega⟩,?_⟩
      conv=>whnf
      refine ⟨[0,1,8,9,10],?_⟩;conv=>whnf
      intro _;conv=>whnf
      rw [e7];refine .inr ⟨[0,1],[0,1,5,8,9,10],?_⟩;conv=>whnf
      intro _;conv=>whnf
      refine ⟨_,?_,j+1,O++[aF L j],q+1+1,_,(.aa (.aa (.sk 3 (.aa (.sk 2 (.aa (.aa (.aa (.sk 32 .nil rfl)))) rfl)) rfl))),rfl,rfl,?_⟩
      ·omega
      ·exact ⟨⟨by omega,by rw [List.length_append,← hq]; rfl⟩,by rw [an]; simp,oW hq hF cb rfl⟩
    ·have h1:j=n:=by
      have:=of_decide_eq_false h1;omega
     subst h1;have hE:gC L=O:=by rw [hO,hn]; exact (MD L).symm
     conv=>whnf
     rw [show (ky 110 111).new (some (L,c),false)=some (.flat true (q+1) 6 (aX O)) from by show bW (gC L)=_; rw [hE]; unfold bW; rw [← hq],show (ky 110 111).val (some (L,c),false)=.slice (some ⟨1,0,none⟩) (q+1) ao from by show dw _ (gC L).length=_; rw [hE,← hq]; rfl]
     refine ⟨1,?_⟩;conv=>whnf
     exact ⟨⟨rfl,aq.dz (fun h=>h) hF (fun r hr=>rfl)⟩,_,rfl,.refl _⟩
  | true =>
   rw [show (ky 110 111).ae (some (L,c),true)=[.flat false n 6 g] from by rw [hn,hg]; rfl,show (ky 110 111).args (some (L,c),true)=[.slice (some ⟨0,0,none⟩) n c,.func (.func 111) #[] #[]] from by rw [hn]; rfl]
   rw [← hn] at hlen;conv=>whnf
   refine .inl ⟨fun mm tz hz=>∃ (j:Nat) (O:List Q2) (q:Nat) (F:Nat→List Value),bC (some (.slice (some ⟨0,0,none⟩) n c)::some (.func (.func 111) #[] #[])::aD 3 (some (dw 1 q)::aD 2 (some (.slice (some ⟨0,0,none⟩) n c)::some (.int .i64 n)::some (.int .i64 j)::aD 32 []))) tz∧hz=[some (.flat false n 6 g)]++zT 6 F q∧n - j=mm∧((j≤n∧q=O.length)∧O=sR L j∧(∀ r,r < q→F r=aX O r)),.inr ⟨[0],[0,1,5,8,9,10],?_⟩,?_⟩
   ·conv=>whnf
    intro _;conv=>whnf
    refine ⟨_,0,[],0,fun _=>[],(.aa (.aa (.sk 3 (.aa (.sk 2 (.aa (.aa (.aa (.sk 32 .nil rfl)))) rfl)) rfl))),rfl,rfl,?_⟩
    exact ⟨⟨Nat.zero_le _,rfl⟩,rfl,fun r hr=>absurd hr (Nat.not_lt_zero r)⟩
   rintro mm aT _ ⟨j,O,q,F,aw,rfl,rfl,⟨⟨hj,hq⟩,hO,hF⟩⟩
   obtain ⟨az,rfl⟩:∃ az:Nat→Value,aT=.slice (some ⟨0,0,none⟩) n c::.func (.func 111) #[] #[]::zs az 2 3 (dw 1 q::zs az 6 2 (.slice (some ⟨0,0,none⟩) n c::.int .i64 n::.int .i64 j::zs az 11 32 [])):=bL aw;clear aw;have jr:=Wv L j;rw [← hO,← hq] at jr;cases q with
   | zero =>
    obtain rfl:O=[]:=List.eq_nil_of_length_eq_zero hq.symm;conv=>whnf
    refine aI (fun h1=>?_) (fun h1=>?_)
    ·have h1:j < n:=by
      have:=of_decide_eq_true h1;omega
     have e7:IntKind.i64.wrap ((j:Int)+1)=((j+1:Nat):Int):=by rw [ay (by omega) (by omega)]; rfl
     obtain ⟨a,ca,ra,pa,sa,qa⟩:=gi (L:=L) (k:=dZ n j) (by rw [← hn]; exact jT h1) aY
     obtain ⟨b,cb,rb,pb,sb,qb⟩:=gi (L:=L) (k:=j) (by omega) aY
     obtain ⟨d,cd,rd,pd,sd,qd⟩:=gi (L:=L) (k:=aZ n j) (by rw [← hn]; exact cJ h1) aY
     rw [← hg] at ra rb rd;have kg:=zG h1 (by omega)
     have b6:=jm h1 (by omega)
     have ke:dZ n j < n:=jT h1;have b8:=cJ h1;obtain ⟨u,hu⟩:∃ u,u=dZ n j:=⟨_,rfl⟩;obtain ⟨w,hw⟩:∃ u,u=aZ n j:=⟨_,rfl⟩;rw [← hu] at kg ke ra;rw [← hw] at b6 b8 rd;conv=>whnf
     refine ⟨⟨by omega,by omega⟩,?_⟩
     simp only [toNat_cast,ar,Nat.zero_add];conv=>whnf
     refine ⟨by show j < n; omega,?_⟩
     conv=>whnf
     rw [rb];conv=>whnf
     refine .inl ⟨21,[[],[],[],[],[3],[2,3,4],[2,3,4,5],[],[7],[2,3,4,5,6,7,8],[1,2,3,4,5,6,7,8,9],[1,2,3,4,5,6,7,8,9,10],[],[],[],[14],[],[16],[14,15,16,17],[13,14,15,16,17,18],[13,14,15,16,17,18,19],[0,1,2,3,4,5,6,7,8,9,10,11,12,13,14,15,16,17,18,19,20]],by kernel_rfl,?_⟩
     conv=>whnf
     rw [show decide ((n:Int)≠0)=true from decide_eq_true (by omega)]
     conv=>whnf
     rw [kg];refine ⟨⟨by omega,by omega⟩,?_⟩
     simp only [toNat_cast,ar,Nat.zero_add];conv=>whnf
     refine ⟨by show u < n; omega,?_⟩
     conv=>whnf
     rw [ra];conv=>whnf
     rw [show decide ((n:Int)≠0)=true from decide_eq_true (by omega)]
     conv=>whnf
     rw [b6];refine ⟨⟨by omega,by omega⟩,?_⟩
     simp only [toNat_cast,ar,Nat.zero_add];conv=>whnf
     refine ⟨by show w < n; omega,?_⟩
     conv=>whnf
     rw [rd];conv=>whnf
     obtain ⟨z,hz,an⟩:=Nl hn h1 pa cb cd;rw [← hO] at an;refine ⟨(a,b,d),rfl,⟨PV.aP sa (by decide),PV.aP sb (by decide),PV.aP sd (by decide)⟩,?_⟩
     rw [show vn.val (a,b,d)=.bool z from hz]
     conv=>whnf
     cases z with
     | false =>
      conv=>whnf
      rw [e7];refine .inr ⟨[0],[0,1,5,8,9,10],?_⟩;conv=>whnf
      intro _;conv=>whnf
      refine ⟨_,?_,j+1,[],0,F,(.aa (.aa (.sk 3 (.aa (.sk 2 (.aa (.aa (.aa (.sk 32 .nil rfl)))) rfl)) rfl))),rfl,rfl,?_⟩
      ·omega
      ·exact ⟨⟨by omega,rfl⟩,by rw [an]; rfl,hF⟩
     | true =>
      conv=>whnf
      refine ⟨by show (0+1)*80≤140737488355328; decide,?_⟩
      conv=>whnf
      rw [e7];refine .inr ⟨[0,24],[0,1,5,8,9,10],?_⟩;conv=>whnf
      intro _;conv=>whnf
      refine ⟨_,?_,j+1,[aF L j],1,_,(.aa (.aa (.sk 3 (.aa (.sk 2 (.aa (.aa (.aa (.sk 32 .nil rfl)))) rfl)) rfl))),rfl,rfl,?_⟩
      ·omega
      ·exact ⟨⟨by omega,rfl⟩,by rw [an]; rfl,rY cb rfl⟩
    ·have h1:j=n:=by
      have:=of_decide_eq_false h1;omega
     subst h1;have hE:js L=[]:=by rw [hO,hn]; exact (ME L).symm
     conv=>whnf
     rw [show (ky 110 111).new (some (L,c),true)=none from by show bW (js L)=none; rw [hE]; rfl]
     exact ⟨.slice none 0 0,by rw [show (ky 110 111).val (some (L,c),true)=.slice none 0 0 from by show dw _ (js L).length=_; rw [hE]; rfl]; rfl,.refl _⟩
   | succ q =>
    conv=>whnf
    refine aI (fun h1=>?_) (fun h1=>?_)
    ·have h1:j < n:=by
      have:=of_decide_eq_true h1;omega
     have e7:IntKind.i64.wrap ((j:Int)+1)=((j+1:Nat):Int):=by rw [ay (by omega) (by omega)]; rfl
     obtain ⟨a,ca,ra,pa,sa,qa⟩:=gi (L:=L) (k:=dZ n j) (by rw [← hn]; exact jT h1) aY
     obtain ⟨b,cb,rb,pb,sb,qb⟩:=gi (L:=L) (k:=j) (by omega) aY
     obtain ⟨d,cd,rd,pd,sd,qd⟩:=gi (L:=L) (k:=aZ n j) (by rw [← hn]; exact cJ h1) aY
     rw [← hg] at ra rb rd;have kg:=zG h1 (by omega)
     have b6:=jm h1 (by omega)
     have ke:dZ n j < n:=jT h1;have b8:=cJ h1;obtain ⟨u,hu⟩:∃ u,u=dZ n j:=⟨_,rfl⟩;obtain ⟨w,hw⟩:∃ u,u=aZ n j:=⟨_,rfl⟩;rw [← hu] at kg ke ra;rw [← hw] at b6 b8 rd;conv=>whnf
     refine ⟨⟨by omega,by omega⟩,?_⟩
     simp only [toNat_cast,ar,Nat.zero_add];conv=>whnf
     refine ⟨by show j < n; omega,?_⟩
     conv=>whnf
     rw [rb];conv=>whnf
     refine .inl ⟨21,[[],[],[],[],[3],[2,3,4],[2,3,4,5],[],[7],[2,3,4,5,6,7,8],[1,2,3,4,5,6,7,8,9],[1,2,3,4,5,6,7,8,9,10],[],[],[],[14],[],[16],[14,15,16,17],[13,14,15,16,17,18],[13,14,15,16,17,18,19],[0,1,2,3,4,5,6,7,8,9,10,11,12,13,14,15,16,17,18,19,20]],by kernel_rfl,?_⟩
     conv=>whnf
     rw [show decide ((n:Int)≠0)=true from decide_eq_true (by omega)]
     conv=>whnf
     rw [kg];refine ⟨⟨by omega,by omega⟩,?_⟩
     simp only [toNat_cast,ar,Nat.zero_add];conv=>whnf
     refine ⟨by show u < n; omega,?_⟩
     conv=>whnf
     rw [ra];conv=>whnf
     rw [show decide ((n:Int)≠0)=true from decide_eq_true (by omega)]
     conv=>whnf
     rw [b6];refine ⟨⟨by omega,by omega⟩,?_⟩
     simp only [toNat_cast,ar,Nat.zero_add];conv=>whnf
     refine ⟨by show w < n; omega,?_⟩
     conv=>whnf
     rw [rd];conv=>whnf
     obtain ⟨z,hz,an⟩:=Nl hn h1 pa cb cd;rw [← hO] at an;refine ⟨(a,b,d),rfl,⟨PV.aP sa (by decide),PV.aP sb (by decide),PV.aP sd (by decide)⟩,?_⟩
     rw [show vn.val (a,b,d)=.bool z from hz]
     conv=>whnf
     cases z with
     | false =>
      conv=>whnf
      rw [e7];refine .inr ⟨[0,1],[0,1,5,8,9,10],?_⟩;conv=>whnf
      intro _;conv=>whnf
      refine ⟨_,?_,j+1,O,q+1,F,(.aa (.aa (.sk 3 (.aa (.sk 2 (.aa (.aa (.aa (.sk 32 .nil rfl)))) rfl)) rfl))),rfl,rfl,?_⟩
      ·omega
      ·exact ⟨⟨by omega,hq⟩,by rw [an]; simp,hF⟩
     | true =>
      conv=>whnf
      refine ⟨⟨by show 1≤1; decide,rfl,by show (q+1+1)*80≤140737488355328; omega⟩,?_⟩
      conv=>whnf
      refine ⟨[0,1,8,9,10],?_⟩;conv=>whnf
      intro _;conv=>whnf
      rw [e7];refine .inr ⟨[0,1],[0,1,5,8,9,10],?_⟩;conv=>whnf
      intro _;conv=>whnf
      refine ⟨_,?_,j+1,O++[aF L j],q+1+1,_,(.aa (.aa (.sk 3 (.aa (.sk 2 (.aa (.aa (.aa (.sk 32 .nil rfl)))) rfl)) rfl))),rfl,rfl,?_⟩
      ·omega
      ·exact ⟨⟨by omega,by rw [List.length_append,← hq]; rfl⟩,by rw [an]; simp,oW hq hF cb rfl⟩
    ·have h1:j=n:=by
      have:=of_decide_eq_false h1;omega
     subst h1;have hE:js L=O:=by rw [hO,hn]; exact (ME L).symm
     conv=>whnf
     rw [show (ky 110 111).new (some (L,c),true)=some (.flat true (q+1) 6 (aX O)) from by show bW (js L)=_; rw [hE]; unfold bW; rw [← hq],show (ky 110 111).val (some (L,c),true)=.slice (some ⟨1,0,none⟩) (q+1) ao from by show dw _ (js L).length=_; rw [hE,← hq]; rfl]
     refine ⟨1,?_⟩;conv=>whnf
     exact ⟨⟨rfl,aq.dz (fun h=>h) hF (fun r hr=>rfl)⟩,_,rfl,.refl _⟩
open Go Go.Ae
def JU:Env:=En [(33,.p lh)]
theorem adh:EnvOk Tryz.prog JU:=bI ⟨zk,trivial⟩ trivial
theorem WW:gj Tryz.prog 145 (cC JU cO Tryz.f145):=by
 exact jh adh aL Tryz.func145 (enters_of Tryz.func145 (by kernel_rfl) rfl)
def JV:Env:=En [] [(145,cC JU cO Tryz.f145)] [] true
theorem adi:EnvOk Tryz.prog JV:=bI trivial ⟨WW,trivial⟩
theorem Uc:gj Tryz.prog 112 (cC JV cO Tryz.f112):=by
 exact jh adi aL Tryz.func112 (enters_of Tryz.func112 (by kernel_rfl) rfl)
abbrev jO:ax:=ky 110 111
def Ey2:Env:=En [(109,.q jO),(74,.p kv)] [(112,cC JV cO Tryz.f112)]
theorem adj:EnvOk Tryz.prog Ey2:=bI ⟨ZC,Oh,trivial⟩ ⟨Uc,trivial⟩
theorem Oj:dj Tryz.prog 58 dL:=by
 refine dC adj aL Tryz.func58 (enters_of Tryz.func58 (by kernel_rfl) rfl) ?_ ?_ ?_
 ·intro i B hb;cases i with
  | none=>simp [dL,QL.ae] at hb
  | some i=>simp [dL,QL.ae] at hb; rw [hb]; rfl
 ·intro i B hb;exact yK hb
 intro i hp;have hp:i.list.length≤549755813888∧∀ v∈i.list,Q2.sz 262144 v:=hp;obtain ⟨hlen,aY⟩:=hp;cases i with
 | none =>
  conv=>whnf
  refine ⟨(none,false),[],rfl,⟨Nat.zero_le _,fun v hv=>nomatch hv⟩,?_⟩
  rw [show jO.ae (none,false)=[] from rfl,show jO.val (none,false)=.slice none 0 0 from rfl,show jO.new (none,false)=none from rfl]
  conv=>whnf
  refine ⟨_,rfl,?_⟩;conv=>whnf
  refine ⟨(none,true),[],rfl,⟨Nat.zero_le _,fun v hv=>nomatch hv⟩,?_⟩
  rw [show jO.ae (none,true)=[] from rfl,show jO.val (none,true)=.slice none 0 0 from rfl,show jO.new (none,true)=none from rfl]
  conv=>whnf
  refine ⟨_,rfl,?_⟩;conv=>whnf
  exact ⟨_,rfl,.refl _⟩
 | some i =>
  obtain ⟨L,c⟩:=i;have hlen:L.length≤549755813888:=hlen;have aY:∀ v∈L,Q2.sz 262144 v:=aY;obtain ⟨n,hn⟩:∃ n,n=L.length:=⟨_,rfl⟩;obtain ⟨g,hg⟩:∃ g,g=aX L:=⟨_,rfl⟩;obtain ⟨D,hD⟩:∃ D,D=sQ false L:=⟨_,rfl⟩;obtain ⟨C,hC⟩:∃ C,C=sQ true D:=⟨_,rfl⟩;have hR:cV L=if C.length < 3 then [] else fc C:=by rw [U8,← hD,← hC]
  have JW:D.length≤n∧∀ v∈D,Q2.sz 262144 v:=⟨by rw [hD,hn]; exact (tM L).length_le,fun v hv=>aY v ((tM L).subset (by rw [hD] at hv; exact hv))⟩
  have DC:C.length≤n∧∀ v∈C,Q2.sz 262144 v:=⟨Nat.le_trans (by rw [hC]; exact (yj D).length_le) JW.1,fun v hv=>JW.2 v ((yj D).subset (by rw [hC] at hv; exact hv))⟩
  obtain ⟨cu,cL⟩:∃ c,c=ao:=⟨_,rfl⟩;obtain ⟨K,hK⟩:∃ K,K=db dL (some (L,c)):=⟨_,rfl⟩;have lu:∀ H:aA,cV L=[]→K (.slice none 0 0) H:=fun H h=>by
   rw [hK];unfold db;rw [show dL.new (some (L,c))=none from by show bW (cV L)=none; rw [h]; rfl,show dL.val (some (L,c))=.slice none 0 0 from by show dw _ (cV L).length=_; rw [h]; rfl]
   exact ⟨_,rfl,.refl _⟩
  rw [show dL.ae (some (L,c))=[.flat false n 6 g] from by rw [hn,hg]; rfl,show dL.args (some (L,c))=[.slice (some ⟨0,0,none⟩) n c] from by rw [hn]; rfl,← hK]
  rw [← hn] at hlen;conv=>whnf
  refine ⟨(some (L,c),false),[0],by rw [show jO.args (some (L,c),false)=[.slice (some ⟨0,0,none⟩) n c,.func (.func 110) #[] #[]] from by rw [hn]; rfl]; rfl,⟨by show L.length≤_; omega,aY⟩,?_⟩
  obtain ⟨d,hd⟩:∃ d,d=D.length:=⟨_,rfl⟩;rw [show jO.ae (some (L,c),false)=[.flat false n 6 g] from by rw [hn,hg]; rfl,show jO.val (some (L,c),false)=dw 1 d from by rw [hd,hD]; rfl,show jO.new (some (L,c),false)=bW D from by rw [hD]; rfl]
  cases d with
  | zero =>
   obtain rfl:D=[]:=List.eq_nil_of_length_eq_zero hd.symm;conv=>whnf
   refine ⟨aq.aO (fun h=>h) (fun r hr=>by rw [hg]; rfl),?_⟩
   conv=>whnf
   refine ⟨_,rfl,?_⟩;conv=>whnf
   refine ⟨(none,true),[],rfl,⟨Nat.zero_le _,fun v hv=>nomatch hv⟩,?_⟩
   rw [show jO.ae (none,true)=[] from rfl,show jO.val (none,true)=.slice none 0 0 from rfl,show jO.new (none,true)=none from rfl]
   conv=>whnf
   refine ⟨_,rfl,?_⟩;conv=>whnf
   exact lu _ (by rw [hR,hC]; rfl)
  | succ d =>
   obtain ⟨G,hG⟩:∃ G,G=aX D:=⟨_,rfl⟩;rw [show bW D=some (.flat true (d+1) 6 G) from by unfold bW; rw [← hd,hG]]
   conv=>whnf
   refine ⟨aq.aO (fun h=>h) (fun r hr=>by rw [hg]; rfl),?_⟩
   conv=>whnf
   refine ⟨_,rfl,?_⟩;conv=>whnf
   obtain ⟨e,he⟩:∃ d,d=C.length:=⟨_,rfl⟩;refine ⟨(some (D,ao),true),[1],by rw [show jO.args (some (D,ao),true)=[.slice (some ⟨0,0,none⟩) (d+1) ao,.func (.func 111) #[] #[]] from by rw [hd]; rfl]; rfl,⟨by show D.length≤_; omega,JW.2⟩,?_⟩
   rw [show jO.ae (some (D,ao),true)=[.flat false (d+1) 6 G] from by rw [hd,hG]; rfl,show jO.val (some (D,ao),true)=dw 1 e from by rw [he,hC]; rfl,show jO.new (some (D,ao),true)=bW C from by rw [hC]; rfl]
   cases e with
   | zero =>
    obtain rfl:C=[]:=List.eq_nil_of_length_eq_zero he.symm;conv=>whnf
    refine ⟨aq.aO (fun h=>by cases h) (fun r hr=>by rw [hG]; rfl),?_⟩
    conv=>whnf
    refine ⟨_,rfl,?_⟩;conv=>whnf
    exact lu _ (by rw [hR]; rfl)
   | succ e =>
    obtain ⟨E,hE⟩:∃ G,G=aX C:=⟨_,rfl⟩;rw [show bW C=some (.flat true (e+1) 6 E) from by unfold bW; rw [← he,hE]]
    conv=>whnf
    refine ⟨aq.aO (fun h=>by cases h) (fun r hr=>by rw [hG]; rfl),?_⟩
    conv=>whnf
    refine ⟨_,rfl,?_⟩;conv=>whnf
    by_cases h3:e+1 < 3
    ·rw [show decide (((e+1:Nat):Int) < 3)=true from decide_eq_true (by omega)]
     conv=>whnf
     exact lu _ (by rw [hR,if_pos (by omega)])
    rw [show decide (((e+1:Nat):Int) < 3)=false from decide_eq_false (by omega)]
    rw [if_neg (by omega)] at hR
    obtain ⟨N,hN⟩:∃ N,N=e+1:=⟨_,rfl⟩;rw [← hN] at he;rw [← hN];obtain ⟨M,hM⟩:∃ N,N=d+1:=⟨_,rfl⟩;rw [← hM,← cL];conv=>whnf
    refine .inl ⟨fun mm tz hz=>∃ (i:Nat) (m:Nat),bC (some (.slice (some ⟨2,0,none⟩) N cu)::aD 2 (some (.int .i64 m)::aD 9 (some (.slice (some ⟨2,0,none⟩) N cu)::some (.int .i64 N)::some (.int .i64 i)::aD 21 []))) tz∧hz=[some (.flat false n 6 g),some (.flat true M 6 G),some (.flat true N 6 E)]∧N - i=mm∧(i≤N∧m=jv C i),.inr ⟨[0,1,2],[0,3,13,14,15],?_⟩,?_⟩
    ·conv=>whnf
     intro _;conv=>whnf
     refine ⟨_,0,0,(.aa (.sk 2 (.aa (.sk 9 (.aa (.aa (.aa (.sk 21 .nil rfl)))) rfl)) rfl)),rfl,rfl,?_⟩;exact ⟨Nat.zero_le _,rfl⟩
    rintro mm aT _ ⟨i,m,aw,rfl,rfl,⟨hi,hm⟩⟩
    obtain ⟨az,rfl⟩:∃ az:Nat→Value,aT=.slice (some ⟨2,0,none⟩) N cu::zs az 1 2 (.int .i64 m::zs az 4 9 (.slice (some ⟨2,0,none⟩) N cu::.int .i64 N::.int .i64 i::zs az 16 21 [])):=bL aw;clear aw;have kN:m < N:=by rw [hm,he]; exact (ED C i (by omega)).1 (by omega)
    conv=>whnf
    refine aI (fun h1=>?_) (fun h1=>?_)
    ·have h1:i < N:=by
      have:=of_decide_eq_true h1;omega
     have e7:IntKind.i64.wrap ((i:Int)+1)=((i+1:Nat):Int):=by rw [ay (by omega) (by omega)]; rfl
     obtain ⟨p,cp,rp,pp,sp,qp⟩:=gi (L:=C) (k:=i) (by omega) DC.2
     obtain ⟨q,cq,rq,pq,sq,qq⟩:=gi (L:=C) (k:=m) (by omega) DC.2
     rw [← hE] at rp rq;conv=>whnf
     refine ⟨⟨by omega,by omega⟩,?_⟩
     simp only [toNat_cast,ar,Nat.zero_add];conv=>whnf
     refine ⟨by show i < N; omega,?_⟩
     conv=>whnf
     rw [rp];conv=>whnf
     refine .inl ⟨5,[[],[],[],[1,2],[1,2,3],[0,1,2,3,4],[0,1,2,3,4,5]],by kernel_rfl,?_⟩
     conv=>whnf
     refine ⟨⟨by omega,by omega⟩,?_⟩
     simp only [toNat_cast,ar,Nat.zero_add];conv=>whnf
     refine ⟨by show m < N; omega,?_⟩
     conv=>whnf
     rw [rq];conv=>whnf
     obtain ⟨z,ez,pz⟩:=cZ (dV p.p q.p);refine ⟨(p,q),rfl,⟨PV.aP sp (by decide),PV.aP sq (by decide)⟩,?_⟩
     rw [show kv.val (p,q)=.int .i64 z from ez]
     conv=>whnf
     rw [pp,pq] at pz;have jr:jv C (i+1)=if z < 0 then i else m:=by
      show (if dV (aF C i) (aF C (jv C i)) < 0 then i else jv C i)=_
      rw [pz,hm]
     refine aI (fun J=>?_) (fun J=>?_)
     ·have J:z < 0:=of_decide_eq_true J;conv=>whnf
      rw [e7];refine .inr ⟨[0,1,2],[0,3,13,14,15],?_⟩;conv=>whnf
      intro _;conv=>whnf
      refine ⟨_,?_,i+1,i,(.aa (.sk 2 (.aa (.sk 9 (.aa (.aa (.aa (.sk 21 .nil rfl)))) rfl)) rfl)),rfl,rfl,?_⟩
      ·omega
      ·exact ⟨by omega,by rw [jr,if_pos J]⟩
     ·have J:¬ z < 0:=of_decide_eq_false J;conv=>whnf
      rw [e7];refine .inr ⟨[0,1,2],[0,3,13,14,15],?_⟩;conv=>whnf
      intro _;conv=>whnf
      refine ⟨_,?_,i+1,m,(.aa (.sk 2 (.aa (.sk 9 (.aa (.aa (.aa (.sk 21 .nil rfl)))) rfl)) rfl)),rfl,rfl,?_⟩
      ·omega
      ·exact ⟨by omega,by rw [jr,if_neg J]⟩
    ·have h1:i=N:=by
      have:=of_decide_eq_false h1;omega
     subst h1;conv=>whnf
     refine .inl ⟨6,[[],[],[0,1],[],[],[3,4],[0,1,2,3,4,5],[0,1,2,3,4,5,6],[0,1,2,3,4,5,6,7]],by kernel_rfl,?_⟩
     conv=>whnf
     refine ⟨⟨by omega,by omega,by omega⟩,?_⟩
     rw [show Int.toNat (i:Int) - Int.toNat (m:Int)=i - m from rfl,show Int.toNat (m:Int)=m from rfl,ar,Nat.zero_add]
     conv=>whnf
     refine ⟨⟨by omega,by omega,by omega⟩,?_⟩
     conv=>whnf
     obtain ⟨a,ha⟩:∃ a,a=i - m:=⟨_,rfl⟩;obtain ⟨ca,hca⟩:∃ a,a=uA cu m:=⟨_,rfl⟩;obtain ⟨cb,hcb⟩:∃ a,a=uA cu (Int.toNat 0):=⟨_,rfl⟩;rw [← ha,← hca,← hcb,show dR 0 (Int.toNat 0)=0 from rfl,show Int.toNat (m:Int) - Int.toNat 0=m from rfl,Nat.zero_add]
     have w1:IntKind.i64.wrap (0+(a:Int))=(a:Int):=by rw [ay (by omega) (by omega)]; omega
     have w2:IntKind.i64.wrap ((a:Int)+(m:Int))=(i:Int):=by rw [ay (by omega) (by omega)]; omega
     refine .inr ⟨3,?_⟩;conv=>whnf
     refine ⟨by decide,?_⟩
     conv=>whnf
     rw [w1,show decide ((a:Int) < 0)=false from decide_eq_false (by omega)]
     conv=>whnf
     refine ⟨by decide,?_⟩
     conv=>whnf
     rw [w2,show decide ((i:Int) < 0)=false from decide_eq_false (by omega)]
     conv=>whnf
     have w3:IntKind.i64.wrap ((i:Int) - IntKind.i64.wrap (0 - ((0:Nat):Int)))=(i:Int):=by
      rw [show IntKind.i64.wrap (0 - ((0:Nat):Int))=0 from rfl,ay (by omega) (by omega)]; omega
     rw [w3,show decide ((i:Int) > 0)=true from decide_eq_true (by omega)]
     conv=>whnf
     refine ⟨⟨by omega,by omega,by omega⟩,?_⟩
     conv=>whnf
     refine ⟨⟨by omega,by show (i:Int)*((80:Nat):Int)≤_; omega⟩,?_⟩
     conv=>whnf
     refine ⟨⟨by omega,by omega,by omega⟩,?_⟩
     rw [show (0:Int).toNat=0 from rfl,show dR 0 0=0 from rfl]
     conv=>whnf
     refine .inr ⟨3,?_⟩;conv=>whnf
     refine ⟨by decide,?_⟩
     conv=>whnf
     refine ⟨by omega,?_⟩
     conv=>whnf
     rw [show Int.toNat (((0:Nat):Int)) - 0=0 from rfl,show (Src.fl a fun j=>E (dR (0+m) j)).m=a from rfl,Nat.zero_add]
     refine ⟨⟨by decide,⟨Nat.zero_le _,rfl⟩,by show (0+a)*80≤_; omega⟩,?_⟩
     conv=>whnf
     refine ⟨[25,26,27],?_⟩;conv=>whnf
     intro _;conv=>whnf
     refine ⟨by decide,?_⟩
     conv=>whnf
     refine ⟨by omega,?_⟩
     conv=>whnf
     rw [show (Src.fl m fun j=>E (dR 0 j)).m=m from rfl]
     refine ⟨⟨by decide,⟨Nat.le_refl _,rfl⟩,by show (0+a+m)*80≤_; omega⟩,?_⟩
     conv=>whnf
     refine ⟨[25,26,27],?_⟩;conv=>whnf
     intro _;conv=>whnf
     rw [show 0+a+m=i from by omega]
     have hl:(cV L).length=i:=by rw [hR,yi]; omega
     rw [hK];unfold db;rw [show dL.new (some (L,c))=some (.flat true i 6 (aX (cV L))) from XF hl (by omega),show dL.val (some (L,c))=.slice (some ⟨1,0,none⟩) i ao from (congrArg (dw 1) hl).trans (XG (by omega))]
     refine ⟨10,?_⟩;conv=>whnf
     refine ⟨⟨rfl,aq.dz (fun h=>h) (fun r hr=>?_) (fun r hr=>rfl)⟩,_,rfl,.refl _⟩
     rw [hR,UZ (L:=C) (fun r hr=>by rw [hE]) (by omega) (by omega) r (by omega),hm,he]
     rfl
open Go Go.Ae
def JX:Env:=En [(70,.p qe),(34,.p dT),(38,.p eU),(71,.p lT),(39,.p nL)] [(64,cC mr cO Tryz.f64)] [(118,wX)]
theorem adk:EnvOk Tryz.prog JX:=bI ⟨MN,Gf,wW,Oi,abQ,trivial⟩ ⟨yQ,trivial⟩
theorem abU:iD Tryz.prog JX:=x6 ⟨yB,trivial⟩
def Qm:Nat→FT→Nu→FT:=fun l G nu=>cC { JX with ys:=[(l,G)],nu:=nu } cO Tryz.f114
theorem ZD:zM Tryz.prog 114 Qm:=by
 exact O4 adk aL Tryz.func114 (enters_of Tryz.func114 (by kernel_rfl) rfl) (hI:=abU)
def D7:Env:=En [] [] [(114,Qm)]
theorem adl:EnvOk Tryz.prog D7:=bI trivial trivial
theorem abV:iD Tryz.prog D7:=x6 ⟨ZD,trivial⟩
theorem ZF:gj Tryz.prog 113 (cC D7 cO Tryz.f113):=by
 exact jh adl aL Tryz.func113 (enters_of Tryz.func113 (by kernel_rfl) rfl) (hI:=abV)
def Ez3:Env:=En [] [(113,cC D7 cO Tryz.f113)]
theorem adm:EnvOk Tryz.prog Ez3:=bI trivial ⟨ZF,trivial⟩
abbrev gw:ax:=ID 114
theorem OT:dj Tryz.prog 59 gw:=by
 refine dC adm aL Tryz.func59 (enters_of Tryz.func59 (by kernel_rfl) rfl) ?_ ?_ ?_
 ·intro ⟨i,_⟩ B hb;cases i with
  | none=>simp [gw,ID,QL.ae] at hb; rcases hb with rfl | rfl | rfl <;> rfl
  | some i=>simp [gw,ID,QL.ae] at hb; rcases hb with rfl | rfl | rfl | rfl <;> rfl
 ·intro i B hb;exact yK hb
 intro ⟨i,a,b⟩ hp;have hp:i.list.length≤1073741824∧(∀ v∈i.list,Q2.sz 2048 v)∧a.sz 2048∧b.sz 2048:=hp;obtain ⟨hlen,aY,sa,sb⟩:=hp;have qa:=PV.cM sa (by decide)
 have qb:=PV.cM sb (by decide)
 cases i with
 | none =>
  conv=>whnf
  intro yl nu fn tm df;conv=>whnf
  intro JY nu2 Rp Rq Rr;conv=>whnf
  refine .inr ⟨1,?_⟩;conv=>whnf
  exact ⟨_,rfl,.refl _⟩
 | some i =>
  obtain ⟨L,c⟩:=i;have hlen:L.length≤1073741824:=hlen;have aY:∀ v∈L,Q2.sz 2048 v:=aY;obtain ⟨n,hn⟩:∃ n,n=L.length:=⟨_,rfl⟩;obtain ⟨g,hg⟩:∃ g,g=aX L:=⟨_,rfl⟩;obtain ⟨K,hK⟩:∃ K,K=db gw (some (L,c),(a,b)):=⟨_,rfl⟩;rw [show gw.ae (some (L,c),(a,b))=[.flat false n 6 g,.aR false 1 [[.slice (some ⟨0,0,none⟩) n c]],.aR false 6 [a.cells],.aR false 6 [b.cells]] from by rw [hn,hg]; rfl,show gw.args (some (L,c),(a,b))=[.func (.func 114) #[] #[.pointer (some ⟨1,0,none⟩),.pointer (some ⟨2,0,none⟩),.pointer (some ⟨3,0,none⟩)]] from rfl,← hK]
  rw [← hn] at hlen;conv=>whnf
  intro yl nu fn tm df;conv=>whnf
  intro JY nu2 Rp Rq Rr;conv=>whnf
  refine .inl ⟨fun mm tz hz=>∃ (j:Nat) (O:List Q2) (q:Nat) (F:Nat→List Value),bC (some (.func (.yield JY) #[] #[])::some (.pointer (some ⟨7,0,none⟩))::aD 3 (some (.slice (some ⟨0,0,none⟩) n c)::some (.int .i64 n)::some (.int .i64 j)::aD 17 [])) tz∧hz=[some (.flat false n 6 g),some (.aR false 1 [[.slice (some ⟨0,0,none⟩) n c]]),some (.aR false 6 [a.cells]),some (.aR false 6 [b.cells]),some (.aR true 1 [[dw 9 q]]),some (.cB (sY Tryz.f113 fn tm df)),some (.aR true 1 [[.func (.yield yl) #[] #[]]]),some (.aR true 1 [[.slice (some ⟨0,0,none⟩) n c]]),some (.cB (sY Tryz.f114 Rp Rq Rr))]++zT 6 F q∧n - j=mm∧((j≤n∧q=O.length)∧O=((bf L).take j).flatMap (nM (c8 a.p b.p))∧∀ r,r < q→F r=aX O r),.inr ⟨[0,1,2,3,4,5,6,7,8],[0,1,5,6,7],?_⟩,?_⟩
  ·conv=>whnf
   intro _;conv=>whnf
   refine ⟨_,0,[],0,fun _=>[],(.aa (.aa (.sk 3 (.aa (.aa (.aa (.sk 17 .nil rfl)))) rfl))),rfl,rfl,?_⟩
   exact ⟨⟨Nat.zero_le _,rfl⟩,rfl,fun r hr=>absurd hr (Nat.not_lt_zero r)⟩
  rintro mm aT _ ⟨j,O,q,F,aw,rfl,rfl,⟨⟨hj,hq⟩,hO,hF⟩⟩
  obtain ⟨az,rfl⟩:∃ az:Nat→Value,aT=.func (.yield JY) #[] #[]::.pointer (some ⟨7,0,none⟩)::zs az 2 3 (.slice (some ⟨0,0,none⟩) n c::.int .i64 n::.int .i64 j::zs az 8 17 []):=bL aw;clear aw;have jr:=XH (c8 a.p b.p) L j;rw [← hO,← hq] at jr;cases q with
  | zero =>
   obtain rfl:O=[]:=List.eq_nil_of_length_eq_zero hq.symm;conv=>whnf
   refine aI (fun h7=>?_) (fun h7=>?_)
   ·have h7:j < n:=by
     have:=of_decide_eq_true h7;omega
    have e8:IntKind.i64.wrap ((j:Int)+1)=((j+1:Nat):Int):=by rw [ay (by omega) (by omega)]; rfl
    obtain ⟨u,cu,ru,pu,su,qu⟩:=gi (L:=L) (k:=j) (by omega) aY
    obtain ⟨v,cv,rv,pv,sv,qv⟩:=gi (L:=L) (k:=aZ n j) (by rw [hn]; exact cJ (by omega)) aY
    have b6:=jm h7 (by omega)
    have b8:=cJ h7;have eH:(bf L)[j]?=some (u.p,v.p):=by rw [pu,pv]; rw [hn] at b8 ⊢; exact oV (gN (by omega)) (gN b8)
    rw [← pu] at cu;obtain ⟨k,hk⟩:∃ u,u=aZ n j:=⟨_,rfl⟩;rw [← hk] at b6 b8 rv;rw [← hg] at ru rv;conv=>whnf
    refine ⟨⟨by omega,by omega⟩,?_⟩
    simp only [toNat_cast,ar,Nat.zero_add];conv=>whnf
    refine ⟨by show j < n; omega,?_⟩
    conv=>whnf
    rw [ru];conv=>whnf
    refine .inl ⟨10,[[],[],[],[],[3],[],[5],[3,4,5,6],[2,3,4,5,6,7],[2,3,4,5,6,7,8],[0,1,2,3,4,5,6,7,8,9],[0,1,2,3,4,5,6,7,8,9,10]],by kernel_rfl,?_⟩
    conv=>whnf
    rw [show decide ((n:Int)≠0)=true from decide_eq_true (by omega)]
    conv=>whnf
    rw [b6];refine ⟨⟨by omega,by omega⟩,?_⟩
    simp only [toNat_cast,ar,Nat.zero_add];conv=>whnf
    refine ⟨by show k < n; omega,?_⟩
    conv=>whnf
    rw [rv];conv=>whnf
    refine ⟨rfl,?_⟩;conv=>whnf
    refine ⟨rfl,?_⟩;conv=>whnf
    refine ⟨rfl,?_⟩;conv=>whnf
    refine .inl ⟨10,[[],[],[],[0,1,2],[],[],[],[0,1,2,3,4,5,6],[],[],[0,1,2,3,4,5,6,7,8,9],[0,1,2,3,4,5,6,7,8,9,10]],by kernel_rfl,?_⟩
    conv=>whnf
    obtain ⟨x,ex,px,sx,qx⟩:=di (xD qa qb qu);refine ⟨(a,b,u),rfl,⟨PV.aP sa (by decide),PV.aP sb (by decide),PV.aP su (by decide)⟩,?_⟩
    rw [show qe.val (a,b,u)=x.v from ex]
    conv=>whnf
    obtain ⟨y,ey,py,sy,qy⟩:=di (xD qa qb qv);refine ⟨(a,b,v),rfl,⟨PV.aP sa (by decide),PV.aP sb (by decide),PV.aP sv (by decide)⟩,?_⟩
    rw [show qe.val (a,b,v)=y.v from ey]
    conv=>whnf
    obtain ⟨z,ez,pz⟩:=cZ (aW x.q 0);refine ⟨x,rfl,RV.bo sx (by decide),?_⟩
    rw [show dT.val x=.int .i64 z from ez]
    conv=>whnf
    have hz:=ng x.q 0;rw [← pz] at hz;have an:=MF (w:=cA (atR u.p v.p (x.q / (x.q - y.q)))) eH hO (px.trans (xi _ _ _).symm) (py.trans (xi _ _ _).symm) (gF _);rw [← pz] at an;by_cases h8:z ≥ 0
    ·rw [show decide (z ≥ 0)=true from decide_eq_true h8]
     rw [if_pos h8] at an;conv=>whnf
     refine ⟨rfl,?_⟩;conv=>whnf
     refine ⟨rfl,?_⟩;conv=>whnf
     refine ⟨rfl,?_⟩;conv=>whnf
     refine ⟨by decide,?_⟩
     conv=>whnf
     refine ⟨rfl,?_⟩;conv=>whnf
     refine .inl ⟨3,[[],[0],[],[0,1,2],[0,1,2,3],[0,1,2,3,4]],by kernel_rfl,?_⟩
     conv=>whnf
     obtain ⟨z3,lF,lG⟩:=cZ (aW x.q 0);refine ⟨x,rfl,RV.bo sx (by decide),?_⟩
     rw [show dT.val x=.int .i64 z3 from lF]
     conv=>whnf
     obtain ⟨z2,lH,g8⟩:=cZ (aW y.q 0);refine ⟨y,rfl,RV.bo sy (by decide),?_⟩
     rw [show dT.val y=.int .i64 z2 from lH]
     conv=>whnf
     have gI:=ng y.q 0;rw [← g8] at gI;obtain rfl:z3=z:=lG.trans pz.symm;rw [show IntKind.i64.wrap (z3*z2)=z3*z2 from by rcases hz with rfl | rfl | rfl <;> rcases gI with rfl | rfl | rfl <;> rfl]
     rw [← g8] at an;by_cases h9:z3*z2 < 0
     ·rw [show decide (z3*z2 < 0)=true from decide_eq_true h9]
      rw [if_pos h9] at an;conv=>whnf
      refine .inr (.inr (.inl ⟨9,1,[[],[],[],[1,2],[0,1,2,3],[0,1,2,3,4],[0,1,2,3,4,5],[0,1,2,3,4,5],[],[0,1,2,3,4,5,6,8],[0,1,2,3,4,5,6,7,8,9]],[7],by kernel_rfl,?_⟩))
      conv=>whnf
      obtain ⟨d2,gJ,lI,lJ,lK⟩:=di (QB.sub qx qy);refine ⟨(x,y),rfl,⟨RV.bo sx (by decide),RV.bo sy (by decide)⟩,?_⟩
      rw [show eU.val (x,y)=d2.v from gJ]
      conv=>whnf
      obtain ⟨t,et,pt,st,qt⟩:=di (QB.div qx lK (by decide))
      obtain ⟨e,ee,pe⟩:=cZ (if d2.q=0 then 10 else 0)
      refine ⟨(x,d2),rfl,⟨RV.bo sx (by decide),RV.bo lJ (by decide)⟩,?_⟩
      rw [show lT.val (x,d2)=.tuple ⟨[t.v,.int .i64 e]⟩ from by rw [← et,← ee]; rfl]
      conv=>whnf
      refine .inl ⟨5,[[],[],[],[],[1,2,3],[0,1,2,3,4],[0,1,2,3,4,5]],by kernel_rfl,?_⟩
      conv=>whnf
      obtain ⟨w,ew,pw,sw,qw⟩:=lV (qI qu qv qt);refine ⟨((u,v),t),rfl,⟨⟨PV.aP su (by decide),PV.aP sv (by decide)⟩,RV.aP st (by decide)⟩,?_⟩
      rw [show nL.val ((u,v),t)=w.v from ew]
      conv=>whnf
      have cw:=(PV.iF ew).symm;rw [← pw] at cw;rw [show (cA (atR u.p v.p (x.q / (x.q - y.q)))).p=w.p from by rw [gF,pw,pt,lI]] at an
      refine ⟨rfl,?_⟩;conv=>whnf
      refine ⟨rfl,?_⟩;conv=>whnf
      refine ⟨rfl,?_⟩;conv=>whnf
      refine ⟨⟨rfl,by show (0+1+1)*80≤140737488355328; decide⟩,?_⟩
      conv=>whnf
      refine ⟨rfl,?_⟩;conv=>whnf
      refine ⟨rfl,?_⟩;conv=>whnf
      rw [e8];refine .inr ⟨[0,1,2,3,4,5,6,7,8,54],[0,1,5,6,7],?_⟩;conv=>whnf
      intro _;conv=>whnf
      refine ⟨_,?_,j+1,[u.p]++[w.p],0+1+1,_,(.aa (.aa (.sk 3 (.aa (.aa (.aa (.sk 17 .nil rfl)))) rfl))),rfl,rfl,?_⟩
      ·omega
      ·exact ⟨⟨by omega,rfl⟩,by rw [an]; rfl,oW (O:=[u.p]) rfl (rY cu rfl) cw rfl⟩
     ·rw [show decide (z3*z2 < 0)=false from decide_eq_false h9]
      rw [if_neg h9] at an;conv=>whnf
      refine ⟨rfl,?_⟩;conv=>whnf
      rw [e8];refine .inr ⟨[0,1,2,3,4,5,6,7,8,34],[0,1,5,6,7],?_⟩;conv=>whnf
      intro _;conv=>whnf
      refine ⟨_,?_,j+1,[u.p],0+1,_,(.aa (.aa (.sk 3 (.aa (.aa (.aa (.sk 17 .nil rfl)))) rfl))),rfl,rfl,?_⟩
      ·omega
      ·exact ⟨⟨by omega,rfl⟩,by rw [an]; rfl,rY cu rfl⟩
    ·rw [show decide (z ≥ 0)=false from decide_eq_false h8]
     rw [if_neg h8] at an;conv=>whnf
     refine .inl ⟨3,[[],[0],[],[0,1,2],[0,1,2,3],[0,1,2,3,4]],by kernel_rfl,?_⟩
     conv=>whnf
     obtain ⟨z3,lF,lG⟩:=cZ (aW x.q 0);refine ⟨x,rfl,RV.bo sx (by decide),?_⟩
     rw [show dT.val x=.int .i64 z3 from lF]
     conv=>whnf
     obtain ⟨z2,lH,g8⟩:=cZ (aW y.q 0);refine ⟨y,rfl,RV.bo sy (by decide),?_⟩
     rw [show dT.val y=.int .i64 z2 from lH]
     conv=>whnf
     have gI:=ng y.q 0;rw [← g8] at gI;obtain rfl:z3=z:=lG.trans pz.symm;rw [show IntKind.i64.wrap (z3*z2)=z3*z2 from by rcases hz with rfl | rfl | rfl <;> rcases gI with rfl | rfl | rfl <;> rfl]
     rw [← g8] at an;by_cases h9:z3*z2 < 0
     ·rw [show decide (z3*z2 < 0)=true from decide_eq_true h9]
      rw [if_pos h9] at an;conv=>whnf
      refine .inr (.inr (.inl ⟨9,1,[[],[],[],[1,2],[0,1,2,3],[0,1,2,3,4],[0,1,2,3,4,5],[0,1,2,3,4,5],[],[0,1,2,3,4,5,6,8],[0,1,2,3,4,5,6,7,8,9]],[7],by kernel_rfl,?_⟩))
      conv=>whnf
      obtain ⟨d2,gJ,lI,lJ,lK⟩:=di (QB.sub qx qy);refine ⟨(x,y),rfl,⟨RV.bo sx (by decide),RV.bo sy (by decide)⟩,?_⟩
      rw [show eU.val (x,y)=d2.v from gJ]
      conv=>whnf
      obtain ⟨t,et,pt,st,qt⟩:=di (QB.div qx lK (by decide))
      obtain ⟨e,ee,pe⟩:=cZ (if d2.q=0 then 10 else 0)
      refine ⟨(x,d2),rfl,⟨RV.bo sx (by decide),RV.bo lJ (by decide)⟩,?_⟩
      rw [show lT.val (x,d2)=.tuple ⟨[t.v,.int .i64 e]⟩ from by rw [← et,← ee]; rfl]
      conv=>whnf
      refine .inl ⟨5,[[],[],[],[],[1,2,3],[0,1,2,3,4],[0,1,2,3,4,5]],by kernel_rfl,?_⟩
      conv=>whnf
      obtain ⟨w,ew,pw,sw,qw⟩:=lV (qI qu qv qt);refine ⟨((u,v),t),rfl,⟨⟨PV.aP su (by decide),PV.aP sv (by decide)⟩,RV.aP st (by decide)⟩,?_⟩
      rw [show nL.val ((u,v),t)=w.v from ew]
      conv=>whnf
      have cw:=(PV.iF ew).symm;rw [← pw] at cw;rw [show (cA (atR u.p v.p (x.q / (x.q - y.q)))).p=w.p from by rw [gF,pw,pt,lI]] at an
      refine ⟨rfl,?_⟩;conv=>whnf
      refine ⟨rfl,?_⟩;conv=>whnf
      refine ⟨rfl,?_⟩;conv=>whnf
      refine ⟨by decide,?_⟩
      conv=>whnf
      refine ⟨rfl,?_⟩;conv=>whnf
      refine ⟨rfl,?_⟩;conv=>whnf
      rw [e8];refine .inr ⟨[0,1,2,3,4,5,6,7,8,51],[0,1,5,6,7],?_⟩;conv=>whnf
      intro _;conv=>whnf
      refine ⟨_,?_,j+1,[w.p],0+1,_,(.aa (.aa (.sk 3 (.aa (.aa (.aa (.sk 17 .nil rfl)))) rfl))),rfl,rfl,?_⟩
      ·omega
      ·exact ⟨⟨by omega,rfl⟩,by rw [an]; rfl,rY cw rfl⟩
     ·rw [show decide (z3*z2 < 0)=false from decide_eq_false h9]
      rw [if_neg h9] at an;conv=>whnf
      refine ⟨rfl,?_⟩;conv=>whnf
      rw [e8];refine .inr ⟨[0,1,2,3,4,5,6,7,8],[0,1,5,6,7],?_⟩;conv=>whnf
      intro _;conv=>whnf
      refine ⟨_,?_,j+1,[],0,fun _=>[],(.aa (.aa (.sk 3 (.aa (.aa (.aa (.sk 17 .nil rfl)))) rfl))),rfl,rfl,?_⟩
      ·omega
      ·exact ⟨⟨by omega,rfl⟩,by rw [an]; rfl,fun r hr=>absurd hr (Nat.not_lt_zero r)⟩
   ·have h7:j=n:=by
     have:=of_decide_eq_false h7;omega
    subst h7;have q8:dg (c8 a.p b.p) L=[]:=by rw [hO,hn]; exact (Nm _ L).symm
    conv=>whnf
    rw [hK];unfold db;rw [show gw.new (some (L,c),(a,b))=none from by show bW (dg (c8 a.p b.p) L)=none; rw [q8]; rfl,show gw.val (some (L,c),(a,b))=.slice none 0 0 from by show dw _ (dg (c8 a.p b.p) L).length=_; rw [q8]; rfl]
    exact ⟨_,rfl,.refl _⟩
  | succ q =>
   conv=>whnf
   refine aI (fun h7=>?_) (fun h7=>?_)
   ·have h7:j < n:=by
     have:=of_decide_eq_true h7;omega
    have e8:IntKind.i64.wrap ((j:Int)+1)=((j+1:Nat):Int):=by rw [ay (by omega) (by omega)]; rfl
    obtain ⟨u,cu,ru,pu,su,qu⟩:=gi (L:=L) (k:=j) (by omega) aY
    obtain ⟨v,cv,rv,pv,sv,qv⟩:=gi (L:=L) (k:=aZ n j) (by rw [hn]; exact cJ (by omega)) aY
    have b6:=jm h7 (by omega)
    have b8:=cJ h7;have eH:(bf L)[j]?=some (u.p,v.p):=by rw [pu,pv]; rw [hn] at b8 ⊢; exact oV (gN (by omega)) (gN b8)
    rw [← pu] at cu;obtain ⟨k,hk⟩:∃ u,u=aZ n j:=⟨_,rfl⟩;rw [← hk] at b6 b8 rv;rw [← hg] at ru rv;conv=>whnf
    refine ⟨⟨by omega,by omega⟩,?_⟩
    simp only [toNat_cast,ar,Nat.zero_add];conv=>whnf
    refine ⟨by show j < n; omega,?_⟩
    conv=>whnf
    rw [ru];conv=>whnf
    refine .inl ⟨10,[[],[],[],[],[3],[],[5],[3,4,5,6],[2,3,4,5,6,7],[2,3,4,5,6,7,8],[0,1,2,3,4,5,6,7,8,9],[0,1,2,3,4,5,6,7,8,9,10]],by kernel_rfl,?_⟩
    conv=>whnf
    rw [show decide ((n:Int)≠0)=true from decide_eq_true (by omega)]
    conv=>whnf
    rw [b6];refine ⟨⟨by omega,by omega⟩,?_⟩
    simp only [toNat_cast,ar,Nat.zero_add];conv=>whnf
    refine ⟨by show k < n; omega,?_⟩
    conv=>whnf
    rw [rv];conv=>whnf
    refine ⟨rfl,?_⟩;conv=>whnf
    refine ⟨rfl,?_⟩;conv=>whnf
    refine ⟨rfl,?_⟩;conv=>whnf
    refine .inl ⟨10,[[],[],[],[0,1,2],[],[],[],[0,1,2,3,4,5,6],[],[],[0,1,2,3,4,5,6,7,8,9],[0,1,2,3,4,5,6,7,8,9,10]],by kernel_rfl,?_⟩
    conv=>whnf
    obtain ⟨x,ex,px,sx,qx⟩:=di (xD qa qb qu);refine ⟨(a,b,u),rfl,⟨PV.aP sa (by decide),PV.aP sb (by decide),PV.aP su (by decide)⟩,?_⟩
    rw [show qe.val (a,b,u)=x.v from ex]
    conv=>whnf
    obtain ⟨y,ey,py,sy,qy⟩:=di (xD qa qb qv);refine ⟨(a,b,v),rfl,⟨PV.aP sa (by decide),PV.aP sb (by decide),PV.aP sv (by decide)⟩,?_⟩
    rw [show qe.val (a,b,v)=y.v from ey]
    conv=>whnf
    obtain ⟨z,ez,pz⟩:=cZ (aW x.q 0);refine ⟨x,rfl,RV.bo sx (by decide),?_⟩
    rw [show dT.val x=.int .i64 z from ez]
    conv=>whnf
    have hz:=ng x.q 0;rw [← pz] at hz;have an:=MF (w:=cA (atR u.p v.p (x.q / (x.q - y.q)))) eH hO (px.trans (xi _ _ _).symm) (py.trans (xi _ _ _).symm) (gF _);rw [← pz] at an;by_cases h8:z ≥ 0
    ·rw [show decide (z ≥ 0)=true from decide_eq_true h8]
     rw [if_pos h8] at an;conv=>whnf
     refine ⟨rfl,?_⟩;conv=>whnf
     refine ⟨rfl,?_⟩;conv=>whnf
     refine ⟨rfl,?_⟩;conv=>whnf
     refine ⟨⟨rfl,by show (q+1+1)*80≤140737488355328; omega⟩,?_⟩
     conv=>whnf
     refine ⟨rfl,?_⟩;conv=>whnf
     refine .inl ⟨3,[[],[0],[],[0,1,2],[0,1,2,3],[0,1,2,3,4]],by kernel_rfl,?_⟩
     conv=>whnf
     obtain ⟨z3,lF,lG⟩:=cZ (aW x.q 0);refine ⟨x,rfl,RV.bo sx (by decide),?_⟩
     rw [show dT.val x=.int .i64 z3 from lF]
     conv=>whnf
     obtain ⟨z2,lH,g8⟩:=cZ (aW y.q 0);refine ⟨y,rfl,RV.bo sy (by decide),?_⟩
     rw [show dT.val y=.int .i64 z2 from lH]
     conv=>whnf
     have gI:=ng y.q 0;rw [← g8] at gI;obtain rfl:z3=z:=lG.trans pz.symm;rw [show IntKind.i64.wrap (z3*z2)=z3*z2 from by rcases hz with rfl | rfl | rfl <;> rcases gI with rfl | rfl | rfl <;> rfl]
     rw [← g8] at an;by_cases h9:z3*z2 < 0
     ·rw [show decide (z3*z2 < 0)=true from decide_eq_true h9]
      rw [if_pos h9] at an;conv=>whnf
      refine .inr (.inr (.inl ⟨9,1,[[],[],[],[1,2],[0,1,2,3],[0,1,2,3,4],[0,1,2,3,4,5],[0,1,2,3,4,5],[],[0,1,2,3,4,5,6,8],[0,1,2,3,4,5,6,7,8,9]],[7],by kernel_rfl,?_⟩))
      conv=>whnf
      obtain ⟨d2,gJ,lI,lJ,lK⟩:=di (QB.sub qx qy);refine ⟨(x,y),rfl,⟨RV.bo sx (by decide),RV.bo sy (by decide)⟩,?_⟩
      rw [show eU.val (x,y)=d2.v from gJ]
      conv=>whnf
      obtain ⟨t,et,pt,st,qt⟩:=di (QB.div qx lK (by decide))
      obtain ⟨e,ee,pe⟩:=cZ (if d2.q=0 then 10 else 0)
      refine ⟨(x,d2),rfl,⟨RV.bo sx (by decide),RV.bo lJ (by decide)⟩,?_⟩
      rw [show lT.val (x,d2)=.tuple ⟨[t.v,.int .i64 e]⟩ from by rw [← et,← ee]; rfl]
      conv=>whnf
      refine .inl ⟨5,[[],[],[],[],[1,2,3],[0,1,2,3,4],[0,1,2,3,4,5]],by kernel_rfl,?_⟩
      conv=>whnf
      obtain ⟨w,ew,pw,sw,qw⟩:=lV (qI qu qv qt);refine ⟨((u,v),t),rfl,⟨⟨PV.aP su (by decide),PV.aP sv (by decide)⟩,RV.aP st (by decide)⟩,?_⟩
      rw [show nL.val ((u,v),t)=w.v from ew]
      conv=>whnf
      have cw:=(PV.iF ew).symm;rw [← pw] at cw;rw [show (cA (atR u.p v.p (x.q / (x.q - y.q)))).p=w.p from by rw [gF,pw,pt,lI]] at an
      refine ⟨rfl,?_⟩;conv=>whnf
      refine ⟨rfl,?_⟩;conv=>whnf
      refine ⟨rfl,?_⟩;conv=>whnf
      refine ⟨⟨rfl,by show (q+1+1+1)*80≤140737488355328; omega⟩,?_⟩
      conv=>whnf
      refine ⟨rfl,?_⟩;conv=>whnf
      refine ⟨rfl,?_⟩;conv=>whnf
      rw [e8];refine .inr ⟨[0,1,2,3,4,5,6,7,8,55],[0,1,5,6,7],?_⟩;conv=>whnf
      intro _;conv=>whnf
      refine ⟨_,?_,j+1,(O++[u.p])++[w.p],q+1+1+1,_,(.aa (.aa (.sk 3 (.aa (.aa (.aa (.sk 17 .nil rfl)))) rfl))),rfl,rfl,?_⟩
      ·omega
      ·exact ⟨⟨by omega,by rw [List.length_append,List.length_append,← hq]; rfl⟩,by rw [an]; simp,oW (O:=O++[u.p]) (by rw [List.length_append,← hq]; rfl) (oW hq hF cu rfl) cw rfl⟩
     ·rw [show decide (z3*z2 < 0)=false from decide_eq_false h9]
      rw [if_neg h9] at an;conv=>whnf
      refine ⟨rfl,?_⟩;conv=>whnf
      rw [e8];refine .inr ⟨[0,1,2,3,4,5,6,7,8,35],[0,1,5,6,7],?_⟩;conv=>whnf
      intro _;conv=>whnf
      refine ⟨_,?_,j+1,O++[u.p],q+1+1,_,(.aa (.aa (.sk 3 (.aa (.aa (.aa (.sk 17 .nil rfl)))) rfl))),rfl,rfl,?_⟩
      ·omega
      ·exact ⟨⟨by omega,by rw [List.length_append,← hq]; rfl⟩,by rw [an]; simp,oW hq hF cu rfl⟩
    ·rw [show decide (z ≥ 0)=false from decide_eq_false h8]
     rw [if_neg h8] at an;conv=>whnf
     refine .inl ⟨3,[[],[0],[],[0,1,2],[0,1,2,3],[0,1,2,3,4]],by kernel_rfl,?_⟩
     conv=>whnf
     obtain ⟨z3,lF,lG⟩:=cZ (aW x.q 0);refine ⟨x,rfl,RV.bo sx (by decide),?_⟩
     rw [show dT.val x=.int .i64 z3 from lF]
     conv=>whnf
     obtain ⟨z2,lH,g8⟩:=cZ (aW y.q 0);refine ⟨y,rfl,RV.bo sy (by decide),?_⟩
     rw [show dT.val y=.int .i64 z2 from lH]
     conv=>whnf
     have gI:=ng y.q 0;rw [← g8] at gI;obtain rfl:z3=z:=lG.trans pz.symm;rw [show IntKind.i64.wrap (z3*z2)=z3*z2 from by rcases hz with rfl | rfl | rfl <;> rcases gI with rfl | rfl | rfl <;> rfl]
     rw [← g8] at an;by_cases h9:z3*z2 < 0
     ·rw [show decide (z3*z2 < 0)=true from decide_eq_true h9]
      rw [if_pos h9] at an;conv=>whnf
      refine .inr (.inr (.inl ⟨9,1,[[],[],[],[1,2],[0,1,2,3],[0,1,2,3,4],[0,1,2,3,4,5],[0,1,2,3,4,5],[],[0,1,2,3,4,5,6,8],[0,1,2,3,4,5,6,7,8,9]],[7],by kernel_rfl,?_⟩))
      conv=>whnf
      obtain ⟨d2,gJ,lI,lJ,lK⟩:=di (QB.sub qx qy);refine ⟨(x,y),rfl,⟨RV.bo sx (by decide),RV.bo sy (by decide)⟩,?_⟩
      rw [show eU.val (x,y)=d2.v from gJ]
      conv=>whnf
      obtain ⟨t,et,pt,st,qt⟩:=di (QB.div qx lK (by decide))
      obtain ⟨e,ee,pe⟩:=cZ (if d2.q=0 then 10 else 0)
      refine ⟨(x,d2),rfl,⟨RV.bo sx (by decide),RV.bo lJ (by decide)⟩,?_⟩
      rw [show lT.val (x,d2)=.tuple ⟨[t.v,.int .i64 e]⟩ from by rw [← et,← ee]; rfl]
      conv=>whnf
      refine .inl ⟨5,[[],[],[],[],[1,2,3],[0,1,2,3,4],[0,1,2,3,4,5]],by kernel_rfl,?_⟩
      conv=>whnf
      obtain ⟨w,ew,pw,sw,qw⟩:=lV (qI qu qv qt);refine ⟨((u,v),t),rfl,⟨⟨PV.aP su (by decide),PV.aP sv (by decide)⟩,RV.aP st (by decide)⟩,?_⟩
      rw [show nL.val ((u,v),t)=w.v from ew]
      conv=>whnf
      have cw:=(PV.iF ew).symm;rw [← pw] at cw;rw [show (cA (atR u.p v.p (x.q / (x.q - y.q)))).p=w.p from by rw [gF,pw,pt,lI]] at an
      refine ⟨rfl,?_⟩;conv=>whnf
      refine ⟨rfl,?_⟩;conv=>whnf
      refine ⟨rfl,?_⟩;conv=>whnf
      refine ⟨⟨rfl,by show (q+1+1)*80≤140737488355328; omega⟩,?_⟩
      conv=>whnf
      refine ⟨rfl,?_⟩;conv=>whnf
      refine ⟨rfl,?_⟩;conv=>whnf
      rw [e8];refine .inr ⟨[0,1,2,3,4,5,6,7,8,52],[0,1,5,6,7],?_⟩;conv=>whnf
      intro _;conv=>whnf
      refine ⟨_,?_,j+1,O++[w.p],q+1+1,_,(.aa (.aa (.sk 3 (.aa (.aa (.aa (.sk 17 .nil rfl)))) rfl))),rfl,rfl,?_⟩
      ·omega
      ·exact ⟨⟨by omega,by rw [List.length_append,← hq]; rfl⟩,by rw [an]; simp,oW hq hF cw rfl⟩
     ·rw [show decide (z3*z2 < 0)=false from decide_eq_false h9]
      rw [if_neg h9] at an;conv=>whnf
      refine ⟨rfl,?_⟩;conv=>whnf
      rw [e8];refine .inr ⟨[0,1,2,3,4,5,6,7,8,9],[0,1,5,6,7],?_⟩;conv=>whnf
      intro _;conv=>whnf
      refine ⟨_,?_,j+1,O,q+1,F,(.aa (.aa (.sk 3 (.aa (.aa (.aa (.sk 17 .nil rfl)))) rfl))),rfl,rfl,?_⟩
      ·omega
      ·exact ⟨⟨by omega,hq⟩,by rw [an]; simp,hF⟩
   ·have h7:j=n:=by
     have:=of_decide_eq_false h7;omega
    subst h7;have q8:dg (c8 a.p b.p) L=O:=by rw [hO,hn]; exact (Nm _ L).symm
    conv=>whnf
    rw [hK];unfold db;rw [show gw.new (some (L,c),(a,b))=some (.flat true (q+1) 6 (aX O)) from by show bW (dg (c8 a.p b.p) L)=_; rw [q8]; unfold bW; rw [← hq],show gw.val (some (L,c),(a,b))=.slice (some ⟨4,0,none⟩) (q+1) ao from by show dw _ (dg (c8 a.p b.p) L).length=_; rw [q8,← hq]; rfl]
    refine ⟨9,?_⟩;conv=>whnf
    exact ⟨⟨rfl,aq.dz (fun h=>h) hF (fun r hr=>rfl)⟩,_,rfl,.refl _⟩
open Go Go.Ae
theorem Ok:gj Tryz.prog 60 (cC mr cO Tryz.f60):=by
 exact jh Da aL Tryz.func60 (enters_of Tryz.func60 (by kernel_rfl) rfl)
theorem LR:gj Tryz.prog 57 (cC mr cO Tryz.f57):=by
 exact jh Da aL Tryz.func57 (enters_of Tryz.func57 (by kernel_rfl) rfl)
def Ez4:Env:=pU [(23,.q bk),(56,.q dN),(58,.q dL),(59,.r gw)] [(60,cC mr cO Tryz.f60),(57,cC mr cO Tryz.f57)]
theorem adn:EnvOk Tryz.prog Ez4:=qZ ⟨B0,EF,Oj,OT,trivial⟩ ⟨Ok,LR,trivial⟩
theorem WX:dj Tryz.prog 14 c6:=by
 refine dC adn aL Tryz.func14 (enters_of Tryz.func14 (by kernel_rfl) rfl) ?_ ?_ ?_
 ·intro ⟨i,_⟩ b hb;cases i with
  | none=>simp [c6,PL.ae] at hb
  | some i=>simp [c6,PL.ae] at hb; rw [hb]; rfl
 ·intro i B hb;exact yK hb
 intro ⟨i,a,b⟩ hp;have hp:(i.list.length≤1099511627776∧∀ v∈i.list,v.sz 2048)∧a.sz 2048∧b.sz 2048:=hp;obtain ⟨⟨hlen,aY⟩,sa,sb⟩:=hp;cases i with
 | none =>
  conv=>whnf
  refine ⟨none,[],rfl,⟨Nat.zero_le _,fun v hv=>nomatch hv⟩,?_⟩
  rw [show bk.ae none=[] from rfl,show bk.val none=.int .i64 4 from rfl,show bk.new none=none from rfl]
  conv=>whnf
  refine ⟨_,rfl,?_⟩;conv=>whnf
  exact ⟨_,rfl,.refl _⟩
 | some i =>
  obtain ⟨L,c⟩:=i;have hlen:L.length≤1099511627776:=hlen;have aY:∀ v∈L,PV.sz 2048 v:=aY;obtain ⟨n,hn⟩:∃ n,n=L.length:=⟨_,rfl⟩;obtain ⟨g,hg⟩:∃ g,g=bF L:=⟨_,rfl⟩;obtain ⟨K,hK⟩:∃ K,K=db c6 (some (L,c),(a,b)):=⟨_,rfl⟩;have lu:∀ (e:Int) (H:aA),bP L a b=([],e)→K (.tuple ⟨[.slice none 0 0,.int .i64 e]⟩) H:=fun e H h=>by
   rw [hK];unfold db;rw [show c6.new (some (L,c),(a,b))=none from by show bW (bP L a b).1=none; rw [h]; rfl,show c6.val (some (L,c),(a,b))=.tuple ⟨[.slice none 0 0,.int .i64 e]⟩ from by show Value.tuple ⟨[dw _ (bP L a b).1.length,.int .i64 (bP L a b).2]⟩=_; rw [h]; rfl]
   exact ⟨_,rfl,.refl _⟩
  rw [show c6.ae (some (L,c),(a,b))=[.flat false n 6 g] from by rw [hn,hg]; rfl,show c6.args (some (L,c),(a,b))=[.slice (some ⟨0,0,none⟩) n c,a.v,b.v] from by rw [hn]; rfl,← hK]
  rw [← hn] at hlen;conv=>whnf
  refine ⟨some (L,c),[0],by rw [show bk.args (some (L,c))=[.slice (some ⟨0,0,none⟩) n c] from by rw [hn]; rfl]; rfl,⟨by show L.length≤_; omega,aY⟩,?_⟩
  rw [show bk.ae (some (L,c))=[.flat false n 6 g] from by rw [hn,hg]; rfl,show bk.val (some (L,c))=.int .i64 (bt L) from rfl,show bk.new (some (L,c))=none from rfl]
  conv=>whnf
  refine ⟨aq.aO (fun h=>h) (fun r hr=>by rw [hg]; rfl),?_⟩
  conv=>whnf
  refine ⟨_,rfl,?_⟩;obtain ⟨e,he⟩:∃ z,z=bt L:=⟨_,rfl⟩;rw [← he];conv=>whnf
  by_cases h1:e=0
  ·rw [show (e != 0)=false from by simp [h1]]
   conv=>whnf
   refine ⟨some ([a,b],2),[3],rfl,⟨by show 2≤1099511627776; decide,(fun v hv=>by rcases List.mem_cons.1 hv with rfl | hv; exact sa; rw [List.mem_singleton.1 hv]; exact sb)⟩,?_⟩
   rw [show dN.ae (some ([a,b],2))=[.flat false 2 6 (bF [a,b])] from rfl,show dN.val (some ([a,b],2))=.bool (!fa [a,b]) from rfl,show dN.new (some ([a,b],2))=none from rfl]
   conv=>whnf
   refine ⟨uq [a,b],?_⟩;conv=>whnf
   refine ⟨_,rfl,?_⟩;obtain ⟨r,hr⟩:∃ z,z=fa [a,b]:=⟨_,rfl⟩;rw [← hr];conv=>whnf
   cases r with
   | true =>
    conv=>whnf
    exact lu 1 _ (xj fun h=>IC hr h.2.1 h.2.2)
   | false =>
    conv=>whnf
    have hk:bt L=0∧a.canon∧b.canon:=⟨by rw [← he]; exact h1,HQ hr⟩
    have hz:=nj hk.1;rw [xM a b];by_cases J:a=b
    ·rw [decide_eq_true J];conv=>whnf
     exact lu 12 _ (ON hk J)
    rw [decide_eq_false J];conv=>whnf
    obtain ⟨Q,hQ⟩:∃ Q,Q=aG L:=⟨_,rfl⟩;have hnQ:n=Q.length:=by rw [hQ,cE,hn]
    have JZ:g=aX Q:=by rw [hQ,wK hk.1,hg]
    have Rs:∀ v∈Q,Q2.sz 2048 v:=by rw [hQ]; exact uu aY (by decide)
    have hf:=yL (P:=Q) (a:=a.p) (b:=b.p) (by omega) Rs (PV.cM sa (by decide)) (PV.cM sb (by decide))
    obtain ⟨C,hC⟩:∃ C,C=dg (c8 a.p b.p) Q:=⟨_,rfl⟩;obtain ⟨R,hR⟩:∃ R,R=cV C:=⟨_,rfl⟩;have hv:=N6 hk J (by rw [← hQ]; exact hC) hR
    obtain ⟨m,hm⟩:∃ m,m=C.length:=⟨_,rfl⟩;obtain ⟨q,hq⟩:∃ m,m=R.length:=⟨_,rfl⟩;refine ⟨(some (Q,c),(a,b)),[0,4,5,6],by rw [show gw.args (some (Q,c),(a,b))=[.func (.func 114) #[] #[.pointer (some ⟨1,0,none⟩),.pointer (some ⟨2,0,none⟩),.pointer (some ⟨3,0,none⟩)]] from rfl]; rfl,⟨by show Q.length≤_; omega,Rs,sa,sb⟩,?_⟩
    rw [show gw.ae (some (Q,c),(a,b))=[.flat false n 6 g,.aR false 1 [[.slice (some ⟨0,0,none⟩) n c]],.aR false 6 [a.cells],.aR false 6 [b.cells]] from by rw [hnQ,JZ]; rfl,show gw.val (some (Q,c),(a,b))=dw 4 m from by rw [hm,hC]; rfl,show gw.new (some (Q,c),(a,b))=bW C from by rw [hC]; rfl]
    cases m with
    | zero =>
     obtain rfl:C=[]:=List.eq_nil_of_length_eq_zero hm.symm;conv=>whnf
     refine ⟨.inl (aq.aO (fun h=>by first | exact h | cases h) (fun r hr=>by rw [JZ]; rfl)),?_⟩
     conv=>whnf
     refine ⟨.inr ⟨_,_,_,_,rfl,rfl,rfl⟩,?_⟩;conv=>whnf
     refine ⟨.inr ⟨_,_,_,_,rfl,rfl,rfl⟩,?_⟩;conv=>whnf
     refine ⟨.inr ⟨_,_,_,_,rfl,rfl,rfl⟩,?_⟩;conv=>whnf
     refine ⟨_,rfl,?_⟩;conv=>whnf
     refine ⟨none,[],rfl,⟨Nat.zero_le _,fun v hv=>nomatch hv⟩,?_⟩
     rw [show dL.ae none=[] from rfl,show dL.val none=.slice none 0 0 from rfl,show dL.new none=none from rfl]
     conv=>whnf
     refine ⟨_,rfl,?_⟩;conv=>whnf
     exact lu 11 _ (hv.trans (yX (by rw [hR]; rfl)))
    | succ m =>
     rw [show bW C=some (.flat true (m+1) 6 (aX C)) from by unfold bW; rw [← hm]]
     conv=>whnf
     refine ⟨.inl (aq.aO (fun h=>by first | exact h | cases h) (fun r hr=>by rw [JZ]; rfl)),?_⟩
     conv=>whnf
     refine ⟨.inr ⟨_,_,_,_,rfl,rfl,rfl⟩,?_⟩;conv=>whnf
     refine ⟨.inr ⟨_,_,_,_,rfl,rfl,rfl⟩,?_⟩;conv=>whnf
     refine ⟨.inr ⟨_,_,_,_,rfl,rfl,rfl⟩,?_⟩;conv=>whnf
     refine ⟨_,rfl,?_⟩;conv=>whnf
     refine ⟨some (C,ao),[7],by rw [show dL.args (some (C,ao))=[.slice (some ⟨0,0,none⟩) (m+1) ao] from by rw [hm]; rfl]; rfl,⟨by rw [hC]; exact hf.1,fun v hv=>hf.2 v (by rw [← hC]; exact hv)⟩,?_⟩
     obtain ⟨G,hG⟩:∃ G,G=aX C:=⟨_,rfl⟩;rw [← hG,show dL.ae (some (C,ao))=[.flat false (m+1) 6 G] from by rw [hm,hG]; rfl,show dL.val (some (C,ao))=dw 1 q from by rw [hq,hR]; rfl,show dL.new (some (C,ao))=bW R from by rw [hR]; rfl]
     cases q with
     | zero =>
      obtain rfl:R=[]:=List.eq_nil_of_length_eq_zero hq.symm;conv=>whnf
      refine ⟨aq.aO (fun h=>by cases h) (fun r hr=>by rw [hG]; rfl),?_⟩
      conv=>whnf
      refine ⟨_,rfl,?_⟩;conv=>whnf
      exact lu 11 _ (hv.trans (yX rfl))
     | succ q =>
      obtain ⟨E,hE⟩:∃ G,G=aX R:=⟨_,rfl⟩;rw [show bW R=some (.flat true (q+1) 6 E) from by unfold bW; rw [← hq,hE]]
      conv=>whnf
      refine ⟨aq.aO (fun h=>by cases h) (fun r hr=>by rw [hG]; rfl),?_⟩
      conv=>whnf
      refine ⟨_,rfl,?_⟩;conv=>whnf
      by_cases h6:64 < q+1
      ·rw [show decide (((q+1:Nat):Int) > 64)=true from decide_eq_true (by omega)]
       conv=>whnf
       exact lu 4 _ (hv.trans (Cj (by omega)))
      ·rw [show decide (((q+1:Nat):Int) > 64)=false from decide_eq_false (by omega)]
       conv=>whnf
       rw [hK];unfold db;rw [zi (by omega) (by omega)] at hv
       rw [show c6.new (some (L,c),(a,b))=some (.flat true (q+1) 6 E) from by show bW (bP L a b).1=_; rw [hv,hE]; unfold bW; rw [← hq],show c6.val (some (L,c),(a,b))=.tuple ⟨[.slice (some ⟨1,0,none⟩) (q+1) ao,.int .i64 0]⟩ from by show Value.tuple ⟨[dw _ (bP L a b).1.length,.int .i64 (bP L a b).2]⟩=_; rw [hv,← hq]; rfl]
       refine ⟨8,?_⟩;conv=>whnf
       exact ⟨⟨rfl,aq.aO (fun h=>h) (fun r hr=>by rw [hE]; rfl)⟩,_,rfl,.refl _⟩
  ·rw [show (e != 0)=true from by simp [h1]]
   conv=>whnf
   exact lu 1 _ (xj fun h=>h1 (by rw [he]; exact h.1))
open Go Go.Ae
def Rt:Env:=En [(23,.q bk),(58,.q dL),(59,.r gw)] [(60,cC mr cO Tryz.f60),(57,cC mr cO Tryz.f57),(64,cC mr cO Tryz.f64)] [(118,wX)]
theorem ado:EnvOk Tryz.prog Rt:=bI ⟨B0,Oj,OT,trivial⟩ ⟨Ok,LR,yQ,trivial⟩
theorem abW:iD Tryz.prog Rt:=x6 ⟨yB,trivial⟩
theorem Ny:dj Tryz.prog 16 cF:=by
 refine dC ado aL Tryz.func16 (enters_of Tryz.func16 (by kernel_rfl) rfl) ?_ ?_ ?_ (hI:=abW)
 ·intro ⟨i,k⟩ B hb;cases i <;> cases k <;> simp [cF,PL.ae] at hb
  ·rw [hb]; rfl
  ·rw [hb]; rfl
  ·rcases hb with rfl | rfl <;> rfl
 ·intro i B hb;exact yK hb
 intro ⟨i,k⟩ hp;have hp:((i.list.length≤1099511627776∧∀ v∈i.list,v.sz 2048)∧k.list.length≤1099511627776∧∀ v∈k.list,v.sz 2048)∧qX i.list k.list:=hp;obtain ⟨⟨⟨lX,lz⟩,og,jF⟩,a9⟩:=hp;cases i with
 | none =>
  cases k with
  | none =>
   conv=>whnf
   refine ⟨none,[],rfl,⟨Nat.zero_le _,fun v hv=>nomatch hv⟩,?_⟩
   rw [show bk.ae none=[] from rfl,show bk.val none=.int .i64 4 from rfl,show bk.new none=none from rfl]
   conv=>whnf
   refine ⟨_,rfl,?_⟩;conv=>whnf
   exact ⟨_,rfl,.refl _⟩
  | some k =>
   conv=>whnf
   refine ⟨none,[],rfl,⟨Nat.zero_le _,fun v hv=>nomatch hv⟩,?_⟩
   rw [show bk.ae none=[] from rfl,show bk.val none=.int .i64 4 from rfl,show bk.new none=none from rfl]
   conv=>whnf
   refine ⟨_,rfl,?_⟩;conv=>whnf
   exact ⟨_,rfl,.refl _⟩
 | some i =>
  obtain ⟨A,c⟩:=i;have lX:A.length≤1099511627776:=lX;have lz:∀ v∈A,PV.sz 2048 v:=lz;obtain ⟨na,a8⟩:∃ n,n=A.length:=⟨_,rfl⟩;obtain ⟨ga,bw⟩:∃ g,g=bF A:=⟨_,rfl⟩;cases k with
  | none =>
   obtain ⟨K,hK⟩:∃ K,K=db cF (some (A,c),none):=⟨_,rfl⟩;have fin:∀ H:aA,K (.tuple ⟨[.slice none 0 0,.int .i64 1]⟩) H:=fun H=>by
    have h:bH A []=([],1):=qM fun e=>by have:=e.2; cases this
    rw [hK];unfold db;rw [show cF.new (some (A,c),none)=none from by show bW (bH A []).1=none; rw [h]; rfl,show cF.val (some (A,c),none)=.tuple ⟨[.slice none 0 0,.int .i64 1]⟩ from by show Value.tuple ⟨[dw _ (bH A []).1.length,.int .i64 (bH A []).2]⟩=_; rw [h]; rfl]
    exact ⟨_,rfl,.refl _⟩
   rw [show cF.ae (some (A,c),none)=[.flat false na 6 ga] from by rw [a8,bw]; rfl,show cF.args (some (A,c),none)=[.slice (some ⟨0,0,none⟩) na c,.slice none 0 0] from by rw [a8]; rfl,← hK]
   rw [← a8] at lX;conv=>whnf
   refine ⟨some (A,c),[0],by rw [show bk.args (some (A,c))=[.slice (some ⟨0,0,none⟩) na c] from by rw [a8]; rfl]; rfl,⟨by show A.length≤_; omega,lz⟩,?_⟩
   rw [show bk.ae (some (A,c))=[.flat false na 6 ga] from by rw [a8,bw]; rfl,show bk.val (some (A,c))=.int .i64 (bt A) from rfl,show bk.new (some (A,c))=none from rfl]
   conv=>whnf
   refine ⟨aq.aO (fun h=>h) (fun r hr=>by rw [bw]; rfl),?_⟩
   conv=>whnf
   refine ⟨_,rfl,?_⟩;obtain ⟨e,he⟩:∃ z,z=bt A:=⟨_,rfl⟩;rw [← he];conv=>whnf
   by_cases h1:e=0
   ·rw [show (e != 0)=false from by simp [h1]]
    conv=>whnf
    refine ⟨none,[],rfl,⟨Nat.zero_le _,fun v hv=>nomatch hv⟩,?_⟩
    rw [show bk.ae none=[] from rfl,show bk.val none=.int .i64 4 from rfl,show bk.new none=none from rfl]
    conv=>whnf
    refine ⟨_,rfl,?_⟩;conv=>whnf
    exact fin _
   ·rw [show (e != 0)=true from by simp [h1]]
    conv=>whnf
    exact fin _
  | some k =>
   obtain ⟨B,d⟩:=k;have og:B.length≤1099511627776:=og;have jF:∀ v∈B,PV.sz 2048 v:=jF;have a9:qX A B:=a9;obtain ⟨nb,bJ⟩:∃ n,n=B.length:=⟨_,rfl⟩;obtain ⟨gb,cD⟩:∃ g,g=bF B:=⟨_,rfl⟩;obtain ⟨K,hK⟩:∃ K,K=db cF (some (A,c),some (B,d)):=⟨_,rfl⟩;have lu:∀ (e:Int) (H:aA),bH A B=([],e)→K (.tuple ⟨[.slice none 0 0,.int .i64 e]⟩) H:=fun e H h=>by
    rw [hK];unfold db;rw [show cF.new (some (A,c),some (B,d))=none from by show bW (bH A B).1=none; rw [h]; rfl,show cF.val (some (A,c),some (B,d))=.tuple ⟨[.slice none 0 0,.int .i64 e]⟩ from by show Value.tuple ⟨[dw _ (bH A B).1.length,.int .i64 (bH A B).2]⟩=_; rw [h]; rfl]
    exact ⟨_,rfl,.refl _⟩
   rw [show cF.ae (some (A,c),some (B,d))=[.flat false na 6 ga,.flat false nb 6 gb] from by rw [a8,bw,bJ,cD]; rfl,show cF.args (some (A,c),some (B,d))=[.slice (some ⟨0,0,none⟩) na c,.slice (some ⟨1,0,none⟩) nb d] from by rw [a8,bJ]; rfl,← hK]
   rw [← a8] at lX;rw [← bJ] at og;conv=>whnf
   refine ⟨some (A,c),[0],by rw [show bk.args (some (A,c))=[.slice (some ⟨0,0,none⟩) na c] from by rw [a8]; rfl]; rfl,⟨by show A.length≤_; omega,lz⟩,?_⟩
   rw [show bk.ae (some (A,c))=[.flat false na 6 ga] from by rw [a8,bw]; rfl,show bk.val (some (A,c))=.int .i64 (bt A) from rfl,show bk.new (some (A,c))=none from rfl]
   conv=>whnf
   refine ⟨aq.aO (fun h=>h) (fun r hr=>by rw [bw]; rfl),?_⟩
   conv=>whnf
   refine ⟨_,rfl,?_⟩;obtain ⟨e,he⟩:∃ z,z=bt A:=⟨_,rfl⟩;rw [← he];conv=>whnf
   by_cases h1:e=0
   ·rw [show (e != 0)=false from by simp [h1]]
    conv=>whnf
    refine ⟨some (B,d),[1],by rw [show bk.args (some (B,d))=[.slice (some ⟨0,0,none⟩) nb d] from by rw [bJ]; rfl]; rfl,⟨by show B.length≤_; omega,jF⟩,?_⟩
    rw [show bk.ae (some (B,d))=[.flat false nb 6 gb] from by rw [bJ,cD]; rfl,show bk.val (some (B,d))=.int .i64 (bt B) from rfl,show bk.new (some (B,d))=none from rfl]
    conv=>whnf
    refine ⟨aq.aO (fun h=>h) (fun r hr=>by rw [cD]; rfl),?_⟩
    conv=>whnf
    refine ⟨_,rfl,?_⟩;obtain ⟨e2,cH⟩:∃ z,z=bt B:=⟨_,rfl⟩;rw [← cH];conv=>whnf
    by_cases J:e2=0
    ·rw [show (e2 != 0)=false from by simp [J]]
     have rJ:bt A=0:=by rw [← he]; exact h1
     have vS:bt B=0:=by rw [← cH]; exact J
     have a9:=a9 rJ vS;have J0:=nj rJ;have Ru:=nj vS;have J1:ga=aX (aG A):=by rw [wK rJ,bw]
     have hnA:na=(aG A).length:=by rw [cE,a8]
     conv=>whnf
     intro yl nu fn tm df;conv=>whnf
     refine .inl ⟨fun mm tz hz=>∃ (j:Nat) (p:Nat) (F:Nat→List Value),bC (some (.func (.yield yl) #[] #[])::some (.pointer (some ⟨3,0,none⟩))::aD 3 (some (.slice (some ⟨1,0,none⟩) nb d)::some (.int .i64 nb)::some (.int .i64 j)::aD 17 [])) tz∧hz=[some (.flat false na 6 ga),some (.flat false nb 6 gb),some (.aR true 1 [[aeo (.slice (some ⟨0,0,none⟩) na c) p j]]),some (.aR true 1 [[.slice (some ⟨1,0,none⟩) nb d]]),some (.cB (sY Tryz.f16 fn tm df))]++aep F p j∧nb - j=mm∧((j≤nb∧(0 < j→p=(fY (aG A) (aG B) j).length))∧(0 < j→∀ r,r < p→F r=aX (fY (aG A) (aG B) j) r)),.inr ⟨[0,1,2,3,4],[0,1,5,6,7],?_⟩,?_⟩
     ·conv=>whnf
      intro _;conv=>whnf
      refine ⟨_,0,0,fun _=>[],(.aa (.aa (.sk 3 (.aa (.aa (.aa (.sk 17 .nil rfl)))) rfl))),rfl,rfl,?_⟩
      exact ⟨⟨Nat.zero_le _,fun h=>absurd h (Nat.lt_irrefl 0)⟩,fun h=>absurd h (Nat.lt_irrefl 0)⟩
     rintro mm aT _ ⟨j,p,F,aw,rfl,rfl,⟨⟨hj,vL⟩,hF⟩⟩
     obtain ⟨az,rfl⟩:∃ az:Nat→Value,aT=.func (.yield yl) #[] #[]::.pointer (some ⟨3,0,none⟩)::zs az 2 3 (.slice (some ⟨1,0,none⟩) nb d::.int .i64 nb::.int .i64 j::zs az 8 17 []):=bL aw;clear aw;cases j with
     | zero =>
      conv=>whnf
      refine aI (fun h3=>?_) (fun h3=>?_)
      ·have h3:0 < nb:=by
        have:=of_decide_eq_true h3;omega
       have e7:IntKind.i64.wrap (((0:Nat):Int)+1)=((0+1:Nat):Int):=by rw [ay (by omega) (by omega)]; rfl
       obtain ⟨a,b,ra,rb,⟨ma,mb⟩,eH,b8,_,_⟩:=pY bJ h3;have sa:=jF a ma;have sb:=jF b mb;have b6:=jm h3 (by omega)
       obtain ⟨u,hu⟩:∃ u,u=aZ nb (0):=⟨_,rfl⟩;rw [← hu] at b6 b8 rb;rw [← cD] at ra rb;obtain ⟨m9,nc⟩:=a9 (0) (by rw [cE]; omega)
       have hf:=yL (a:=a.p) (b:=b.p) m9 nc (PV.cM sa (by decide)) (PV.cM sb (by decide))
       obtain ⟨C,hC⟩:∃ C,C=dg (c8 a.p b.p) (fY (aG A) (aG B) (0)):=⟨_,rfl⟩;obtain ⟨R,hR⟩:∃ R,R=cV C:=⟨_,rfl⟩;have j3:=yw eH hC hR;obtain ⟨m,hm⟩:∃ m,m=C.length:=⟨_,rfl⟩;obtain ⟨q,hq⟩:∃ m,m=R.length:=⟨_,rfl⟩;conv=>whnf
       refine ⟨⟨by omega,by omega⟩,?_⟩
       simp only [toNat_cast,ar,Nat.zero_add];conv=>whnf
       refine ⟨by show 0 < nb; omega,?_⟩
       conv=>whnf
       rw [ra];conv=>whnf
       refine .inl ⟨10,[[],[],[],[],[3],[],[5],[3,4,5,6],[2,3,4,5,6,7],[2,3,4,5,6,7,8],[0,1,2,3,4,5,6,7,8,9],[0,1,2,3,4,5,6,7,8,9,10]],by kernel_rfl,?_⟩
       conv=>whnf
       rw [show decide ((nb:Int)≠0)=true from decide_eq_true (by omega)]
       conv=>whnf
       rw [b6];refine ⟨⟨by omega,by omega⟩,?_⟩
       simp only [toNat_cast,ar,Nat.zero_add];conv=>whnf
       refine ⟨by show u < nb; omega,?_⟩
       conv=>whnf
       rw [rb];conv=>whnf
       refine ⟨rfl,?_⟩;conv=>whnf
       refine ⟨rfl,?_⟩;conv=>whnf
       refine ⟨rfl,?_⟩;conv=>whnf
       refine ⟨(some (aG A,c),(a,b)),[0,18,19,20],rfl,⟨m9,nc,sa,sb⟩,?_⟩;rw [show gw.ae (some (aG A,c),(a,b))=[.flat false na 6 ga,.aR false 1 [[.slice (some ⟨0,0,none⟩) na c]],.aR false 6 [a.cells],.aR false 6 [b.cells]] from by rw [hnA,J1]; rfl,show gw.val (some (aG A,c),(a,b))=dw 4 m from by rw [hm,hC]; rfl]
       rw [show gw.new (some (aG A,c),(a,b))=bW C from by rw [hC]; rfl]
       cases m with
       | zero =>
        obtain rfl:C=[]:=List.eq_nil_of_length_eq_zero hm.symm;conv=>whnf
        refine ⟨.inl (aq.aO (fun h=>h) (fun r hr=>by rw [J1]; rfl)),?_⟩
        conv=>whnf
        refine ⟨.inr ⟨_,_,_,_,rfl,rfl,rfl⟩,?_⟩;conv=>whnf
        refine ⟨.inr ⟨_,_,_,_,rfl,rfl,rfl⟩,?_⟩;conv=>whnf
        refine ⟨.inr ⟨_,_,_,_,rfl,rfl,rfl⟩,?_⟩;conv=>whnf
        refine ⟨_,rfl,?_⟩;conv=>whnf
        refine ⟨none,[],rfl,⟨Nat.zero_le _,fun v hv=>nomatch hv⟩,?_⟩
        rw [show dL.ae none=[] from rfl,show dL.val none=.slice none 0 0 from rfl,show dL.new none=none from rfl]
        conv=>whnf
        refine ⟨_,rfl,?_⟩;conv=>whnf
        rw [show cV []=[] from rfl] at hR
        subst hR;refine ⟨rfl,?_⟩;conv=>whnf
        rw [e7];refine .inr ⟨[0,1,2,3,4],[0,1,5,6,7],?_⟩;conv=>whnf
        intro _;conv=>whnf
        refine ⟨_,?_,0+1,0,fun _=>[],(.aa (.aa (.sk 3 (.aa (.aa (.aa (.sk 17 .nil rfl)))) rfl))),rfl,rfl,?_⟩
        ·omega
        ·exact ⟨⟨by omega,fun _=>congrArg List.length j3⟩,fun _ r hr=>absurd hr (Nat.not_lt_zero r)⟩
       | succ m =>
        rw [show bW C=some (.flat true (m+1) 6 (aX C)) from by unfold bW; rw [← hm]]
        conv=>whnf
        refine ⟨.inl (aq.aO (fun h=>h) (fun r hr=>by rw [J1]; rfl)),?_⟩
        conv=>whnf
        refine ⟨.inr ⟨_,_,_,_,rfl,rfl,rfl⟩,?_⟩;conv=>whnf
        refine ⟨.inr ⟨_,_,_,_,rfl,rfl,rfl⟩,?_⟩;conv=>whnf
        refine ⟨.inr ⟨_,_,_,_,rfl,rfl,rfl⟩,?_⟩;conv=>whnf
        refine ⟨_,rfl,?_⟩;conv=>whnf
        refine ⟨some (C,ao),[21],by rw [show dL.args (some (C,ao))=[.slice (some ⟨0,0,none⟩) (m+1) ao] from by rw [hm]; rfl]; rfl,⟨by rw [hC]; exact hf.1,fun v hv=>hf.2 v (by rw [← hC]; exact hv)⟩,?_⟩
        obtain ⟨G,hG⟩:∃ G,G=aX C:=⟨_,rfl⟩;rw [← hG,show dL.ae (some (C,ao))=[.flat false (m+1) 6 G] from by rw [hm,hG]; rfl,show dL.val (some (C,ao))=dw 1 q from by rw [hq,hR]; rfl,show dL.new (some (C,ao))=bW R from by rw [hR]; rfl]
        cases q with
        | zero =>
         obtain rfl:R=[]:=List.eq_nil_of_length_eq_zero hq.symm;conv=>whnf
         refine ⟨aq.aO (fun h=>by cases h) (fun r hr=>by rw [hG]; rfl),?_⟩
         conv=>whnf
         refine ⟨_,rfl,?_⟩;conv=>whnf
         refine ⟨rfl,?_⟩;conv=>whnf
         rw [e7];refine .inr ⟨[0,1,2,3,4],[0,1,5,6,7],?_⟩;conv=>whnf
         intro _;conv=>whnf
         refine ⟨_,?_,0+1,0,fun _=>[],(.aa (.aa (.sk 3 (.aa (.aa (.aa (.sk 17 .nil rfl)))) rfl))),rfl,rfl,?_⟩
         ·omega
         ·exact ⟨⟨by omega,fun _=>congrArg List.length j3⟩,fun _ r hr=>absurd hr (Nat.not_lt_zero r)⟩
        | succ q =>
         obtain ⟨E,hE⟩:∃ G,G=aX R:=⟨_,rfl⟩;rw [show bW R=some (.flat true (q+1) 6 E) from by unfold bW; rw [← hq,hE]]
         conv=>whnf
         refine ⟨aq.aO (fun h=>by cases h) (fun r hr=>by rw [hG]; rfl),?_⟩
         conv=>whnf
         refine ⟨_,rfl,?_⟩;conv=>whnf
         refine ⟨rfl,?_⟩;conv=>whnf
         rw [e7];refine .inr ⟨[0,1,2,3,4,22],[0,1,5,6,7],?_⟩;conv=>whnf
         intro _;conv=>whnf
         refine ⟨_,?_,0+1,q+1,E,(.aa (.aa (.sk 3 (.aa (.aa (.aa (.sk 17 .nil rfl)))) rfl))),rfl,rfl,?_⟩
         ·omega
         ·exact ⟨⟨by omega,fun _=>hq.trans (congrArg List.length j3)⟩,fun _ r hr=>by rw [hE,j3]⟩
      ·have:=of_decide_eq_false h3;omega
     | succ j =>
      have nX:=vL (Nat.succ_pos j);have D8:=hF (Nat.succ_pos j);obtain ⟨S,hS⟩:∃ S,S=fY (aG A) (aG B) (j+1):=⟨_,rfl⟩;rw [← hS] at nX D8;cases p with
      | zero =>
       obtain rfl:S=[]:=List.eq_nil_of_length_eq_zero nX.symm;conv=>whnf
       refine aI (fun h3=>?_) (fun h3=>?_)
       ·have h3:(j+1) < nb:=by
         have:=of_decide_eq_true h3;omega
        have e7:IntKind.i64.wrap ((((j+1):Nat):Int)+1)=(((j+1)+1:Nat):Int):=by rw [ay (by omega) (by omega)]; rfl
        obtain ⟨a,b,ra,rb,⟨ma,mb⟩,eH,b8,_,_⟩:=pY bJ h3;have sa:=jF a ma;have sb:=jF b mb;have b6:=jm h3 (by omega)
        obtain ⟨u,hu⟩:∃ u,u=aZ nb ((j+1)):=⟨_,rfl⟩;rw [← hu] at b6 b8 rb;rw [← cD] at ra rb;obtain ⟨m9,nc⟩:=a9 ((j+1)) (by rw [cE]; omega)
        have hf:=yL (a:=a.p) (b:=b.p) m9 nc (PV.cM sa (by decide)) (PV.cM sb (by decide))
        obtain ⟨C,hC⟩:∃ C,C=dg (c8 a.p b.p) (fY (aG A) (aG B) ((j+1))):=⟨_,rfl⟩;obtain ⟨R,hR⟩:∃ R,R=cV C:=⟨_,rfl⟩;have j3:=yw eH hC hR;obtain ⟨m,hm⟩:∃ m,m=C.length:=⟨_,rfl⟩;obtain ⟨q,hq⟩:∃ m,m=R.length:=⟨_,rfl⟩;conv=>whnf
        refine ⟨⟨by omega,by omega⟩,?_⟩
        simp only [toNat_cast,ar,Nat.zero_add];conv=>whnf
        refine ⟨by show (j+1) < nb; omega,?_⟩
        conv=>whnf
        rw [ra];conv=>whnf
        refine .inl ⟨10,[[],[],[],[],[3],[],[5],[3,4,5,6],[2,3,4,5,6,7],[2,3,4,5,6,7,8],[0,1,2,3,4,5,6,7,8,9],[0,1,2,3,4,5,6,7,8,9,10]],by kernel_rfl,?_⟩
        conv=>whnf
        rw [show decide ((nb:Int)≠0)=true from decide_eq_true (by omega)]
        conv=>whnf
        rw [b6];refine ⟨⟨by omega,by omega⟩,?_⟩
        simp only [toNat_cast,ar,Nat.zero_add];conv=>whnf
        refine ⟨by show u < nb; omega,?_⟩
        conv=>whnf
        rw [rb];conv=>whnf
        refine ⟨rfl,?_⟩;conv=>whnf
        refine ⟨rfl,?_⟩;conv=>whnf
        refine ⟨rfl,?_⟩;conv=>whnf
        refine ⟨(none,(a,b)),[18,19,20],rfl,⟨Nat.zero_le _,(fun v hv=>nomatch hv),sa,sb⟩,?_⟩
        rw [show gw.ae (none,(a,b))=[.aR false 1 [[.slice none 0 0]],.aR false 6 [a.cells],.aR false 6 [b.cells]] from rfl,show gw.val (none,(a,b))=.slice none 0 0 from rfl,show gw.new (none,(a,b))=none from rfl]
        conv=>whnf
        refine ⟨.inr ⟨_,_,_,_,rfl,rfl,rfl⟩,?_⟩;conv=>whnf
        refine ⟨.inr ⟨_,_,_,_,rfl,rfl,rfl⟩,?_⟩;conv=>whnf
        refine ⟨.inr ⟨_,_,_,_,rfl,rfl,rfl⟩,?_⟩;conv=>whnf
        refine ⟨_,rfl,?_⟩;conv=>whnf
        refine ⟨none,[],rfl,⟨Nat.zero_le _,fun v hv=>nomatch hv⟩,?_⟩
        rw [show dL.ae none=[] from rfl,show dL.val none=.slice none 0 0 from rfl,show dL.new none=none from rfl]
        conv=>whnf
        refine ⟨_,rfl,?_⟩;conv=>whnf
        obtain rfl:C=[]:=by rw [hC,← hS]; rfl
        rw [show cV []=[] from rfl] at hR
        subst hR;refine ⟨rfl,?_⟩;conv=>whnf
        rw [e7];refine .inr ⟨[0,1,2,3,4],[0,1,5,6,7],?_⟩;conv=>whnf
        intro _;conv=>whnf
        refine ⟨_,?_,(j+1)+1,0,fun _=>[],(.aa (.aa (.sk 3 (.aa (.aa (.aa (.sk 17 .nil rfl)))) rfl))),rfl,rfl,?_⟩
        ·omega
        ·exact ⟨⟨by omega,fun _=>congrArg List.length j3⟩,fun _ r hr=>absurd hr (Nat.not_lt_zero r)⟩
       ·have h3:j+1=nb:=by
         have:=of_decide_eq_false h3;omega
        conv=>whnf
        exact lu 11 _ ((OO ⟨rJ,vS⟩ (R:=[]) (by rw [← bJ,← h3]; exact hS)).trans (yX rfl))
      | succ p =>
       conv=>whnf
       refine aI (fun h3=>?_) (fun h3=>?_)
       ·have h3:(j+1) < nb:=by
         have:=of_decide_eq_true h3;omega
        have e7:IntKind.i64.wrap ((((j+1):Nat):Int)+1)=(((j+1)+1:Nat):Int):=by rw [ay (by omega) (by omega)]; rfl
        obtain ⟨a,b,ra,rb,⟨ma,mb⟩,eH,b8,_,_⟩:=pY bJ h3;have sa:=jF a ma;have sb:=jF b mb;have b6:=jm h3 (by omega)
        obtain ⟨u,hu⟩:∃ u,u=aZ nb ((j+1)):=⟨_,rfl⟩;rw [← hu] at b6 b8 rb;rw [← cD] at ra rb;obtain ⟨m9,nc⟩:=a9 ((j+1)) (by rw [cE]; omega)
        have hf:=yL (a:=a.p) (b:=b.p) m9 nc (PV.cM sa (by decide)) (PV.cM sb (by decide))
        obtain ⟨C,hC⟩:∃ C,C=dg (c8 a.p b.p) (fY (aG A) (aG B) ((j+1))):=⟨_,rfl⟩;obtain ⟨R,hR⟩:∃ R,R=cV C:=⟨_,rfl⟩;have j3:=yw eH hC hR;obtain ⟨m,hm⟩:∃ m,m=C.length:=⟨_,rfl⟩;obtain ⟨q,hq⟩:∃ m,m=R.length:=⟨_,rfl⟩;conv=>whnf
        refine ⟨⟨by omega,by omega⟩,?_⟩
        simp only [toNat_cast,ar,Nat.zero_add];conv=>whnf
        refine ⟨by show (j+1) < nb; omega,?_⟩
        conv=>whnf
        rw [ra];conv=>whnf
        refine .inl ⟨10,[[],[],[],[],[3],[],[5],[3,4,5,6],[2,3,4,5,6,7],[2,3,4,5,6,7,8],[0,1,2,3,4,5,6,7,8,9],[0,1,2,3,4,5,6,7,8,9,10]],by kernel_rfl,?_⟩
        conv=>whnf
        rw [show decide ((nb:Int)≠0)=true from decide_eq_true (by omega)]
        conv=>whnf
        rw [b6];refine ⟨⟨by omega,by omega⟩,?_⟩
        simp only [toNat_cast,ar,Nat.zero_add];conv=>whnf
        refine ⟨by show u < nb; omega,?_⟩
        conv=>whnf
        rw [rb];conv=>whnf
        refine ⟨rfl,?_⟩;conv=>whnf
        refine ⟨rfl,?_⟩;conv=>whnf
        refine ⟨rfl,?_⟩;conv=>whnf
        refine ⟨(some (S,ao),(a,b)),[5,19,20,21],by rw [show gw.args (some (S,ao),(a,b))=[.func (.func 114) #[] #[.pointer (some ⟨1,0,none⟩),.pointer (some ⟨2,0,none⟩),.pointer (some ⟨3,0,none⟩)]] from rfl]; rfl,⟨by rw [hS]; exact m9,by rw [hS]; exact nc,sa,sb⟩,?_⟩
        rw [show gw.ae (some (S,ao),(a,b))=[.flat false (p+1) 6 (aX S),.aR false 1 [[.slice (some ⟨0,0,none⟩) (p+1) ao]],.aR false 6 [a.cells],.aR false 6 [b.cells]] from by rw [nX]; rfl,show gw.val (some (S,ao),(a,b))=dw 4 m from by rw [hm,hC,← hS]; rfl]
        rw [show gw.new (some (S,ao),(a,b))=bW C from by rw [hC,← hS]; rfl]
        cases m with
        | zero =>
         obtain rfl:C=[]:=List.eq_nil_of_length_eq_zero hm.symm;conv=>whnf
         refine ⟨.inl (aq.dz (fun h=>by cases h) D8 (fun r hr=>rfl)),?_⟩
         conv=>whnf
         refine ⟨.inr ⟨_,_,_,_,rfl,rfl,rfl⟩,?_⟩;conv=>whnf
         refine ⟨.inr ⟨_,_,_,_,rfl,rfl,rfl⟩,?_⟩;conv=>whnf
         refine ⟨.inr ⟨_,_,_,_,rfl,rfl,rfl⟩,?_⟩;conv=>whnf
         refine ⟨_,rfl,?_⟩;conv=>whnf
         refine ⟨none,[],rfl,⟨Nat.zero_le _,fun v hv=>nomatch hv⟩,?_⟩
         rw [show dL.ae none=[] from rfl,show dL.val none=.slice none 0 0 from rfl,show dL.new none=none from rfl]
         conv=>whnf
         refine ⟨_,rfl,?_⟩;conv=>whnf
         rw [show cV []=[] from rfl] at hR
         subst hR;refine ⟨rfl,?_⟩;conv=>whnf
         rw [e7];refine .inr ⟨[0,1,2,3,4],[0,1,5,6,7],?_⟩;conv=>whnf
         intro _;conv=>whnf
         refine ⟨_,?_,(j+1)+1,0,fun _=>[],(.aa (.aa (.sk 3 (.aa (.aa (.aa (.sk 17 .nil rfl)))) rfl))),rfl,rfl,?_⟩
         ·omega
         ·exact ⟨⟨by omega,fun _=>congrArg List.length j3⟩,fun _ r hr=>absurd hr (Nat.not_lt_zero r)⟩
        | succ m =>
         rw [show bW C=some (.flat true (m+1) 6 (aX C)) from by unfold bW; rw [← hm]]
         conv=>whnf
         refine ⟨.inl (aq.dz (fun h=>by cases h) D8 (fun r hr=>rfl)),?_⟩
         conv=>whnf
         refine ⟨.inr ⟨_,_,_,_,rfl,rfl,rfl⟩,?_⟩;conv=>whnf
         refine ⟨.inr ⟨_,_,_,_,rfl,rfl,rfl⟩,?_⟩;conv=>whnf
         refine ⟨.inr ⟨_,_,_,_,rfl,rfl,rfl⟩,?_⟩;conv=>whnf
         refine ⟨_,rfl,?_⟩;conv=>whnf
         refine ⟨some (C,ao),[22],by rw [show dL.args (some (C,ao))=[.slice (some ⟨0,0,none⟩) (m+1) ao] from by rw [hm]; rfl]; rfl,⟨by rw [hC]; exact hf.1,fun v hv=>hf.2 v (by rw [← hC]; exact hv)⟩,?_⟩
         obtain ⟨G,hG⟩:∃ G,G=aX C:=⟨_,rfl⟩;rw [← hG,show dL.ae (some (C,ao))=[.flat false (m+1) 6 G] from by rw [hm,hG]; rfl,show dL.val (some (C,ao))=dw 1 q from by rw [hq,hR]; rfl,show dL.new (some (C,ao))=bW R from by rw [hR]; rfl]
         cases q with
         | zero =>
          obtain rfl:R=[]:=List.eq_nil_of_length_eq_zero hq.symm;conv=>whnf
          refine ⟨aq.aO (fun h=>by cases h) (fun r hr=>by rw [hG]; rfl),?_⟩
          conv=>whnf
          refine ⟨_,rfl,?_⟩;conv=>whnf
          refine ⟨rfl,?_⟩;conv=>whnf
          rw [e7];refine .inr ⟨[0,1,2,3,4],[0,1,5,6,7],?_⟩;conv=>whnf
          intro _;conv=>whnf
          refine ⟨_,?_,(j+1)+1,0,fun _=>[],(.aa (.aa (.sk 3 (.aa (.aa (.aa (.sk 17 .nil rfl)))) rfl))),rfl,rfl,?_⟩
          ·omega
          ·exact ⟨⟨by omega,fun _=>congrArg List.length j3⟩,fun _ r hr=>absurd hr (Nat.not_lt_zero r)⟩
         | succ q =>
          obtain ⟨E,hE⟩:∃ G,G=aX R:=⟨_,rfl⟩;rw [show bW R=some (.flat true (q+1) 6 E) from by unfold bW; rw [← hq,hE]]
          conv=>whnf
          refine ⟨aq.aO (fun h=>by cases h) (fun r hr=>by rw [hG]; rfl),?_⟩
          conv=>whnf
          refine ⟨_,rfl,?_⟩;conv=>whnf
          refine ⟨rfl,?_⟩;conv=>whnf
          rw [e7];refine .inr ⟨[0,1,2,3,4,23],[0,1,5,6,7],?_⟩;conv=>whnf
          intro _;conv=>whnf
          refine ⟨_,?_,(j+1)+1,q+1,E,(.aa (.aa (.sk 3 (.aa (.aa (.aa (.sk 17 .nil rfl)))) rfl))),rfl,rfl,?_⟩
          ·omega
          ·exact ⟨⟨by omega,fun _=>hq.trans (congrArg List.length j3)⟩,fun _ r hr=>by rw [hE,j3]⟩
       ·have h3:j+1=nb:=by
         have:=of_decide_eq_false h3;omega
        have hv:=OO ⟨rJ,vS⟩ (R:=S) (by rw [← bJ,← h3]; exact hS)
        conv=>whnf
        by_cases h6:64 < p+1
        ·rw [show decide (((p+1:Nat):Int) > 64)=true from decide_eq_true (by omega)]
         conv=>whnf
         exact lu 4 _ (hv.trans (Cj (by omega)))
        ·rw [show decide (((p+1:Nat):Int) > 64)=false from decide_eq_false (by omega)]
         conv=>whnf
         rw [hK];unfold db;rw [zi (by omega) (by omega)] at hv
         rw [show cF.new (some (A,c),some (B,d))=some (.flat true (p+1) 6 (aX S)) from by show bW (bH A B).1=_; rw [hv]; unfold bW; rw [← nX],show cF.val (some (A,c),some (B,d))=.tuple ⟨[.slice (some ⟨2,0,none⟩) (p+1) ao,.int .i64 0]⟩ from by show Value.tuple ⟨[dw _ (bH A B).1.length,.int .i64 (bH A B).2]⟩=_; rw [hv,← nX]; rfl]
         refine ⟨5,?_⟩;conv=>whnf
         exact ⟨⟨rfl,aq.dz (fun h=>h) D8 (fun r hr=>rfl)⟩,_,rfl,.refl _⟩
    ·rw [show (e2 != 0)=true from by simp [J]]
     conv=>whnf
     exact lu 1 _ (qM fun h=>J (by rw [cH]; exact h.2))
   ·rw [show (e != 0)=true from by simp [h1]]
    conv=>whnf
    exact lu 1 _ (qM fun h=>h1 (by rw [he]; exact h.1))
open Go Go.Ae
theorem ZG:bc Tryz.prog 101 (qY true):=by
 refine bh qN aL Tryz.func101 (enters_of Tryz.func101 (by kernel_rfl) rfl) (fun _=>rfl) (fun _=>rfl) ?_
 intro (z:Int) hp;conv=>whnf
 rfl
theorem ZH:bc Tryz.prog 103 (qY false):=by
 refine bh qN aL Tryz.func103 (enters_of Tryz.func103 (by kernel_rfl) rfl) (fun _=>rfl) (fun _=>rfl) ?_
 intro (z:Int) hp;conv=>whnf
 rfl
theorem ZI:bc Tryz.prog 105 (qY true):=by
 refine bh qN aL Tryz.func105 (enters_of Tryz.func105 (by kernel_rfl) rfl) (fun _=>rfl) (fun _=>rfl) ?_
 intro (z:Int) hp;conv=>whnf
 rfl
def J2:Env:=En [(32,.p np),(101,.p (qY true)),(103,.p (qY false)),(105,.p (qY true))]
theorem adp:EnvOk Tryz.prog J2:=bI ⟨MM,ZG,ZH,ZI,trivial⟩ trivial
theorem Ud:gj Tryz.prog 168 (cC J2 cO Tryz.f168):=by
 exact jh adp aL Tryz.func168 (enters_of Tryz.func168 (by kernel_rfl) rfl)
def J3:Env:=En [] [(168,cC J2 cO Tryz.f168)]
theorem adq:EnvOk Tryz.prog J3:=bI trivial ⟨Ud,trivial⟩
theorem Vm:gj Tryz.prog 106 (cC J3 cO Tryz.f106):=by
 exact jh adq aL Tryz.func106 (enters_of Tryz.func106 (by kernel_rfl) rfl)
def J4:Env:=En [] [(106,cC J3 cO Tryz.f106)]
theorem adr:EnvOk Tryz.prog J4:=bI trivial ⟨Vm,trivial⟩
theorem Sk:gj Tryz.prog 49 (cC J4 cO Tryz.f49):=by
 exact jh adr aL Tryz.func49 (enters_of Tryz.func49 (by kernel_rfl) rfl)
def Rv:Env:=En [] [(49,cC J4 cO Tryz.f49),(64,cC mr cO Tryz.f64)] [(118,wX)]
theorem ads:EnvOk Tryz.prog Rv:=bI trivial ⟨Sk,yQ,trivial⟩
theorem abX:iD Tryz.prog Rv:=x6 ⟨yB,trivial⟩
abbrev ki:ax:=xP 101 103 105 iG
abbrev n4:ax:=xP 101 103 105 kC
theorem Vn:dj Tryz.prog 144 ki:=by
 refine dC ads aL Tryz.func144 (enters_of Tryz.func144 (by kernel_rfl) rfl) ?_ ?_ ?_ (hI:=abX)
 ·intro i b hb; simp [ki,xP] at hb; rcases hb with rfl | rfl <;> rfl
 ·intro i b hb; simp [ki,xP] at hb
 intro ⟨⟨⟨A,c⟩,⟨B,d⟩⟩,f,s⟩ hp;have hp:((f,s)=(101,true)∨(f,s)=(103,false)∨(f,s)=(105,true))∧(A.length≤1073741824∧∀ v∈A,Q2.sz 2048 v)∧B.length≤1073741824∧∀ v∈B,Q2.sz 2048 v:=hp;obtain ⟨vK,⟨hla,AS⟩,hlb,D9⟩:=hp;obtain ⟨n,hn⟩:∃ n,n=A.length:=⟨_,rfl⟩;obtain ⟨g,hg⟩:∃ g,g=aX A:=⟨_,rfl⟩;obtain ⟨m,hm⟩:∃ n,n=B.length:=⟨_,rfl⟩;obtain ⟨g2,x9⟩:∃ g,g=aX B:=⟨_,rfl⟩;obtain ⟨K,hK⟩:∃ K,K=db ki (((A,c),(B,d)),(f,s)):=⟨_,rfl⟩;have fin:∀ (x:XV) (z:Bool) (H:aA),gZ (iG s A B)=(x,z)→K (.tuple ⟨[x.v,.bool z]⟩) H:=fun x z H h=>by
  rw [hK];unfold db;rw [show ki.new (((A,c),(B,d)),(f,s))=none from rfl,show ki.val (((A,c),(B,d)),(f,s))=.tuple ⟨[x.v,.bool z]⟩ from by show Value.tuple ⟨[(gZ (iG s A B)).1.v,.bool (gZ (iG s A B)).2]⟩=_; rw [h]]
  exact ⟨_,rfl,.refl _⟩
 rw [show ki.ae (((A,c),(B,d)),(f,s))=[.flat false n 6 g,.flat false m 6 g2] from by rw [hn,hg,hm,x9]; rfl,show ki.args (((A,c),(B,d)),(f,s))=[.slice (some ⟨0,0,none⟩) n c,.slice (some ⟨1,0,none⟩) m d,.func (.func f) #[] #[]] from by rw [hn,hm]; rfl,← hK]
 rw [← hn] at hla;rw [← hm] at hlb;conv=>whnf
 intro yl nu fn tm df;conv=>whnf
 refine .inl ⟨fun mm tz hz=>∃ (j:Nat),bC (some (.func (.yield yl) #[] #[])::some (.pointer (some ⟨6,0,none⟩))::aD 3 (some (.slice (some ⟨0,0,none⟩) n c)::some (.int .i64 n)::some (.int .i64 j)::aD 17 [])) tz∧hz=[some (.flat false n 6 g),some (.flat false m 6 g2),some (.aR true 1 [[.slice (some ⟨1,0,none⟩) m d]]),some (.aR true 1 [[.func (.func f) #[] #[]]]),some (.aR true 12 [nG.cells]),some (.aR true 1 [[.bool false]]),some (.aR true 1 [[.slice (some ⟨0,0,none⟩) n c]]),some (.cB (sY Tryz.f144 fn tm df))]∧n - j=mm∧(j≤n∧ob (nO s B) (bf A) j),.inr ⟨[0,1,2,3,4,5,6,7],[0,1,5,6,7],?_⟩,?_⟩
 ·conv=>whnf
  intro _;conv=>whnf
  refine ⟨_,0,(.aa (.aa (.sk 3 (.aa (.aa (.aa (.sk 17 .nil rfl)))) rfl))),rfl,rfl,?_⟩;exact ⟨Nat.zero_le _,EE _ _⟩
 rintro mm aT _ ⟨j,aw,rfl,rfl,⟨hj,hU⟩⟩
 obtain ⟨az,rfl⟩:∃ az:Nat→Value,aT=.func (.yield yl) #[] #[]::.pointer (some ⟨6,0,none⟩)::zs az 2 3 (.slice (some ⟨0,0,none⟩) n c::.int .i64 n::.int .i64 j::zs az 8 17 []):=bL aw;clear aw;conv=>whnf
 refine aI (fun h3=>?_) (fun h3=>?_)
 ·have h3:j < n:=by
   have:=of_decide_eq_true h3;omega
  have e7:IntKind.i64.wrap ((j:Int)+1)=((j+1:Nat):Int):=by rw [ay (by omega) (by omega)]; rfl
  obtain ⟨a,ca,ra,pa,sa,qa⟩:=gi (L:=A) (k:=j) (by omega) AS
  obtain ⟨b,cb,rb,pb,sb,qb⟩:=gi (L:=A) (k:=aZ n j) (by rw [hn]; exact cJ (by omega)) AS
  have b6:=jm h3 (by omega)
  have b8:=cJ h3;have eH:(bf A)[j]?=some (a.p,b.p):=by rw [pa,pb]; rw [hn] at b8 ⊢; exact oV (gN (by omega)) (gN b8)
  rw [← pa] at ca;rw [← pb] at cb;obtain ⟨u,hu⟩:∃ u,u=aZ n j:=⟨_,rfl⟩;rw [← hu] at b6 b8 rb;rw [← hg] at ra rb;conv=>whnf
  refine ⟨⟨by omega,by omega⟩,?_⟩
  simp only [toNat_cast,ar,Nat.zero_add];conv=>whnf
  refine ⟨by show j < n; omega,?_⟩
  conv=>whnf
  rw [ra];conv=>whnf
  refine .inl ⟨10,[[],[],[],[],[3],[],[5],[3,4,5,6],[2,3,4,5,6,7],[2,3,4,5,6,7,8],[0,1,2,3,4,5,6,7,8,9],[0,1,2,3,4,5,6,7,8,9,10]],by kernel_rfl,?_⟩
  conv=>whnf
  rw [show decide ((n:Int)≠0)=true from decide_eq_true (by omega)]
  conv=>whnf
  rw [b6];refine ⟨⟨by omega,by omega⟩,?_⟩
  simp only [toNat_cast,ar,Nat.zero_add];conv=>whnf
  refine ⟨by show u < n; omega,?_⟩
  conv=>whnf
  rw [rb];conv=>whnf
  refine ⟨rfl,?_⟩;conv=>whnf
  refine ⟨rfl,?_⟩;conv=>whnf
  refine ⟨rfl,?_⟩;conv=>whnf
  refine .inl ⟨fun mm tz hz=>∃ (i:Nat),bC (some (.slice (some ⟨1,0,none⟩) m d)::some (.func (.func 168) #[] #[.pointer (some ⟨3,0,none⟩),.pointer (some ⟨19,0,none⟩),.pointer (some ⟨20,0,none⟩)])::aD 5 (some (.int .i64 m)::some (.int .i64 i)::aD 10 [])) tz∧hz=[some (.flat false n 6 g),some (.flat false m 6 g2),some (.aR true 1 [[.slice (some ⟨1,0,none⟩) m d]]),some (.aR true 1 [[.func (.func f) #[] #[]]]),some (.aR true 12 [nG.cells]),some (.aR true 1 [[.bool false]]),some (.aR true 1 [[.slice (some ⟨0,0,none⟩) n c]]),some (.cB { sY Tryz.f144 fn tm df with state:=.busy }),some (.aR true 6 [a.cells]),none,none,none,none,none,none,none,none,none,none,some (.aR true 6 [a.cells]),some (.aR true 6 [b.cells])]∧m - i=mm∧(i≤m∧ob (s8 s a.p b.p) B i),.inr ⟨[0,1,2,3,4,5,6,7,8,9,10,11,12,13,14,15,16,17,18,19,20],[0,1,7,8],?_⟩,?_⟩
  ·conv=>whnf
   intro _;conv=>whnf
   refine ⟨_,0,(.aa (.aa (.sk 5 (.aa (.aa (.sk 10 .nil rfl))) rfl))),rfl,rfl,?_⟩;exact ⟨Nat.zero_le _,EE _ _⟩
  rintro mm aT _ ⟨i,aw,rfl,rfl,⟨hi,hV⟩⟩
  obtain ⟨az,rfl⟩:∃ az:Nat→Value,aT=.slice (some ⟨1,0,none⟩) m d::.func (.func 168) #[] #[.pointer (some ⟨3,0,none⟩),.pointer (some ⟨19,0,none⟩),.pointer (some ⟨20,0,none⟩)]::zs az 2 5 (.int .i64 m::.int .i64 i::zs az 9 10 []):=bL aw;clear aw;conv=>whnf
  refine aI (fun h4=>?_) (fun h4=>?_)
  ·have h4:i < m:=by
    have:=of_decide_eq_true h4;omega
   have e8:IntKind.i64.wrap ((i:Int)+1)=((i+1:Nat):Int):=by rw [ay (by omega) (by omega)]; rfl
   obtain ⟨x,cx,rx,px,sx,qx⟩:=gi (L:=B) (k:=i) (by omega) D9
   rw [← x9] at rx;have J5:x.p∈B:=by rw [px]; exact fA (by omega)
   have J6:B[i]?=some x.p:=by rw [px]; exact gN (by omega)
   conv=>whnf
   refine ⟨⟨by omega,by omega⟩,?_⟩
   simp only [toNat_cast,ar,Nat.zero_add];conv=>whnf
   refine ⟨by show i < m; omega,?_⟩
   conv=>whnf
   rw [rx];conv=>whnf
   refine .inl ⟨5,[[],[],[],[],[1,2,3],[0,1,2,3,4],[0,1,2,3,4,5],[0,1,2,3,4,5,6]],by kernel_rfl,?_⟩
   conv=>whnf
   obtain ⟨z,ez,pz⟩:=cZ (aW (aB a.p b.p x.p) 0);refine ⟨(a,b,x),rfl,⟨PV.aP sa (by decide),PV.aP sb (by decide),PV.aP sx (by decide)⟩,?_⟩
   rw [show np.val (a,b,x)=.int .i64 z from ez]
   conv=>whnf
   obtain ⟨w,hw⟩:∃ w,w=rC s z:=⟨_,rfl⟩;have ib:s8 s a.p b.p x.p=!w:=by unfold s8; rw [← pz,← hw]
   rcases vK with h | h | h
   ·obtain ⟨rfl,rfl⟩:=Prod.mk.inj h;refine ⟨(z:Int),rfl,trivial,?_⟩;rw [show (qY true).val z=.bool w from by rw [hw]; rfl]
    conv=>whnf
    cases w with
    | true =>
     conv=>whnf
     rw [e8];refine .inr ⟨[0,1,2,3,4,5,6,7,8,9,10,11,12,13,14,15,16,17,18,19,20],[0,1,7,8],?_⟩;conv=>whnf
     intro _;conv=>whnf
     refine ⟨_,?_,i+1,(.aa (.aa (.sk 5 (.aa (.aa (.sk 10 .nil rfl))) rfl))),rfl,rfl,?_⟩
     ·omega
     ·exact ⟨by omega,tQ hV J6 ib⟩
    | false =>
     conv=>whnf
     refine ⟨rfl,?_⟩;conv=>whnf
     rw [e7];refine .inr ⟨[0,1,2,3,4,5,6,7],[0,1,5,6,7],?_⟩;conv=>whnf
     intro _;conv=>whnf
     refine ⟨_,?_,j+1,(.aa (.aa (.sk 3 (.aa (.aa (.aa (.sk 17 .nil rfl)))) rfl))),rfl,rfl,?_⟩
     ·omega
     ·exact ⟨by omega,tQ hU eH (GP J5 ib)⟩
   ·obtain ⟨rfl,rfl⟩:=Prod.mk.inj h;refine ⟨(z:Int),rfl,trivial,?_⟩;rw [show (qY false).val z=.bool w from by rw [hw]; rfl]
    conv=>whnf
    cases w with
    | true =>
     conv=>whnf
     rw [e8];refine .inr ⟨[0,1,2,3,4,5,6,7,8,9,10,11,12,13,14,15,16,17,18,19,20],[0,1,7,8],?_⟩;conv=>whnf
     intro _;conv=>whnf
     refine ⟨_,?_,i+1,(.aa (.aa (.sk 5 (.aa (.aa (.sk 10 .nil rfl))) rfl))),rfl,rfl,?_⟩
     ·omega
     ·exact ⟨by omega,tQ hV J6 ib⟩
    | false =>
     conv=>whnf
     refine ⟨rfl,?_⟩;conv=>whnf
     rw [e7];refine .inr ⟨[0,1,2,3,4,5,6,7],[0,1,5,6,7],?_⟩;conv=>whnf
     intro _;conv=>whnf
     refine ⟨_,?_,j+1,(.aa (.aa (.sk 3 (.aa (.aa (.aa (.sk 17 .nil rfl)))) rfl))),rfl,rfl,?_⟩
     ·omega
     ·exact ⟨by omega,tQ hU eH (GP J5 ib)⟩
   ·obtain ⟨rfl,rfl⟩:=Prod.mk.inj h;refine ⟨(z:Int),rfl,trivial,?_⟩;rw [show (qY true).val z=.bool w from by rw [hw]; rfl]
    conv=>whnf
    cases w with
    | true =>
     conv=>whnf
     rw [e8];refine .inr ⟨[0,1,2,3,4,5,6,7,8,9,10,11,12,13,14,15,16,17,18,19,20],[0,1,7,8],?_⟩;conv=>whnf
     intro _;conv=>whnf
     refine ⟨_,?_,i+1,(.aa (.aa (.sk 5 (.aa (.aa (.sk 10 .nil rfl))) rfl))),rfl,rfl,?_⟩
     ·omega
     ·exact ⟨by omega,tQ hV J6 ib⟩
    | false =>
     conv=>whnf
     refine ⟨rfl,?_⟩;conv=>whnf
     rw [e7];refine .inr ⟨[0,1,2,3,4,5,6,7],[0,1,5,6,7],?_⟩;conv=>whnf
     intro _;conv=>whnf
     refine ⟨_,?_,j+1,(.aa (.aa (.sk 3 (.aa (.aa (.aa (.sk 17 .nil rfl)))) rfl))),rfl,rfl,?_⟩
     ·omega
     ·exact ⟨by omega,tQ hU eH (GP J5 ib)⟩
  ·have h4:i=m:=by
    have:=of_decide_eq_false h4;omega
   subst h4;conv=>whnf
   refine ⟨rfl,?_⟩;conv=>whnf
   refine fin (a,b) true _ ?_;rw [Wx hU eH (XL (E7 (by rw [← hm]; exact hV)))]
   show ((cA a.p,cA b.p),true)=((a,b),true)
   rw [← ca,← cb]
 ·have h3:j=n:=by
   have:=of_decide_eq_false h3;omega
  subst h3;conv=>whnf
  exact fin nG false _ (by rw [Wy hn hU]; rfl)
end Go.Proofs.YtlapbjdhekcipaaGreat
