import Derived.Test.YtlapbjdhekcipaaGreatWI
set_option linter.unusedVariables false
set_option linter.unusedSimpArgs false
set_option maxRecDepth 20000
set_option maxHeartbeats 4000000
namespace Go.Proofs.YtlapbjdhekcipaaGreat
open Go Go.Ae
def nL:Env:=En [(85,.p kS)]
theorem Db:EnvOk Tryz.prog nL:=bK ⟨Cs,trivial⟩ trivial
def xd:Nat→FT→Nu→FT:=fun l G nu=>cD { nL with ys:=[(l,G)],nu:=nu } cR Tryz.f118
theorem yD:zN Tryz.prog 118 xd:=by
 exact Pg Db aQ Tryz.func118 (enters_of Tryz.func118 (by kernel_rfl) rfl)
theorem yR:gu Tryz.prog 64 (cD nL cR Tryz.f64):=by
 exact jw Db aQ Tryz.func64 (enters_of Tryz.func64 (by kernel_rfl) rfl)
def RE:Env:=En [(56,.q fF)] [(64,cD nL cR Tryz.f64),(49,cD Eo cR Tryz.f49)] [(118,xd)]
theorem adj:EnvOk Tryz.prog RE:=bK ⟨KL,trivial⟩ ⟨yR,KK,trivial⟩
theorem abZ:iC Tryz.prog RE:=yc ⟨yD,trivial⟩
theorem B5:dq Tryz.prog 23 aV:=by
 refine eJ adj aQ Tryz.func23 (enters_of Tryz.func23 (by kernel_rfl) rfl) ?_ ?_ ?_ (hI:=abZ)
 ·intro i b hb;cases i with
  | none=>simp [aV,PL.ah] at hb
  | some i=>simp [aV,PL.ah] at hb; rw [hb]; rfl
 ·intro i b hb; simp [aV] at hb
 intro i hp;have hp:i.list.length≤1099511627776∧∀ v∈i.list,v.sz 2048:=hp;obtain ⟨hlen,bm⟩:=hp;cases i with
 | none =>
  conv=>whnf
  exact ⟨.int .i64 4,rfl,.refl _⟩
 | some i =>
  obtain ⟨L,c⟩:=i;have hlen:L.length≤1099511627776:=hlen;have bm:∀ v∈L,PV.sz 2048 v:=bm;obtain ⟨n,hn⟩:∃ n,n=L.length:=⟨_,rfl⟩;obtain ⟨g,hg⟩:∃ g,g=di L:=⟨_,rfl⟩;have fin:∀ z:Int,bh L=z→∃ v',cT (List.range 1) 3 (aV.val (some (L,c)))=some v'∧fp (.int .i64 z) v':=fun z h=>⟨.int .i64 z,by rw [← h]; rfl,.refl _⟩
  rw [show aV.ah (some (L,c))=[.flat false n 6 g] from by rw [hn,hg]; rfl,show aV.args (some (L,c))=[.slice (some ⟨0,0,none⟩) n c] from by rw [hn]; rfl]
  rw [← hn] at hlen;conv=>whnf
  by_cases h1:n < 3
  ·rw [show decide ((n:Int) < 3)=true from decide_eq_true (by omega)]
   conv=>whnf
   exact fin 4 (Cl (.inl (by omega)))
  rw [show decide ((n:Int) < 3)=false from decide_eq_false (by omega)]
  conv=>whnf
  by_cases J:64 < n
  ·rw [show decide ((n:Int) > 64)=true from decide_eq_true (by omega)]
   conv=>whnf
   exact fin 4 (Cl (.inr (by omega)))
  rw [show decide ((n:Int) > 64)=false from decide_eq_false (by omega)]
  conv=>whnf
  obtain ⟨z,hz⟩:∃ z,z=fw L:=⟨_,rfl⟩;refine ⟨some (L,c),[0],by rw [show fF.args (some (L,c))=[.slice (some ⟨0,0,none⟩) n c] from by rw [hn]; rfl]; rfl,⟨by show L.length≤_; omega,bm⟩,?_⟩
  rw [show fF.ah (some (L,c))=[.flat false n 6 g] from by rw [hn,hg]; rfl,show fF.val (some (L,c))=.bool (!z) from by rw [hz]; rfl,show fF.new (some (L,c))=none from rfl]
  conv=>whnf
  refine ⟨aD.aP (fun h=>h) (fun r hr=>by rw [hg]; rfl),?_⟩
  conv=>whnf
  refine ⟨_,rfl,?_⟩;conv=>whnf
  cases z with
  | true =>
   conv=>whnf
   exact fin 1 (N8 (by omega) hz.symm)
  | false =>
   conv=>whnf
   refine ⟨⟨by decide,by omega,by omega⟩,?_⟩
   conv=>whnf
   obtain ⟨m,hm⟩:∃ m,m=n - 1:=⟨_,rfl⟩;obtain ⟨c1,rn⟩:∃ x,x=uG c (Int.toNat 1):=⟨_,rfl⟩;rw [← rn,show Int.toNat (n:Int) - Int.toNat 1=m from hm.symm,show fa 0 (Int.toNat 1)=1 from rfl]
   have qX:fw L=false:=hz.symm;have h0:=oQ (L:=L) (k:=0) (by omega)
   have so:=bm _ (m6 (L:=L) (k:=0) (by omega))
   have po:=kq (L:=L) (k:=0) (by omega)
   obtain ⟨o,ho⟩:∃ o,o=il L 0:=⟨_,rfl⟩;rw [← ho] at h0 so po;rw [← hg] at h0;have qo:=PV.cV so (by decide)
   refine .inl ⟨fun mm tz hz=>∃ (i:Nat),bC (some (.slice (some ⟨0,1,none⟩) m c1)::some (.func (.func 73) #[] #[.pointer (some ⟨1,0,none⟩)])::aF 5 (some (.int .i64 m)::some (.int .i64 i)::aF 10 [])) tz∧hz=[some (.flat false n 6 g),some (.aS true 1 [[.slice (some ⟨0,0,none⟩) n c]]),some (.aS true 1 [[.int .i64 0]])]∧m - i=mm∧(i≤m∧xF (aL L) i),.inr ⟨[0,1,2],[0,1,7,8],?_⟩,?_⟩
   ·conv=>whnf
    intro _;conv=>whnf
    refine ⟨_,0,(.aa (.aa (.sk 5 (.aa (.aa (.sk 10 .nil rfl))) rfl))),rfl,rfl,?_⟩;exact ⟨Nat.zero_le _,K6 _⟩
   rintro mm aW _ ⟨i,aB,rfl,rfl,⟨hi,hU⟩⟩
   obtain ⟨az,rfl⟩:∃ az:Nat→Value,aW=.slice (some ⟨0,1,none⟩) m c1::.func (.func 73) #[] #[.pointer (some ⟨1,0,none⟩)]::zs az 2 5 (.int .i64 m::.int .i64 i::zs az 9 10 []):=bL aB;clear aB;conv=>whnf
   refine aN (fun h3=>?_) (fun h3=>?_)
   ·have h3:i < m:=by
     have:=of_decide_eq_true h3;omega
    have e7:IntKind.i64.wrap ((i:Int)+1)=((i+1:Nat):Int):=by rw [ax (by omega) (by omega)]; rfl
    have ra:=oQ (L:=L) (k:=i+1) (by omega)
    have sa:=bm _ (m6 (L:=L) (k:=i+1) (by omega))
    have pa:=kq (L:=L) (k:=i+1) (by omega)
    obtain ⟨a,ha⟩:∃ o,o=il L (i+1):=⟨_,rfl⟩;rw [← ha] at ra sa pa;rw [← hg] at ra;have qa:=PV.cV sa (by decide)
    conv=>whnf
    refine ⟨⟨by omega,by omega⟩,?_⟩
    simp only [toNat_cast,aA,Nat.zero_add,Nat.add_comm 1 i];conv=>whnf
    refine ⟨by show i+1 < n; omega,?_⟩
    conv=>whnf
    rw [ra];conv=>whnf
    refine .inl ⟨4,[[],[],[1],[1,2],[0,1,2,3],[0,1,2,3,4],[0,1,2,3,4,5]],by kernel_rfl,?_⟩
    conv=>whnf
    have z7:g (Int.toNat 0)=o.cells:=h0;refine ⟨⟨by omega,by omega⟩,?_⟩
    simp only [toNat_cast,aA,Nat.zero_add];conv=>whnf
    refine ⟨by show 0 < n; omega,?_⟩
    conv=>whnf
    rw [z7];conv=>whnf
    obtain ⟨z,ez,pz⟩:=fc (fR a.p o.p);refine ⟨(a,o),rfl,⟨PV.aX sa (by decide),PV.aX so (by decide)⟩,?_⟩
    rw [show pf.val (a,o)=.int .i64 z from ez]
    conv=>whnf
    rw [pa,po] at pz;by_cases h4:fK (au (aL L) 0) (au (aL L) (i+1))
    ·have:=OV.1 h4;rw [show decide (z≤0)=false from decide_eq_false (by omega)]
     conv=>whnf
     rw [e7];refine .inr ⟨[0,1,2],[0,1,7,8],?_⟩;conv=>whnf
     intro _;conv=>whnf
     refine ⟨_,?_,i+1,(.aa (.aa (.sk 5 (.aa (.aa (.sk 10 .nil rfl))) rfl))),rfl,rfl,?_⟩
     ·omega
     ·exact ⟨by omega,LO hU h4⟩
    ·have:¬ 0 < fR (au (aL L) (i+1)) (au (aL L) 0):=fun e=>h4 (OV.2 e)
     rw [show decide (z≤0)=true from decide_eq_true (by omega)]
     conv=>whnf
     exact fin 8 (N9 (by omega) qX fun e=>h4 (e (i+1) (by omega) (by rw [cm]; omega)))
   ·have h3:i=m:=by
     have:=of_decide_eq_false h3;omega
    have oe:=MB hU (by rw [cm]; omega)
    have yf:3≤(aL L).length:=by rw [cm]; omega
    conv=>whnf
    intro yl nu fn tm df;conv=>whnf
    skip
    refine .inl ⟨fun mm tz hz=>∃ (j:Nat),bC (some (.func (.yield yl) #[] #[])::some (.pointer (some ⟨3,0,none⟩))::aF 3 (some (.slice (some ⟨0,0,none⟩) n c)::some (.int .i64 n)::some (.int .i64 j)::aF 17 [])) tz∧hz=[some (.flat false n 6 g),some (.aS true 1 [[.slice (some ⟨0,0,none⟩) n c]]),some (.aS true 1 [[.int .i64 0]]),some (.aS true 1 [[.slice (some ⟨0,0,none⟩) n c]]),some (.cj (sT Tryz.f23 fn tm df))]∧n - j=mm∧(j≤n∧∀ k,k < j→¬ zh (aL L) k),.inr ⟨[0,1,2,3,4],[0,1,5,6,7],?_⟩,?_⟩
    ·conv=>whnf
     intro _;conv=>whnf
     refine ⟨_,0,(.aa (.aa (.sk 3 (.aa (.aa (.aa (.sk 17 .nil rfl)))) rfl))),rfl,rfl,?_⟩;exact ⟨Nat.zero_le _,fun k hk=>absurd hk (Nat.not_lt_zero k)⟩
    rintro mm aW _ ⟨j,aB,rfl,rfl,⟨hj,hB⟩⟩
    obtain ⟨az,rfl⟩:∃ az:Nat→Value,aW=.func (.yield yl) #[] #[]::.pointer (some ⟨3,0,none⟩)::zs az 2 3 (.slice (some ⟨0,0,none⟩) n c::.int .i64 n::.int .i64 j::zs az 8 17 []):=bL aB;clear aB;conv=>whnf
    refine aN (fun h3=>?_) (fun h3=>?_)
    ·have h3:j < n:=by
      have:=of_decide_eq_true h3;omega
     have e7:IntKind.i64.wrap ((j:Int)+1)=((j+1:Nat):Int):=by rw [ax (by omega) (by omega)]; rfl
     obtain ⟨a,b,ra,rb,⟨ma,mb⟩,_,cL,ha,hb⟩:=wF hn h3;have sa:=bm a ma;have sb:=bm b mb;have c7:=mC h3 (by omega)
     obtain ⟨u,hu⟩:∃ u,u=aZ n j:=⟨_,rfl⟩;rw [← hu] at c7 cL rb;rw [← hg] at ra rb;conv=>whnf
     refine ⟨⟨by omega,by omega⟩,?_⟩
     simp only [toNat_cast,aA,Nat.zero_add];conv=>whnf
     refine ⟨by show j < n; omega,?_⟩
     conv=>whnf
     rw [ra];conv=>whnf
     refine .inl ⟨10,[[],[],[],[],[3],[],[5],[3,4,5,6],[2,3,4,5,6,7],[2,3,4,5,6,7,8],[0,1,2,3,4,5,6,7,8,9],[0,1,2,3,4,5,6,7,8,9,10]],by kernel_rfl,?_⟩
     conv=>whnf
     rw [show decide ((n:Int)≠0)=true from decide_eq_true (by omega)]
     conv=>whnf
     rw [c7];refine ⟨⟨by omega,by omega⟩,?_⟩
     simp only [toNat_cast,aA,Nat.zero_add];conv=>whnf
     refine ⟨by show u < n; omega,?_⟩
     conv=>whnf
     rw [rb];conv=>whnf
     refine ⟨rfl,?_⟩;conv=>whnf
     refine ⟨rfl,?_⟩;conv=>whnf
     refine ⟨rfl,?_⟩;conv=>whnf
     refine .inl ⟨fun mm tz hz=>∃ (i:Nat),bC (some (.slice (some ⟨0,0,none⟩) n c)::some (.func (.func 75) #[] #[.pointer (some ⟨16,0,none⟩),.pointer (some ⟨17,0,none⟩)])::aF 5 (some (.int .i64 n)::some (.int .i64 i)::aF 10 [])) tz∧hz=[some (.flat false n 6 g),some (.aS true 1 [[.slice (some ⟨0,0,none⟩) n c]]),some (.aS true 1 [[.int .i64 0]]),some (.aS true 1 [[.slice (some ⟨0,0,none⟩) n c]]),some (.cj { sT Tryz.f23 fn tm df with state:=.busy }),some (.aS true 6 [a.cells]),none,none,none,none,none,none,none,none,none,none,some (.aS true 6 [a.cells]),some (.aS true 6 [b.cells])]∧n - i=mm∧(i≤n∧nV (sX a b) L i),.inr ⟨[0,1,2,3,4,5,6,7,8,9,10,11,12,13,14,15,16,17],[0,1,7,8],?_⟩,?_⟩
     ·conv=>whnf
      intro _;conv=>whnf
      refine ⟨_,0,(.aa (.aa (.sk 5 (.aa (.aa (.sk 10 .nil rfl))) rfl))),rfl,rfl,?_⟩;exact ⟨Nat.zero_le _,EL _ _⟩
     rintro mm aW _ ⟨i,aB,rfl,rfl,⟨hi,hU⟩⟩
     obtain ⟨az,rfl⟩:∃ az:Nat→Value,aW=.slice (some ⟨0,0,none⟩) n c::.func (.func 75) #[] #[.pointer (some ⟨16,0,none⟩),.pointer (some ⟨17,0,none⟩)]::zs az 2 5 (.int .i64 n::.int .i64 i::zs az 9 10 []):=bL aB;clear aB;conv=>whnf
     refine aN (fun h4=>?_) (fun h4=>?_)
     ·have h4:i < n:=by
       have:=of_decide_eq_true h4;omega
      have e8:IntKind.i64.wrap ((i:Int)+1)=((i+1:Nat):Int):=by rw [ax (by omega) (by omega)]; rfl
      obtain ⟨p,lh,vK,a8⟩:=rS (l:=L) (i:=i) (by omega)
      rw [← hg] at a8;conv=>whnf
      refine ⟨⟨by omega,by omega⟩,?_⟩
      simp only [toNat_cast,aA,Nat.zero_add];conv=>whnf
      refine ⟨by show i < n; omega,?_⟩
      conv=>whnf
      rw [a8];conv=>whnf
      obtain ⟨z,hz⟩:∃ z,z=sX a b p:=⟨_,rfl⟩;refine ⟨(a,b,p),[16,17],rfl,⟨sa,sb,bm p vK⟩,?_⟩;rw [show sJ.ah (a,b,p)=[.flat false 1 6 (fun _=>a.cells),.flat false 1 6 (fun _=>b.cells)] from rfl,show sJ.val (a,b,p)=.bool z from by rw [hz]; rfl,show sJ.new (a,b,p)=none from rfl]
      conv=>whnf
      refine ⟨N4 a,N4 b,?_⟩;conv=>whnf
      refine ⟨_,rfl,?_⟩;conv=>whnf
      cases z with
      | false =>
       conv=>whnf
       rw [e8];refine .inr ⟨[0,1,2,3,4,5,6,7,8,9,10,11,12,13,14,15,16,17],[0,1,7,8],?_⟩;conv=>whnf
       intro _;conv=>whnf
       refine ⟨_,?_,i+1,(.aa (.aa (.sk 5 (.aa (.aa (.sk 10 .nil rfl))) rfl))),rfl,rfl,?_⟩
       ·omega
       ·exact ⟨by omega,tU hU lh hz.symm⟩
      | true =>
       conv=>whnf
       refine ⟨rfl,?_⟩;conv=>whnf
       exact fin 15 (GP (by omega) qX oe fun e=>(Nk yf oe).1 e j (by rw [cm]; omega) (XI qX (by omega) ha (hb.trans (by rw [hn])) vK hz.symm))
     ·have h4:i=n:=by
       have:=of_decide_eq_false h4;omega
      subst h4;conv=>whnf
      refine ⟨rfl,?_⟩;conv=>whnf
      rw [e7];refine .inr ⟨[0,1,2,3,4],[0,1,5,6,7],?_⟩;conv=>whnf
      intro _;conv=>whnf
      refine ⟨_,?_,j+1,(.aa (.aa (.sk 3 (.aa (.aa (.aa (.sk 17 .nil rfl)))) rfl))),rfl,rfl,?_⟩
      ·omega
      ·refine ⟨by omega,fun k hk=>?_⟩
       rcases Nat.lt_or_eq_of_le (Nat.le_of_lt_succ hk) with e | e
       ·exact hB k e
       ·subst e;exact aav (by omega) ha (hb.trans (by rw [hn])) (Fg (by rw [← hn]; exact hU))
    ·have h3:j=n:=by
      have:=of_decide_eq_false h3;omega
     subst h3;conv=>whnf
     exact fin 0 (Nm (by omega) qX oe ((Nk yf oe).2 fun k hk=>hB k (by rw [cm] at hk; omega)))
open Go Go.Ae
open Go Go.Ae
theorem ab0:bk Tryz.prog 110 vp:=by
 refine bn qM aQ Tryz.func110 (enters_of Tryz.func110 (by kernel_rfl) rfl) (fun _=>rfl) (fun _=>rfl) ?_
 intro ⟨a,b,p⟩ hp;conv=>whnf
 rw [Dv b p];by_cases h:b=p
 ·rw [decide_eq_true h,show vp.val (a,b,p)=.bool false from congrArg Value.bool (decide_eq_false fun e=>e h)]; rfl
 ·rw [decide_eq_false h,show vp.val (a,b,p)=.bool true from congrArg Value.bool (decide_eq_true h)]; rfl
theorem ab1:bk Tryz.prog 111 vr:=by
 refine bn qM aQ Tryz.func111 (enters_of Tryz.func111 (by kernel_rfl) rfl) (fun _=>rfl) (fun _=>rfl) ?_
 intro ⟨a,b,p⟩ hp;have hp:a.sz 1048576∧b.sz 1048576∧p.sz 1048576:=hp;obtain ⟨sa,sb,sp⟩:=hp;conv=>whnf
 obtain ⟨z,ez,pz⟩:=fc (ba (ao a.p b.p p.p) 0);refine ⟨(a,b,p),rfl,⟨PV.aX sa (by decide),PV.aX sb (by decide),PV.aX sp (by decide)⟩,?_⟩
 rw [show nP.val (a,b,p)=.int .i64 z from ez]
 conv=>whnf
 by_cases h:z=0
 ·rw [show vr.val (a,b,p)=.bool false from congrArg Value.bool (decide_eq_false fun e=>e (by rw [← pz]; exact h)),show (z != 0)=false from by simp [h]]
 ·rw [show vr.val (a,b,p)=.bool true from congrArg Value.bool (decide_eq_true (by rw [← pz]; exact h)),show (z != 0)=true from by simp [h]]
def Ex1:Env:=En [(110,.p vp),(111,.p vr)]
theorem adk:EnvOk Tryz.prog Ex1:=bK ⟨ab0,ab1,trivial⟩ trivial
theorem ZM:dq Tryz.prog 109 (kt 110 111):=by
 refine eJ adk aQ Tryz.func109 (enters_of Tryz.func109 (by kernel_rfl) rfl) ?_ ?_ ?_
 ·intro ⟨i,b⟩ B hb;cases i with
  | none=>simp [kt,QL.ah] at hb
  | some i=>simp [kt,QL.ah] at hb; rw [hb]; rfl
 ·intro i B hb;exact yO hb
 intro ⟨i,b⟩ hp;have hp:i.list.length≤549755813888∧∀ v∈i.list,Q2.sz 262144 v:=hp;obtain ⟨hlen,bm⟩:=hp;cases i with
 | none =>
  cases b <;> (conv=>whnf) <;> refine .inr ⟨1,?_⟩ <;> (conv=>whnf) <;> exact ⟨_,rfl,.refl _⟩
 | some i =>
  obtain ⟨L,c⟩:=i;have hlen:L.length≤549755813888:=hlen;have bm:∀ v∈L,Q2.sz 262144 v:=bm;obtain ⟨n,hn⟩:∃ n,n=L.length:=⟨_,rfl⟩;obtain ⟨g,hg⟩:∃ g,g=bI L:=⟨_,rfl⟩;cases b with
  | false =>
   rw [show (kt 110 111).ah (some (L,c),false)=[.flat false n 6 g] from by rw [hn,hg]; rfl,show (kt 110 111).args (some (L,c),false)=[.slice (some ⟨0,0,none⟩) n c,.func (.func 110) #[] #[]] from by rw [hn]; rfl]
   rw [← hn] at hlen;conv=>whnf
   refine .inl ⟨fun mm tz hz=>∃ (j:Nat) (O:List Q2) (q:Nat) (F:Nat→List Value),bC (some (.slice (some ⟨0,0,none⟩) n c)::some (.func (.func 110) #[] #[])::aF 3 (some (cW 1 q)::aF 2 (some (.slice (some ⟨0,0,none⟩) n c)::some (.int .i64 n)::some (.int .i64 j)::aF 32 []))) tz∧hz=[some (.flat false n 6 g)]++xO 6 F q∧n - j=mm∧((j≤n∧q=O.length)∧O=qL L j∧(∀ r,r < q→F r=bI O r)),.inr ⟨[0],[0,1,5,8,9,10],?_⟩,?_⟩
   ·conv=>whnf
    intro _;conv=>whnf
    refine ⟨_,0,[],0,fun _=>[],(.aa (.aa (.sk 3 (.aa (.sk 2 (.aa (.aa (.aa (.sk 32 .nil rfl)))) rfl)) rfl))),rfl,rfl,?_⟩
    exact ⟨⟨Nat.zero_le _,rfl⟩,rfl,fun r hr=>absurd hr (Nat.not_lt_zero r)⟩
   rintro mm aW _ ⟨j,O,q,F,aB,rfl,rfl,⟨⟨hj,hq⟩,hO,hF⟩⟩
   obtain ⟨az,rfl⟩:∃ az:Nat→Value,aW=.slice (some ⟨0,0,none⟩) n c::.func (.func 110) #[] #[]::zs az 2 3 (cW 1 q::zs az 6 2 (.slice (some ⟨0,0,none⟩) n c::.int .i64 n::.int .i64 j::zs az 11 32 [])):=bL aB;clear aB;have tI:=Wv L j;rw [← hO,← hq] at tI;cases q with
   | zero =>
    obtain rfl:O=[]:=List.eq_nil_of_length_eq_zero hq.symm;conv=>whnf
    refine aN (fun h1=>?_) (fun h1=>?_)
    ·have h1:j < n:=by
      have:=of_decide_eq_true h1;omega
     have e7:IntKind.i64.wrap ((j:Int)+1)=((j+1:Nat):Int):=by rw [ax (by omega) (by omega)]; rfl
     obtain ⟨a,ca,ra,pa,sa,qa⟩:=iA (L:=L) (k:=dB n j) (by rw [← hn]; exact ju h1) bm
     obtain ⟨b,cb,rb,pb,sb,qb⟩:=iA (L:=L) (k:=j) (by omega) bm
     obtain ⟨d,cd,rd,pd,sd,qd⟩:=iA (L:=L) (k:=aZ n j) (by rw [← hn]; exact cJ h1) bm
     rw [← hg] at ra rb rd;have mg:=C7 h1 (by omega)
     have c7:=mC h1 (by omega)
     have lh:dB n j < n:=ju h1;have cL:=cJ h1;obtain ⟨u,hu⟩:∃ u,u=dB n j:=⟨_,rfl⟩;obtain ⟨w,hw⟩:∃ u,u=aZ n j:=⟨_,rfl⟩;rw [← hu] at mg lh ra;rw [← hw] at c7 cL rd;conv=>whnf
     refine ⟨⟨by omega,by omega⟩,?_⟩
     simp only [toNat_cast,aA,Nat.zero_add];conv=>whnf
     refine ⟨by show j < n; omega,?_⟩
     conv=>whnf
     rw [rb];conv=>whnf
     refine .inl ⟨21,[[],[],[],[],[3],[2,3,4],[2,3,4,5],[],[7],[2,3,4,5,6,7,8],[1,2,3,4,5,6,7,8,9],[1,2,3,4,5,6,7,8,9,10],[],[],[],[14],[],[16],[14,15,16,17],[13,14,15,16,17,18],[13,14,15,16,17,18,19],[0,1,2,3,4,5,6,7,8,9,10,11,12,13,14,15,16,17,18,19,20]],by kernel_rfl,?_⟩
     conv=>whnf
     rw [show decide ((n:Int)≠0)=true from decide_eq_true (by omega)]
     conv=>whnf
     rw [mg];refine ⟨⟨by omega,by omega⟩,?_⟩
     simp only [toNat_cast,aA,Nat.zero_add];conv=>whnf
     refine ⟨by show u < n; omega,?_⟩
     conv=>whnf
     rw [ra];conv=>whnf
     rw [show decide ((n:Int)≠0)=true from decide_eq_true (by omega)]
     conv=>whnf
     rw [c7];refine ⟨⟨by omega,by omega⟩,?_⟩
     simp only [toNat_cast,aA,Nat.zero_add];conv=>whnf
     refine ⟨by show w < n; omega,?_⟩
     conv=>whnf
     rw [rd];conv=>whnf
     obtain ⟨z,hz,aw⟩:=Nn hn h1 pa cb cd;rw [← hO] at aw;refine ⟨(a,b,d),rfl,⟨PV.aX sa (by decide),PV.aX sb (by decide),PV.aX sd (by decide)⟩,?_⟩
     rw [show vp.val (a,b,d)=.bool z from hz]
     conv=>whnf
     cases z with
     | false =>
      conv=>whnf
      rw [e7];refine .inr ⟨[0],[0,1,5,8,9,10],?_⟩;conv=>whnf
      intro _;conv=>whnf
      refine ⟨_,?_,j+1,[],0,F,(.aa (.aa (.sk 3 (.aa (.sk 2 (.aa (.aa (.aa (.sk 32 .nil rfl)))) rfl)) rfl))),rfl,rfl,?_⟩
      ·omega
      ·exact ⟨⟨by omega,rfl⟩,by rw [aw]; rfl,hF⟩
     | true =>
      conv=>whnf
      refine ⟨by show (0+1)*80≤140737488355328; decide,?_⟩
      conv=>whnf
      rw [e7];refine .inr ⟨[0,24],[0,1,5,8,9,10],?_⟩;conv=>whnf
      intro _;conv=>whnf
      refine ⟨_,?_,j+1,[au L j],1,_,(.aa (.aa (.sk 3 (.aa (.sk 2 (.aa (.aa (.aa (.sk 32 .nil rfl)))) rfl)) rfl))),rfl,rfl,?_⟩
      ·omega
      ·exact ⟨⟨by omega,rfl⟩,by rw [aw]; rfl,um cb rfl⟩
    ·have h1:j=n:=by
      have:=of_decide_eq_false h1;omega
     subst h1;have hE:gL L=[]:=by rw [hO,hn]; exact (MC L).symm
     conv=>whnf
     rw [show (kt 110 111).new (some (L,c),false)=none from by show cl (gL L)=none; rw [hE]; rfl]
     exact ⟨.slice none 0 0,by rw [show (kt 110 111).val (some (L,c),false)=.slice none 0 0 from by show cW _ (gL L).length=_; rw [hE]; rfl]; rfl,.refl _⟩
   | succ q =>
    conv=>whnf
    refine aN (fun h1=>?_) (fun h1=>?_)
    ·have h1:j < n:=by
      have:=of_decide_eq_true h1;omega
     have e7:IntKind.i64.wrap ((j:Int)+1)=((j+1:Nat):Int):=by rw [ax (by omega) (by omega)]; rfl
     obtain ⟨a,ca,ra,pa,sa,qa⟩:=iA (L:=L) (k:=dB n j) (by rw [← hn]; exact ju h1) bm
     obtain ⟨b,cb,rb,pb,sb,qb⟩:=iA (L:=L) (k:=j) (by omega) bm
     obtain ⟨d,cd,rd,pd,sd,qd⟩:=iA (L:=L) (k:=aZ n j) (by rw [← hn]; exact cJ h1) bm
     rw [← hg] at ra rb rd;have mg:=C7 h1 (by omega)
     have c7:=mC h1 (by omega)
     have lh:dB n j < n:=ju h1;have cL:=cJ h1;obtain ⟨u,hu⟩:∃ u,u=dB n j:=⟨_,rfl⟩;obtain ⟨w,hw⟩:∃ u,u=aZ n j:=⟨_,rfl⟩;rw [← hu] at mg lh ra;rw [← hw] at c7 cL rd;conv=>whnf
     refine ⟨⟨by omega,by omega⟩,?_⟩
     simp only [toNat_cast,aA,Nat.zero_add];conv=>whnf
     refine ⟨by show j < n; omega,?_⟩
     conv=>whnf
     rw [rb];conv=>whnf
     refine .inl ⟨21,[[],[],[],[],[3],[2,3,4],[2,3,4,5],[],[7],[2,3,4,5,6,7,8],[1,2,3,4,5,6,7,8,9],[1,2,3,4,5,6,7,8,9,10],[],[],[],[14],[],[16],[14,15,16,17],[13,14,15,16,17,18],[13,14,15,16,17,18,19],[0,1,2,3,4,5,6,7,8,9,10,11,12,13,14,15,16,17,18,19,20]],by kernel_rfl,?_⟩
     conv=>whnf
     rw [show decide ((n:Int)≠0)=true from decide_eq_true (by omega)]
     conv=>whnf
     rw [mg];refine ⟨⟨by omega,by omega⟩,?_⟩
     simp only [toNat_cast,aA,Nat.zero_add];conv=>whnf
     refine ⟨by show u < n; omega,?_⟩
     conv=>whnf
     rw [ra];conv=>whnf
     rw [show decide ((n:Int)≠0)=true from decide_eq_true (by omega)]
     conv=>whnf
     rw [c7];refine ⟨⟨by omega,by omega⟩,?_⟩
     simp only [toNat_cast,aA,Nat.zero_add];conv=>whnf
     refine ⟨by show w < n; omega,?_⟩
     conv=>whnf
     rw [rd];conv=>whnf
     obtain ⟨z,hz,aw⟩:=Nn hn h1 pa cb cd;rw [← hO] at aw;refine ⟨(a,b,d),rfl,⟨PV.aX sa (by decide),PV.aX sb (by decide),PV.aX sd (by decide)⟩,?_⟩
     rw [show vp.val (a,b,d)=.bool z from hz]
     conv=>whnf
     cases z with
     | false =>
      conv=>whnf
      rw [e7];refine .inr ⟨[0,1],[0,1,5,8,9,10],?_⟩;conv=>whnf
      intro _;conv=>whnf
      refine ⟨_,?_,j+1,O,q+1,F,(.aa (.aa (.sk 3 (.aa (.sk 2 (.aa (.aa (.aa (.sk 32 .nil rfl)))) rfl)) rfl))),rfl,rfl,?_⟩
      ·omega
      ·exact ⟨⟨by omega,hq⟩,by rw [aw]; simp,hF⟩
     | true =>
      conv=>whnf
      refine ⟨⟨by show 1≤1; decide,rfl,by show (q+1+1)*80≤140737488355328; omega⟩,?_⟩
      conv=>whnf
      refine ⟨[0,1,8,9,10],?_⟩;conv=>whnf
      intro _;conv=>whnf
      rw [e7];refine .inr ⟨[0,1],[0,1,5,8,9,10],?_⟩;conv=>whnf
      intro _;conv=>whnf
      refine ⟨_,?_,j+1,O++[au L j],q+1+1,_,(.aa (.aa (.sk 3 (.aa (.sk 2 (.aa (.aa (.aa (.sk 32 .nil rfl)))) rfl)) rfl))),rfl,rfl,?_⟩
      ·omega
      ·exact ⟨⟨by omega,by rw [List.length_append,← hq]; rfl⟩,by rw [aw]; simp,p5 hq hF cb rfl⟩
    ·have h1:j=n:=by
      have:=of_decide_eq_false h1;omega
     subst h1;have hE:gL L=O:=by rw [hO,hn]; exact (MC L).symm
     conv=>whnf
     rw [show (kt 110 111).new (some (L,c),false)=some (.flat true (q+1) 6 (bI O)) from by show cl (gL L)=_; rw [hE]; unfold cl; rw [← hq],show (kt 110 111).val (some (L,c),false)=.slice (some ⟨1,0,none⟩) (q+1) aO from by show cW _ (gL L).length=_; rw [hE,← hq]; rfl]
     refine ⟨1,?_⟩;conv=>whnf
     exact ⟨⟨rfl,aD.pW (fun h=>h) hF (fun r hr=>rfl)⟩,_,rfl,.refl _⟩
  | true =>
   rw [show (kt 110 111).ah (some (L,c),true)=[.flat false n 6 g] from by rw [hn,hg]; rfl,show (kt 110 111).args (some (L,c),true)=[.slice (some ⟨0,0,none⟩) n c,.func (.func 111) #[] #[]] from by rw [hn]; rfl]
   rw [← hn] at hlen;conv=>whnf
   refine .inl ⟨fun mm tz hz=>∃ (j:Nat) (O:List Q2) (q:Nat) (F:Nat→List Value),bC (some (.slice (some ⟨0,0,none⟩) n c)::some (.func (.func 111) #[] #[])::aF 3 (some (cW 1 q)::aF 2 (some (.slice (some ⟨0,0,none⟩) n c)::some (.int .i64 n)::some (.int .i64 j)::aF 32 []))) tz∧hz=[some (.flat false n 6 g)]++xO 6 F q∧n - j=mm∧((j≤n∧q=O.length)∧O=sL L j∧(∀ r,r < q→F r=bI O r)),.inr ⟨[0],[0,1,5,8,9,10],?_⟩,?_⟩
   ·conv=>whnf
    intro _;conv=>whnf
    refine ⟨_,0,[],0,fun _=>[],(.aa (.aa (.sk 3 (.aa (.sk 2 (.aa (.aa (.aa (.sk 32 .nil rfl)))) rfl)) rfl))),rfl,rfl,?_⟩
    exact ⟨⟨Nat.zero_le _,rfl⟩,rfl,fun r hr=>absurd hr (Nat.not_lt_zero r)⟩
   rintro mm aW _ ⟨j,O,q,F,aB,rfl,rfl,⟨⟨hj,hq⟩,hO,hF⟩⟩
   obtain ⟨az,rfl⟩:∃ az:Nat→Value,aW=.slice (some ⟨0,0,none⟩) n c::.func (.func 111) #[] #[]::zs az 2 3 (cW 1 q::zs az 6 2 (.slice (some ⟨0,0,none⟩) n c::.int .i64 n::.int .i64 j::zs az 11 32 [])):=bL aB;clear aB;have tI:=Ww L j;rw [← hO,← hq] at tI;cases q with
   | zero =>
    obtain rfl:O=[]:=List.eq_nil_of_length_eq_zero hq.symm;conv=>whnf
    refine aN (fun h1=>?_) (fun h1=>?_)
    ·have h1:j < n:=by
      have:=of_decide_eq_true h1;omega
     have e7:IntKind.i64.wrap ((j:Int)+1)=((j+1:Nat):Int):=by rw [ax (by omega) (by omega)]; rfl
     obtain ⟨a,ca,ra,pa,sa,qa⟩:=iA (L:=L) (k:=dB n j) (by rw [← hn]; exact ju h1) bm
     obtain ⟨b,cb,rb,pb,sb,qb⟩:=iA (L:=L) (k:=j) (by omega) bm
     obtain ⟨d,cd,rd,pd,sd,qd⟩:=iA (L:=L) (k:=aZ n j) (by rw [← hn]; exact cJ h1) bm
     rw [← hg] at ra rb rd;have mg:=C7 h1 (by omega)
     have c7:=mC h1 (by omega)
     have lh:dB n j < n:=ju h1;have cL:=cJ h1;obtain ⟨u,hu⟩:∃ u,u=dB n j:=⟨_,rfl⟩;obtain ⟨w,hw⟩:∃ u,u=aZ n j:=⟨_,rfl⟩;rw [← hu] at mg lh ra;rw [← hw] at c7 cL rd;conv=>whnf
     refine ⟨⟨by omega,by omega⟩,?_⟩
     simp only [toNat_cast,aA,Nat.zero_add];conv=>whnf
     refine ⟨by show j < n; omega,?_⟩
     conv=>whnf
     rw [rb];conv=>whnf
     refine .inl ⟨21,[[],[],[],[],[3],[2,3,4],[2,3,4,5],[],[7],[2,3,4,5,6,7,8],[1,2,3,4,5,6,7,8,9],[1,2,3,4,5,6,7,8,9,10],[],[],[],[14],[],[16],[14,15,16,17],[13,14,15,16,17,18],[13,14,15,16,17,18,19],[0,1,2,3,4,5,6,7,8,9,10,11,12,13,14,15,16,17,18,19,20]],by kernel_rfl,?_⟩
     conv=>whnf
     rw [show decide ((n:Int)≠0)=true from decide_eq_true (by omega)]
     conv=>whnf
     rw [mg];refine ⟨⟨by omega,by omega⟩,?_⟩
     simp only [toNat_cast,aA,Nat.zero_add];conv=>whnf
     refine ⟨by show u < n; omega,?_⟩
     conv=>whnf
     rw [ra];conv=>whnf
     rw [show decide ((n:Int)≠0)=true from decide_eq_true (by omega)]
     conv=>whnf
     rw [c7];refine ⟨⟨by omega,by omega⟩,?_⟩
     simp only [toNat_cast,aA,Nat.zero_add];conv=>whnf
     refine ⟨by show w < n; omega,?_⟩
     conv=>whnf
     rw [rd];conv=>whnf
     obtain ⟨z,hz,aw⟩:=No hn h1 pa cb cd;rw [← hO] at aw;refine ⟨(a,b,d),rfl,⟨PV.aX sa (by decide),PV.aX sb (by decide),PV.aX sd (by decide)⟩,?_⟩
     rw [show vr.val (a,b,d)=.bool z from hz]
     conv=>whnf
     cases z with
     | false =>
      conv=>whnf
      rw [e7];refine .inr ⟨[0],[0,1,5,8,9,10],?_⟩;conv=>whnf
      intro _;conv=>whnf
      refine ⟨_,?_,j+1,[],0,F,(.aa (.aa (.sk 3 (.aa (.sk 2 (.aa (.aa (.aa (.sk 32 .nil rfl)))) rfl)) rfl))),rfl,rfl,?_⟩
      ·omega
      ·exact ⟨⟨by omega,rfl⟩,by rw [aw]; rfl,hF⟩
     | true =>
      conv=>whnf
      refine ⟨by show (0+1)*80≤140737488355328; decide,?_⟩
      conv=>whnf
      rw [e7];refine .inr ⟨[0,24],[0,1,5,8,9,10],?_⟩;conv=>whnf
      intro _;conv=>whnf
      refine ⟨_,?_,j+1,[au L j],1,_,(.aa (.aa (.sk 3 (.aa (.sk 2 (.aa (.aa (.aa (.sk 32 .nil rfl)))) rfl)) rfl))),rfl,rfl,?_⟩
      ·omega
      ·exact ⟨⟨by omega,rfl⟩,by rw [aw]; rfl,um cb rfl⟩
    ·have h1:j=n:=by
      have:=of_decide_eq_false h1;omega
     subst h1;have hE:jL L=[]:=by rw [hO,hn]; exact (MD L).symm
     conv=>whnf
     rw [show (kt 110 111).new (some (L,c),true)=none from by show cl (jL L)=none; rw [hE]; rfl]
     exact ⟨.slice none 0 0,by rw [show (kt 110 111).val (some (L,c),true)=.slice none 0 0 from by show cW _ (jL L).length=_; rw [hE]; rfl]; rfl,.refl _⟩
   | succ q =>
    conv=>whnf
    refine aN (fun h1=>?_) (fun h1=>?_)
    ·have h1:j < n:=by
      have:=of_decide_eq_true h1;omega
     have e7:IntKind.i64.wrap ((j:Int)+1)=((j+1:Nat):Int):=by rw [ax (by omega) (by omega)]; rfl
     obtain ⟨a,ca,ra,pa,sa,qa⟩:=iA (L:=L) (k:=dB n j) (by rw [← hn]; exact ju h1) bm
     obtain ⟨b,cb,rb,pb,sb,qb⟩:=iA (L:=L) (k:=j) (by omega) bm
     obtain ⟨d,cd,rd,pd,sd,qd⟩:=iA (L:=L) (k:=aZ n j) (by rw [← hn]; exact cJ h1) bm
     rw [← hg] at ra rb rd;have mg:=C7 h1 (by omega)
     have c7:=mC h1 (by omega)
     have lh:dB n j < n:=ju h1;have cL:=cJ h1;obtain ⟨u,hu⟩:∃ u,u=dB n j:=⟨_,rfl⟩;obtain ⟨w,hw⟩:∃ u,u=aZ n j:=⟨_,rfl⟩;rw [← hu] at mg lh ra;rw [← hw] at c7 cL rd;conv=>whnf
     refine ⟨⟨by omega,by omega⟩,?_⟩
     simp only [toNat_cast,aA,Nat.zero_add];conv=>whnf
     refine ⟨by show j < n; omega,?_⟩
     conv=>whnf
     rw [rb];conv=>whnf
     refine .inl ⟨21,[[],[],[],[],[3],[2,3,4],[2,3,4,5],[],[7],[2,3,4,5,6,7,8],[1,2,3,4,5,6,7,8,9],[1,2,3,4,5,6,7,8,9,10],[],[],[],[14],[],[16],[14,15,16,17],[13,14,15,16,17,18],[13,14,15,16,17,18,19],[0,1,2,3,4,5,6,7,8,9,10,11,12,13,14,15,16,17,18,19,20]],by kernel_rfl,?_⟩
     conv=>whnf
     rw [show decide ((n:Int)≠0)=true from decide_eq_true (by omega)]
     conv=>whnf
     rw [mg];refine ⟨⟨by omega,by omega⟩,?_⟩
     simp only [toNat_cast,aA,Nat.zero_add];conv=>whnf
     refine ⟨by show u < n; omega,?_⟩
     conv=>whnf
     rw [ra];conv=>whnf
     rw [show decide ((n:Int)≠0)=true from decide_eq_true (by omega)]
     conv=>whnf
     rw [c7];refine ⟨⟨by omega,by omega⟩,?_⟩
     simp only [toNat_cast,aA,Nat.zero_add];conv=>whnf
     refine ⟨by show w < n; omega,?_⟩
     conv=>whnf
     rw [rd];conv=>whnf
     obtain ⟨z,hz,aw⟩:=No hn h1 pa cb cd;rw [← hO] at aw;refine ⟨(a,b,d),rfl,⟨PV.aX sa (by decide),PV.aX sb (by decide),PV.aX sd (by decide)⟩,?_⟩
     rw [show vr.val (a,b,d)=.bool z from hz]
     conv=>whnf
     cases z with
     | false =>
      conv=>whnf
      rw [e7];refine .inr ⟨[0,1],[0,1,5,8,9,10],?_⟩;conv=>whnf
      intro _;conv=>whnf
      refine ⟨_,?_,j+1,O,q+1,F,(.aa (.aa (.sk 3 (.aa (.sk 2 (.aa (.aa (.aa (.sk 32 .nil rfl)))) rfl)) rfl))),rfl,rfl,?_⟩
      ·omega
      ·exact ⟨⟨by omega,hq⟩,by rw [aw]; simp,hF⟩
     | true =>
      conv=>whnf
      refine ⟨⟨by show 1≤1; decide,rfl,by show (q+1+1)*80≤140737488355328; omega⟩,?_⟩
      conv=>whnf
      refine ⟨[0,1,8,9,10],?_⟩;conv=>whnf
      intro _;conv=>whnf
      rw [e7];refine .inr ⟨[0,1],[0,1,5,8,9,10],?_⟩;conv=>whnf
      intro _;conv=>whnf
      refine ⟨_,?_,j+1,O++[au L j],q+1+1,_,(.aa (.aa (.sk 3 (.aa (.sk 2 (.aa (.aa (.aa (.sk 32 .nil rfl)))) rfl)) rfl))),rfl,rfl,?_⟩
      ·omega
      ·exact ⟨⟨by omega,by rw [List.length_append,← hq]; rfl⟩,by rw [aw]; simp,p5 hq hF cb rfl⟩
    ·have h1:j=n:=by
      have:=of_decide_eq_false h1;omega
     subst h1;have hE:jL L=O:=by rw [hO,hn]; exact (MD L).symm
     conv=>whnf
     rw [show (kt 110 111).new (some (L,c),true)=some (.flat true (q+1) 6 (bI O)) from by show cl (jL L)=_; rw [hE]; unfold cl; rw [← hq],show (kt 110 111).val (some (L,c),true)=.slice (some ⟨1,0,none⟩) (q+1) aO from by show cW _ (jL L).length=_; rw [hE,← hq]; rfl]
     refine ⟨1,?_⟩;conv=>whnf
     exact ⟨⟨rfl,aD.pW (fun h=>h) hF (fun r hr=>rfl)⟩,_,rfl,.refl _⟩
open Go Go.Ae
def JR:Env:=En [(33,.p mM)]
theorem adl:EnvOk Tryz.prog JR:=bK ⟨zj,trivial⟩ trivial
theorem W2:gu Tryz.prog 145 (cD JR cR Tryz.f145):=by
 exact jw adl aQ Tryz.func145 (enters_of Tryz.func145 (by kernel_rfl) rfl)
def JS:Env:=En [] [(145,cD JR cR Tryz.f145)] [] true
theorem adm:EnvOk Tryz.prog JS:=bK trivial ⟨W2,trivial⟩
theorem Uf:gu Tryz.prog 112 (cD JS cR Tryz.f112):=by
 exact jw adm aQ Tryz.func112 (enters_of Tryz.func112 (by kernel_rfl) rfl)
abbrev jJ:aY:=kt 110 111
def Ey2:Env:=En [(109,.q jJ),(74,.p pf)] [(112,cD JS cR Tryz.f112)]
theorem adn:EnvOk Tryz.prog Ey2:=bK ⟨ZM,Oq,trivial⟩ ⟨Uf,trivial⟩
theorem ZN:dq Tryz.prog 58 fx:=by
 refine eJ adn aQ Tryz.func58 (enters_of Tryz.func58 (by kernel_rfl) rfl) ?_ ?_ ?_
 ·intro i B hb;cases i with
  | none=>simp [fx,QL.ah] at hb
  | some i=>simp [fx,QL.ah] at hb; rw [hb]; rfl
 ·intro i B hb;exact yO hb
 intro i hp;have hp:i.list.length≤549755813888∧∀ v∈i.list,Q2.sz 262144 v:=hp;obtain ⟨hlen,bm⟩:=hp;cases i with
 | none =>
  conv=>whnf
  refine ⟨(none,false),[],rfl,⟨Nat.zero_le _,fun v hv=>nomatch hv⟩,?_⟩
  rw [show jJ.ah (none,false)=[] from rfl,show jJ.val (none,false)=.slice none 0 0 from rfl,show jJ.new (none,false)=none from rfl]
  conv=>whnf
  refine ⟨_,rfl,?_⟩;conv=>whnf
  refine ⟨(none,true),[],rfl,⟨Nat.zero_le _,fun v hv=>nomatch hv⟩,?_⟩
  rw [show jJ.ah (none,true)=[] from rfl,show jJ.val (none,true)=.slice none 0 0 from rfl,show jJ.new (none,true)=none from rfl]
  conv=>whnf
  refine ⟨_,rfl,?_⟩;conv=>whnf
  exact ⟨_,rfl,.refl _⟩
 | some i =>
  obtain ⟨L,c⟩:=i;have hlen:L.length≤549755813888:=hlen;have bm:∀ v∈L,Q2.sz 262144 v:=bm;obtain ⟨n,hn⟩:∃ n,n=L.length:=⟨_,rfl⟩;obtain ⟨g,hg⟩:∃ g,g=bI L:=⟨_,rfl⟩;obtain ⟨D,hD⟩:∃ D,D=sK false L:=⟨_,rfl⟩;obtain ⟨C,hC⟩:∃ C,C=sK true D:=⟨_,rfl⟩;have hR:gf L=if C.length < 3 then [] else eV C:=by rw [Vc,← hD,← hC]
  have JT:D.length≤n∧∀ v∈D,Q2.sz 262144 v:=⟨by rw [hD,hn]; exact (yk L).length_le,fun v hv=>bm v ((yk L).subset (by rw [hD] at hv; exact hv))⟩
  have DJ:C.length≤n∧∀ v∈C,Q2.sz 262144 v:=⟨Nat.le_trans (by rw [hC]; exact (Bk D).length_le) JT.1,fun v hv=>JT.2 v ((Bk D).subset (by rw [hC] at hv; exact hv))⟩
  obtain ⟨cu,dQ⟩:∃ c,c=aO:=⟨_,rfl⟩;obtain ⟨K,hK⟩:∃ K,K=hJ fx (some (L,c)):=⟨_,rfl⟩;have s3:∀ H:ay,gf L=[]→K (.slice none 0 0) H:=fun H h=>by
   rw [hK];unfold hJ;rw [show fx.new (some (L,c))=none from by show cl (gf L)=none; rw [h]; rfl,show fx.val (some (L,c))=.slice none 0 0 from by show cW _ (gf L).length=_; rw [h]; rfl]
   exact ⟨_,rfl,.refl _⟩
  rw [show fx.ah (some (L,c))=[.flat false n 6 g] from by rw [hn,hg]; rfl,show fx.args (some (L,c))=[.slice (some ⟨0,0,none⟩) n c] from by rw [hn]; rfl,← hK]
  rw [← hn] at hlen;conv=>whnf
  refine ⟨(some (L,c),false),[0],by rw [show jJ.args (some (L,c),false)=[.slice (some ⟨0,0,none⟩) n c,.func (.func 110) #[] #[]] from by rw [hn]; rfl]; rfl,⟨by show L.length≤_; omega,bm⟩,?_⟩
  obtain ⟨d,hd⟩:∃ d,d=D.length:=⟨_,rfl⟩;rw [show jJ.ah (some (L,c),false)=[.flat false n 6 g] from by rw [hn,hg]; rfl,show jJ.val (some (L,c),false)=cW 1 d from by rw [hd,hD]; rfl,show jJ.new (some (L,c),false)=cl D from by rw [hD]; rfl]
  cases d with
  | zero =>
   obtain rfl:D=[]:=List.eq_nil_of_length_eq_zero hd.symm;conv=>whnf
   refine ⟨aD.aP (fun h=>h) (fun r hr=>by rw [hg]; rfl),?_⟩
   conv=>whnf
   refine ⟨_,rfl,?_⟩;conv=>whnf
   refine ⟨(none,true),[],rfl,⟨Nat.zero_le _,fun v hv=>nomatch hv⟩,?_⟩
   rw [show jJ.ah (none,true)=[] from rfl,show jJ.val (none,true)=.slice none 0 0 from rfl,show jJ.new (none,true)=none from rfl]
   conv=>whnf
   refine ⟨_,rfl,?_⟩;conv=>whnf
   exact s3 _ (by rw [hR,hC]; rfl)
  | succ d =>
   obtain ⟨G,hG⟩:∃ G,G=bI D:=⟨_,rfl⟩;rw [show cl D=some (.flat true (d+1) 6 G) from by unfold cl; rw [← hd,hG]]
   conv=>whnf
   refine ⟨aD.aP (fun h=>h) (fun r hr=>by rw [hg]; rfl),?_⟩
   conv=>whnf
   refine ⟨_,rfl,?_⟩;conv=>whnf
   obtain ⟨e,he⟩:∃ d,d=C.length:=⟨_,rfl⟩;refine ⟨(some (D,aO),true),[1],by rw [show jJ.args (some (D,aO),true)=[.slice (some ⟨0,0,none⟩) (d+1) aO,.func (.func 111) #[] #[]] from by rw [hd]; rfl]; rfl,⟨by show D.length≤_; omega,JT.2⟩,?_⟩
   rw [show jJ.ah (some (D,aO),true)=[.flat false (d+1) 6 G] from by rw [hd,hG]; rfl,show jJ.val (some (D,aO),true)=cW 1 e from by rw [he,hC]; rfl,show jJ.new (some (D,aO),true)=cl C from by rw [hC]; rfl]
   cases e with
   | zero =>
    obtain rfl:C=[]:=List.eq_nil_of_length_eq_zero he.symm;conv=>whnf
    refine ⟨aD.aP (fun h=>by cases h) (fun r hr=>by rw [hG]; rfl),?_⟩
    conv=>whnf
    refine ⟨_,rfl,?_⟩;conv=>whnf
    exact s3 _ (by rw [hR]; rfl)
   | succ e =>
    obtain ⟨E,hE⟩:∃ G,G=bI C:=⟨_,rfl⟩;rw [show cl C=some (.flat true (e+1) 6 E) from by unfold cl; rw [← he,hE]]
    conv=>whnf
    refine ⟨aD.aP (fun h=>by cases h) (fun r hr=>by rw [hG]; rfl),?_⟩
    conv=>whnf
    refine ⟨_,rfl,?_⟩;conv=>whnf
    by_cases h3:e+1 < 3
    ·rw [show decide (((e+1:Nat):Int) < 3)=true from decide_eq_true (by omega)]
     conv=>whnf
     exact s3 _ (by rw [hR,if_pos (by omega)])
    rw [show decide (((e+1:Nat):Int) < 3)=false from decide_eq_false (by omega)]
    rw [if_neg (by omega)] at hR
    obtain ⟨N,hN⟩:∃ N,N=e+1:=⟨_,rfl⟩;rw [← hN] at he;rw [← hN];obtain ⟨M,hM⟩:∃ N,N=d+1:=⟨_,rfl⟩;rw [← hM,← dQ];conv=>whnf
    refine .inl ⟨fun mm tz hz=>∃ (i:Nat) (m:Nat),bC (some (.slice (some ⟨2,0,none⟩) N cu)::aF 2 (some (.int .i64 m)::aF 9 (some (.slice (some ⟨2,0,none⟩) N cu)::some (.int .i64 N)::some (.int .i64 i)::aF 21 []))) tz∧hz=[some (.flat false n 6 g),some (.flat true M 6 G),some (.flat true N 6 E)]∧N - i=mm∧(i≤N∧m=nQ C i),.inr ⟨[0,1,2],[0,3,13,14,15],?_⟩,?_⟩
    ·conv=>whnf
     intro _;conv=>whnf
     refine ⟨_,0,0,(.aa (.sk 2 (.aa (.sk 9 (.aa (.aa (.aa (.sk 21 .nil rfl)))) rfl)) rfl)),rfl,rfl,?_⟩;exact ⟨Nat.zero_le _,rfl⟩
    rintro mm aW _ ⟨i,m,aB,rfl,rfl,⟨hi,hm⟩⟩
    obtain ⟨az,rfl⟩:∃ az:Nat→Value,aW=.slice (some ⟨2,0,none⟩) N cu::zs az 1 2 (.int .i64 m::zs az 4 9 (.slice (some ⟨2,0,none⟩) N cu::.int .i64 N::.int .i64 i::zs az 16 21 [])):=bL aB;clear aB;have ll:m < N:=by rw [hm,he]; exact (KH C i (by omega)).1 (by omega)
    conv=>whnf
    refine aN (fun h1=>?_) (fun h1=>?_)
    ·have h1:i < N:=by
      have:=of_decide_eq_true h1;omega
     have e7:IntKind.i64.wrap ((i:Int)+1)=((i+1:Nat):Int):=by rw [ax (by omega) (by omega)]; rfl
     obtain ⟨p,cp,rp,pp,sp,qp⟩:=iA (L:=C) (k:=i) (by omega) DJ.2
     obtain ⟨q,cq,rq,pq,sq,qq⟩:=iA (L:=C) (k:=m) (by omega) DJ.2
     rw [← hE] at rp rq;conv=>whnf
     refine ⟨⟨by omega,by omega⟩,?_⟩
     simp only [toNat_cast,aA,Nat.zero_add];conv=>whnf
     refine ⟨by show i < N; omega,?_⟩
     conv=>whnf
     rw [rp];conv=>whnf
     refine .inl ⟨5,[[],[],[],[1,2],[1,2,3],[0,1,2,3,4],[0,1,2,3,4,5]],by kernel_rfl,?_⟩
     conv=>whnf
     refine ⟨⟨by omega,by omega⟩,?_⟩
     simp only [toNat_cast,aA,Nat.zero_add];conv=>whnf
     refine ⟨by show m < N; omega,?_⟩
     conv=>whnf
     rw [rq];conv=>whnf
     obtain ⟨z,ez,pz⟩:=fc (fR p.p q.p);refine ⟨(p,q),rfl,⟨PV.aX sp (by decide),PV.aX sq (by decide)⟩,?_⟩
     rw [show pf.val (p,q)=.int .i64 z from ez]
     conv=>whnf
     rw [pp,pq] at pz;have tI:nQ C (i+1)=if z < 0 then i else m:=by
      show (if fR (au C i) (au C (nQ C i)) < 0 then i else nQ C i)=_
      rw [pz,hm]
     refine aN (fun J=>?_) (fun J=>?_)
     ·have J:z < 0:=of_decide_eq_true J;conv=>whnf
      rw [e7];refine .inr ⟨[0,1,2],[0,3,13,14,15],?_⟩;conv=>whnf
      intro _;conv=>whnf
      refine ⟨_,?_,i+1,i,(.aa (.sk 2 (.aa (.sk 9 (.aa (.aa (.aa (.sk 21 .nil rfl)))) rfl)) rfl)),rfl,rfl,?_⟩
      ·omega
      ·exact ⟨by omega,by rw [tI,if_pos J]⟩
     ·have J:¬ z < 0:=of_decide_eq_false J;conv=>whnf
      rw [e7];refine .inr ⟨[0,1,2],[0,3,13,14,15],?_⟩;conv=>whnf
      intro _;conv=>whnf
      refine ⟨_,?_,i+1,m,(.aa (.sk 2 (.aa (.sk 9 (.aa (.aa (.aa (.sk 21 .nil rfl)))) rfl)) rfl)),rfl,rfl,?_⟩
      ·omega
      ·exact ⟨by omega,by rw [tI,if_neg J]⟩
    ·have h1:i=N:=by
      have:=of_decide_eq_false h1;omega
     subst h1;conv=>whnf
     refine .inl ⟨6,[[],[],[0,1],[],[],[3,4],[0,1,2,3,4,5],[0,1,2,3,4,5,6],[0,1,2,3,4,5,6,7]],by kernel_rfl,?_⟩
     conv=>whnf
     refine ⟨⟨by omega,by omega,by omega⟩,?_⟩
     rw [show Int.toNat (i:Int) - Int.toNat (m:Int)=i - m from rfl,show Int.toNat (m:Int)=m from rfl,aA,Nat.zero_add]
     conv=>whnf
     refine ⟨⟨by omega,by omega,by omega⟩,?_⟩
     conv=>whnf
     obtain ⟨a,ha⟩:∃ a,a=i - m:=⟨_,rfl⟩;obtain ⟨ca,hca⟩:∃ a,a=uG cu m:=⟨_,rfl⟩;obtain ⟨cb,hcb⟩:∃ a,a=uG cu (Int.toNat 0):=⟨_,rfl⟩;rw [← ha,← hca,← hcb,show fa 0 (Int.toNat 0)=0 from rfl,show Int.toNat (m:Int) - Int.toNat 0=m from rfl,Nat.zero_add]
     have w1:IntKind.i64.wrap (0+(a:Int))=(a:Int):=by rw [ax (by omega) (by omega)]; omega
     have w2:IntKind.i64.wrap ((a:Int)+(m:Int))=(i:Int):=by rw [ax (by omega) (by omega)]; omega
     refine .inr ⟨3,?_⟩;conv=>whnf
     refine ⟨by decide,?_⟩
     conv=>whnf
     rw [w1,show decide ((a:Int) < 0)=false from decide_eq_false (by omega)]
     conv=>whnf
     refine ⟨by decide,?_⟩
     conv=>whnf
     rw [w2,show decide ((i:Int) < 0)=false from decide_eq_false (by omega)]
     conv=>whnf
     have w3:IntKind.i64.wrap ((i:Int) - IntKind.i64.wrap (0 - ((0:Nat):Int)))=(i:Int):=by
      rw [show IntKind.i64.wrap (0 - ((0:Nat):Int))=0 from rfl,ax (by omega) (by omega)]; omega
     rw [w3,show decide ((i:Int) > 0)=true from decide_eq_true (by omega)]
     conv=>whnf
     refine ⟨⟨by omega,by omega,by omega⟩,?_⟩
     conv=>whnf
     refine ⟨⟨by omega,by show (i:Int)*((80:Nat):Int)≤_; omega⟩,?_⟩
     conv=>whnf
     refine ⟨⟨by omega,by omega,by omega⟩,?_⟩
     rw [show (0:Int).toNat=0 from rfl,show fa 0 0=0 from rfl]
     conv=>whnf
     refine .inr ⟨3,?_⟩;conv=>whnf
     refine ⟨by decide,?_⟩
     conv=>whnf
     refine ⟨by omega,?_⟩
     conv=>whnf
     rw [show Int.toNat (((0:Nat):Int)) - 0=0 from rfl,show (Src.fl a fun j=>E (fa (0+m) j)).m=a from rfl,Nat.zero_add]
     refine ⟨⟨by decide,⟨Nat.zero_le _,rfl⟩,by show (0+a)*80≤_; omega⟩,?_⟩
     conv=>whnf
     refine ⟨[25,26,27],?_⟩;conv=>whnf
     intro _;conv=>whnf
     refine ⟨by decide,?_⟩
     conv=>whnf
     refine ⟨by omega,?_⟩
     conv=>whnf
     rw [show (Src.fl m fun j=>E (fa 0 j)).m=m from rfl]
     refine ⟨⟨by decide,⟨Nat.le_refl _,rfl⟩,by show (0+a+m)*80≤_; omega⟩,?_⟩
     conv=>whnf
     refine ⟨[25,26,27],?_⟩;conv=>whnf
     intro _;conv=>whnf
     rw [show 0+a+m=i from by omega]
     have hl:(gf L).length=i:=by rw [hR,Bj]; omega
     rw [hK];unfold hJ;rw [show fx.new (some (L,c))=some (.flat true i 6 (bI (gf L))) from w9 hl (by omega),show fx.val (some (L,c))=.slice (some ⟨1,0,none⟩) i aO from (congrArg (cW 1) hl).trans (GQ (by omega))]
     refine ⟨10,?_⟩;conv=>whnf
     refine ⟨⟨rfl,aD.pW (fun h=>h) (fun r hr=>?_) (fun r hr=>rfl)⟩,_,rfl,.refl _⟩
     rw [hR,U5 (L:=C) (fun r hr=>by rw [hE]) (by omega) (by omega) r (by omega),hm,he]
     rfl
open Go Go.Ae
def JU:Env:=En [(70,.p qj),(34,.p iO),(38,.p gZ),(71,.p qK),(39,.p xP)] [(64,cD nL cR Tryz.f64)] [(118,xd)]
theorem ado:EnvOk Tryz.prog JU:=bK ⟨MR,Gn,xc,Ot,abY,trivial⟩ ⟨yR,trivial⟩
theorem ab2:iC Tryz.prog JU:=yc ⟨yD,trivial⟩
def Qw:Nat→FT→Nu→FT:=fun l G nu=>cD { JU with ys:=[(l,G)],nu:=nu } cR Tryz.f114
theorem ZO:zN Tryz.prog 114 Qw:=by
 exact Pg ado aQ Tryz.func114 (enters_of Tryz.func114 (by kernel_rfl) rfl) (hI:=ab2)
def Ep:Env:=En [] [] [(114,Qw)]
theorem adp:EnvOk Tryz.prog Ep:=bK trivial trivial
theorem ab3:iC Tryz.prog Ep:=yc ⟨ZO,trivial⟩
theorem ZP:gu Tryz.prog 113 (cD Ep cR Tryz.f113):=by
 exact jw adp aQ Tryz.func113 (enters_of Tryz.func113 (by kernel_rfl) rfl) (hI:=ab3)
def Ez3:Env:=En [] [(113,cD Ep cR Tryz.f113)]
theorem adq:EnvOk Tryz.prog Ez3:=bK trivial ⟨ZP,trivial⟩
abbrev iL:aY:=IA 114
theorem ab4:dq Tryz.prog 59 iL:=by
 refine eJ adq aQ Tryz.func59 (enters_of Tryz.func59 (by kernel_rfl) rfl) ?_ ?_ ?_
 ·intro ⟨i,_⟩ B hb;cases i with
  | none=>simp [iL,IA,QL.ah] at hb; rcases hb with rfl | rfl | rfl <;> rfl
  | some i=>simp [iL,IA,QL.ah] at hb; rcases hb with rfl | rfl | rfl | rfl <;> rfl
 ·intro i B hb;exact yO hb
 intro ⟨i,a,b⟩ hp;have hp:i.list.length≤1073741824∧(∀ v∈i.list,Q2.sz 2048 v)∧a.sz 2048∧b.sz 2048:=hp;obtain ⟨hlen,bm,sa,sb⟩:=hp;have qa:=PV.cV sa (by decide)
 have qb:=PV.cV sb (by decide)
 cases i with
 | none =>
  conv=>whnf
  intro yl nu fn tm df;conv=>whnf
  intro JV nu2 RF RG RH;conv=>whnf
  refine .inr ⟨1,?_⟩;conv=>whnf
  exact ⟨_,rfl,.refl _⟩
 | some i =>
  obtain ⟨L,c⟩:=i;have hlen:L.length≤1073741824:=hlen;have bm:∀ v∈L,Q2.sz 2048 v:=bm;obtain ⟨n,hn⟩:∃ n,n=L.length:=⟨_,rfl⟩;obtain ⟨g,hg⟩:∃ g,g=bI L:=⟨_,rfl⟩;obtain ⟨K,hK⟩:∃ K,K=hJ iL (some (L,c),(a,b)):=⟨_,rfl⟩;rw [show iL.ah (some (L,c),(a,b))=[.flat false n 6 g,.aS false 1 [[.slice (some ⟨0,0,none⟩) n c]],.aS false 6 [a.cells],.aS false 6 [b.cells]] from by rw [hn,hg]; rfl,show iL.args (some (L,c),(a,b))=[.func (.func 114) #[] #[.pointer (some ⟨1,0,none⟩),.pointer (some ⟨2,0,none⟩),.pointer (some ⟨3,0,none⟩)]] from rfl,← hK]
  rw [← hn] at hlen;conv=>whnf
  intro yl nu fn tm df;conv=>whnf
  intro JV nu2 RF RG RH;conv=>whnf
  refine .inl ⟨fun mm tz hz=>∃ (j:Nat) (O:List Q2) (q:Nat) (F:Nat→List Value),bC (some (.func (.yield JV) #[] #[])::some (.pointer (some ⟨7,0,none⟩))::aF 3 (some (.slice (some ⟨0,0,none⟩) n c)::some (.int .i64 n)::some (.int .i64 j)::aF 17 [])) tz∧hz=[some (.flat false n 6 g),some (.aS false 1 [[.slice (some ⟨0,0,none⟩) n c]]),some (.aS false 6 [a.cells]),some (.aS false 6 [b.cells]),some (.aS true 1 [[cW 9 q]]),some (.cj (sT Tryz.f113 fn tm df)),some (.aS true 1 [[.func (.yield yl) #[] #[]]]),some (.aS true 1 [[.slice (some ⟨0,0,none⟩) n c]]),some (.cj (sT Tryz.f114 RF RG RH))]++xO 6 F q∧n - j=mm∧((j≤n∧q=O.length)∧O=((bc L).take j).flatMap (nr (dP a.p b.p))∧∀ r,r < q→F r=bI O r),.inr ⟨[0,1,2,3,4,5,6,7,8],[0,1,5,6,7],?_⟩,?_⟩
  ·conv=>whnf
   intro _;conv=>whnf
   refine ⟨_,0,[],0,fun _=>[],(.aa (.aa (.sk 3 (.aa (.aa (.aa (.sk 17 .nil rfl)))) rfl))),rfl,rfl,?_⟩
   exact ⟨⟨Nat.zero_le _,rfl⟩,rfl,fun r hr=>absurd hr (Nat.not_lt_zero r)⟩
  rintro mm aW _ ⟨j,O,q,F,aB,rfl,rfl,⟨⟨hj,hq⟩,hO,hF⟩⟩
  obtain ⟨az,rfl⟩:∃ az:Nat→Value,aW=.func (.yield JV) #[] #[]::.pointer (some ⟨7,0,none⟩)::zs az 2 3 (.slice (some ⟨0,0,none⟩) n c::.int .i64 n::.int .i64 j::zs az 8 17 []):=bL aB;clear aB;have tI:=XJ (dP a.p b.p) L j;rw [← hO,← hq] at tI;cases q with
  | zero =>
   obtain rfl:O=[]:=List.eq_nil_of_length_eq_zero hq.symm;conv=>whnf
   refine aN (fun h7=>?_) (fun h7=>?_)
   ·have h7:j < n:=by
     have:=of_decide_eq_true h7;omega
    have e8:IntKind.i64.wrap ((j:Int)+1)=((j+1:Nat):Int):=by rw [ax (by omega) (by omega)]; rfl
    obtain ⟨u,cu,ru,pu,su,qu⟩:=iA (L:=L) (k:=j) (by omega) bm
    obtain ⟨v,cv,rv,pv,sv,qv⟩:=iA (L:=L) (k:=aZ n j) (by rw [hn]; exact cJ (by omega)) bm
    have c7:=mC h7 (by omega)
    have cL:=cJ h7;have iV:(bc L)[j]?=some (u.p,v.p):=by rw [pu,pv]; rw [hn] at cL ⊢; exact pX (gO (by omega)) (gO cL)
    rw [← pu] at cu;obtain ⟨k,hk⟩:∃ u,u=aZ n j:=⟨_,rfl⟩;rw [← hk] at c7 cL rv;rw [← hg] at ru rv;conv=>whnf
    refine ⟨⟨by omega,by omega⟩,?_⟩
    simp only [toNat_cast,aA,Nat.zero_add];conv=>whnf
    refine ⟨by show j < n; omega,?_⟩
    conv=>whnf
    rw [ru];conv=>whnf
    refine .inl ⟨10,[[],[],[],[],[3],[],[5],[3,4,5,6],[2,3,4,5,6,7],[2,3,4,5,6,7,8],[0,1,2,3,4,5,6,7,8,9],[0,1,2,3,4,5,6,7,8,9,10]],by kernel_rfl,?_⟩
    conv=>whnf
    rw [show decide ((n:Int)≠0)=true from decide_eq_true (by omega)]
    conv=>whnf
    rw [c7];refine ⟨⟨by omega,by omega⟩,?_⟩
    simp only [toNat_cast,aA,Nat.zero_add];conv=>whnf
    refine ⟨by show k < n; omega,?_⟩
    conv=>whnf
    rw [rv];conv=>whnf
    refine ⟨rfl,?_⟩;conv=>whnf
    refine ⟨rfl,?_⟩;conv=>whnf
    refine ⟨rfl,?_⟩;conv=>whnf
    refine .inl ⟨10,[[],[],[],[0,1,2],[],[],[],[0,1,2,3,4,5,6],[],[],[0,1,2,3,4,5,6,7,8,9],[0,1,2,3,4,5,6,7,8,9,10]],by kernel_rfl,?_⟩
    conv=>whnf
    obtain ⟨x,ex,px,sx,qx⟩:=g0 (xG qa qb qu);refine ⟨(a,b,u),rfl,⟨PV.aX sa (by decide),PV.aX sb (by decide),PV.aX su (by decide)⟩,?_⟩
    rw [show qj.val (a,b,u)=x.v from ex]
    conv=>whnf
    obtain ⟨y,ey,py,sy,qy⟩:=g0 (xG qa qb qv);refine ⟨(a,b,v),rfl,⟨PV.aX sa (by decide),PV.aX sb (by decide),PV.aX sv (by decide)⟩,?_⟩
    rw [show qj.val (a,b,v)=y.v from ey]
    conv=>whnf
    obtain ⟨z,ez,pz⟩:=fc (ba x.q 0);refine ⟨x,rfl,RV.b6 sx (by decide),?_⟩
    rw [show iO.val x=.int .i64 z from ez]
    conv=>whnf
    have hz:=pU x.q 0;rw [← pz] at hz;have aw:=ME (w:=bP (atR u.p v.p (x.q / (x.q - y.q)))) iV hO (px.trans (o4 _ _ _).symm) (py.trans (o4 _ _ _).symm) (gr _);rw [← pz] at aw;by_cases h8:z ≥ 0
    ·rw [show decide (z ≥ 0)=true from decide_eq_true h8]
     rw [if_pos h8] at aw;conv=>whnf
     refine ⟨rfl,?_⟩;conv=>whnf
     refine ⟨rfl,?_⟩;conv=>whnf
     refine ⟨rfl,?_⟩;conv=>whnf
     refine ⟨by decide,?_⟩
     conv=>whnf
     refine ⟨rfl,?_⟩;conv=>whnf
     refine .inl ⟨3,[[],[0],[],[0,1,2],[0,1,2,3],[0,1,2,3,4]],by kernel_rfl,?_⟩
     conv=>whnf
     obtain ⟨z3,vS,vT⟩:=fc (ba x.q 0);refine ⟨x,rfl,RV.b6 sx (by decide),?_⟩
     rw [show iO.val x=.int .i64 z3 from vS]
     conv=>whnf
     obtain ⟨z2,vU,oI⟩:=fc (ba y.q 0);refine ⟨y,rfl,RV.b6 sy (by decide),?_⟩
     rw [show iO.val y=.int .i64 z2 from vU]
     conv=>whnf
     have nK:=pU y.q 0;rw [← oI] at nK;obtain rfl:z3=z:=vT.trans pz.symm;rw [show IntKind.i64.wrap (z3*z2)=z3*z2 from by rcases hz with rfl | rfl | rfl <;> rcases nK with rfl | rfl | rfl <;> rfl]
     rw [← oI] at aw;by_cases h9:z3*z2 < 0
     ·rw [show decide (z3*z2 < 0)=true from decide_eq_true h9]
      rw [if_pos h9] at aw;conv=>whnf
      refine .inr (.inr (.inl ⟨9,1,[[],[],[],[1,2],[0,1,2,3],[0,1,2,3,4],[0,1,2,3,4,5],[0,1,2,3,4,5],[],[0,1,2,3,4,5,6,8],[0,1,2,3,4,5,6,7,8,9]],[7],by kernel_rfl,?_⟩))
      conv=>whnf
      obtain ⟨d2,kL,vV,vW,vX⟩:=g0 (QB.sub qx qy);refine ⟨(x,y),rfl,⟨RV.b6 sx (by decide),RV.b6 sy (by decide)⟩,?_⟩
      rw [show gZ.val (x,y)=d2.v from kL]
      conv=>whnf
      obtain ⟨t,et,pt,st,qt⟩:=g0 (QB.div qx vX (by decide))
      obtain ⟨e,ee,pe⟩:=fc (if d2.q=0 then 10 else 0)
      refine ⟨(x,d2),rfl,⟨RV.b6 sx (by decide),RV.b6 vW (by decide)⟩,?_⟩
      rw [show qK.val (x,d2)=.tuple ⟨[t.v,.int .i64 e]⟩ from by rw [← et,← ee]; rfl]
      conv=>whnf
      refine .inl ⟨5,[[],[],[],[],[1,2,3],[0,1,2,3,4],[0,1,2,3,4,5]],by kernel_rfl,?_⟩
      conv=>whnf
      obtain ⟨w,ew,pw,sw,qw⟩:=lN (zH qu qv qt);refine ⟨((u,v),t),rfl,⟨⟨PV.aX su (by decide),PV.aX sv (by decide)⟩,RV.aX st (by decide)⟩,?_⟩
      rw [show xP.val ((u,v),t)=w.v from ew]
      conv=>whnf
      have cw:=(PV.j3 ew).symm;rw [← pw] at cw;rw [show (bP (atR u.p v.p (x.q / (x.q - y.q)))).p=w.p from by rw [gr,pw,pt,vV]] at aw
      refine ⟨rfl,?_⟩;conv=>whnf
      refine ⟨rfl,?_⟩;conv=>whnf
      refine ⟨rfl,?_⟩;conv=>whnf
      refine ⟨⟨rfl,by show (0+1+1)*80≤140737488355328; decide⟩,?_⟩
      conv=>whnf
      refine ⟨rfl,?_⟩;conv=>whnf
      refine ⟨rfl,?_⟩;conv=>whnf
      rw [e8];refine .inr ⟨[0,1,2,3,4,5,6,7,8,54],[0,1,5,6,7],?_⟩;conv=>whnf
      intro _;conv=>whnf
      refine ⟨_,?_,j+1,[u.p]++[w.p],0+1+1,_,(.aa (.aa (.sk 3 (.aa (.aa (.aa (.sk 17 .nil rfl)))) rfl))),rfl,rfl,?_⟩
      ·omega
      ·exact ⟨⟨by omega,rfl⟩,by rw [aw]; rfl,p5 (O:=[u.p]) rfl (um cu rfl) cw rfl⟩
     ·rw [show decide (z3*z2 < 0)=false from decide_eq_false h9]
      rw [if_neg h9] at aw;conv=>whnf
      refine ⟨rfl,?_⟩;conv=>whnf
      rw [e8];refine .inr ⟨[0,1,2,3,4,5,6,7,8,34],[0,1,5,6,7],?_⟩;conv=>whnf
      intro _;conv=>whnf
      refine ⟨_,?_,j+1,[u.p],0+1,_,(.aa (.aa (.sk 3 (.aa (.aa (.aa (.sk 17 .nil rfl)))) rfl))),rfl,rfl,?_⟩
      ·omega
      ·exact ⟨⟨by omega,rfl⟩,by rw [aw]; rfl,um cu rfl⟩
    ·rw [show decide (z ≥ 0)=false from decide_eq_false h8]
     rw [if_neg h8] at aw;conv=>whnf
     refine .inl ⟨3,[[],[0],[],[0,1,2],[0,1,2,3],[0,1,2,3,4]],by kernel_rfl,?_⟩
     conv=>whnf
     obtain ⟨z3,vS,vT⟩:=fc (ba x.q 0);refine ⟨x,rfl,RV.b6 sx (by decide),?_⟩
     rw [show iO.val x=.int .i64 z3 from vS]
     conv=>whnf
     obtain ⟨z2,vU,oI⟩:=fc (ba y.q 0);refine ⟨y,rfl,RV.b6 sy (by decide),?_⟩
     rw [show iO.val y=.int .i64 z2 from vU]
     conv=>whnf
     have nK:=pU y.q 0;rw [← oI] at nK;obtain rfl:z3=z:=vT.trans pz.symm;rw [show IntKind.i64.wrap (z3*z2)=z3*z2 from by rcases hz with rfl | rfl | rfl <;> rcases nK with rfl | rfl | rfl <;> rfl]
     rw [← oI] at aw;by_cases h9:z3*z2 < 0
     ·rw [show decide (z3*z2 < 0)=true from decide_eq_true h9]
      rw [if_pos h9] at aw;conv=>whnf
      refine .inr (.inr (.inl ⟨9,1,[[],[],[],[1,2],[0,1,2,3],[0,1,2,3,4],[0,1,2,3,4,5],[0,1,2,3,4,5],[],[0,1,2,3,4,5,6,8],[0,1,2,3,4,5,6,7,8,9]],[7],by kernel_rfl,?_⟩))
      conv=>whnf
      obtain ⟨d2,kL,vV,vW,vX⟩:=g0 (QB.sub qx qy);refine ⟨(x,y),rfl,⟨RV.b6 sx (by decide),RV.b6 sy (by decide)⟩,?_⟩
      rw [show gZ.val (x,y)=d2.v from kL]
      conv=>whnf
      obtain ⟨t,et,pt,st,qt⟩:=g0 (QB.div qx vX (by decide))
      obtain ⟨e,ee,pe⟩:=fc (if d2.q=0 then 10 else 0)
      refine ⟨(x,d2),rfl,⟨RV.b6 sx (by decide),RV.b6 vW (by decide)⟩,?_⟩
      rw [show qK.val (x,d2)=.tuple ⟨[t.v,.int .i64 e]⟩ from by rw [← et,← ee]; rfl]
      conv=>whnf
      refine .inl ⟨5,[[],[],[],[],[1,2,3],[0,1,2,3,4],[0,1,2,3,4,5]],by kernel_rfl,?_⟩
      conv=>whnf
      obtain ⟨w,ew,pw,sw,qw⟩:=lN (zH qu qv qt);refine ⟨((u,v),t),rfl,⟨⟨PV.aX su (by decide),PV.aX sv (by decide)⟩,RV.aX st (by decide)⟩,?_⟩
      rw [show xP.val ((u,v),t)=w.v from ew]
      conv=>whnf
      have cw:=(PV.j3 ew).symm;rw [← pw] at cw;rw [show (bP (atR u.p v.p (x.q / (x.q - y.q)))).p=w.p from by rw [gr,pw,pt,vV]] at aw
      refine ⟨rfl,?_⟩;conv=>whnf
      refine ⟨rfl,?_⟩;conv=>whnf
      refine ⟨rfl,?_⟩;conv=>whnf
      refine ⟨by decide,?_⟩
      conv=>whnf
      refine ⟨rfl,?_⟩;conv=>whnf
      refine ⟨rfl,?_⟩;conv=>whnf
      rw [e8];refine .inr ⟨[0,1,2,3,4,5,6,7,8,51],[0,1,5,6,7],?_⟩;conv=>whnf
      intro _;conv=>whnf
      refine ⟨_,?_,j+1,[w.p],0+1,_,(.aa (.aa (.sk 3 (.aa (.aa (.aa (.sk 17 .nil rfl)))) rfl))),rfl,rfl,?_⟩
      ·omega
      ·exact ⟨⟨by omega,rfl⟩,by rw [aw]; rfl,um cw rfl⟩
     ·rw [show decide (z3*z2 < 0)=false from decide_eq_false h9]
      rw [if_neg h9] at aw;conv=>whnf
      refine ⟨rfl,?_⟩;conv=>whnf
      rw [e8];refine .inr ⟨[0,1,2,3,4,5,6,7,8],[0,1,5,6,7],?_⟩;conv=>whnf
      intro _;conv=>whnf
      refine ⟨_,?_,j+1,[],0,fun _=>[],(.aa (.aa (.sk 3 (.aa (.aa (.aa (.sk 17 .nil rfl)))) rfl))),rfl,rfl,?_⟩
      ·omega
      ·exact ⟨⟨by omega,rfl⟩,by rw [aw]; rfl,fun r hr=>absurd hr (Nat.not_lt_zero r)⟩
   ·have h7:j=n:=by
     have:=of_decide_eq_false h7;omega
    subst h7;have zZ:dk (dP a.p b.p) L=[]:=by rw [hO,hn]; exact (Np _ L).symm
    conv=>whnf
    rw [hK];unfold hJ;rw [show iL.new (some (L,c),(a,b))=none from by show cl (dk (dP a.p b.p) L)=none; rw [zZ]; rfl,show iL.val (some (L,c),(a,b))=.slice none 0 0 from by show cW _ (dk (dP a.p b.p) L).length=_; rw [zZ]; rfl]
    exact ⟨_,rfl,.refl _⟩
  | succ q =>
   conv=>whnf
   refine aN (fun h7=>?_) (fun h7=>?_)
   ·have h7:j < n:=by
     have:=of_decide_eq_true h7;omega
    have e8:IntKind.i64.wrap ((j:Int)+1)=((j+1:Nat):Int):=by rw [ax (by omega) (by omega)]; rfl
    obtain ⟨u,cu,ru,pu,su,qu⟩:=iA (L:=L) (k:=j) (by omega) bm
    obtain ⟨v,cv,rv,pv,sv,qv⟩:=iA (L:=L) (k:=aZ n j) (by rw [hn]; exact cJ (by omega)) bm
    have c7:=mC h7 (by omega)
    have cL:=cJ h7;have iV:(bc L)[j]?=some (u.p,v.p):=by rw [pu,pv]; rw [hn] at cL ⊢; exact pX (gO (by omega)) (gO cL)
    rw [← pu] at cu;obtain ⟨k,hk⟩:∃ u,u=aZ n j:=⟨_,rfl⟩;rw [← hk] at c7 cL rv;rw [← hg] at ru rv;conv=>whnf
    refine ⟨⟨by omega,by omega⟩,?_⟩
    simp only [toNat_cast,aA,Nat.zero_add];conv=>whnf
    refine ⟨by show j < n; omega,?_⟩
    conv=>whnf
    rw [ru];conv=>whnf
    refine .inl ⟨10,[[],[],[],[],[3],[],[5],[3,4,5,6],[2,3,4,5,6,7],[2,3,4,5,6,7,8],[0,1,2,3,4,5,6,7,8,9],[0,1,2,3,4,5,6,7,8,9,10]],by kernel_rfl,?_⟩
    conv=>whnf
    rw [show decide ((n:Int)≠0)=true from decide_eq_true (by omega)]
    conv=>whnf
    rw [c7];refine ⟨⟨by omega,by omega⟩,?_⟩
    simp only [toNat_cast,aA,Nat.zero_add];conv=>whnf
    refine ⟨by show k < n; omega,?_⟩
    conv=>whnf
    rw [rv];conv=>whnf
    refine ⟨rfl,?_⟩;conv=>whnf
    refine ⟨rfl,?_⟩;conv=>whnf
    refine ⟨rfl,?_⟩;conv=>whnf
    refine .inl ⟨10,[[],[],[],[0,1,2],[],[],[],[0,1,2,3,4,5,6],[],[],[0,1,2,3,4,5,6,7,8,9],[0,1,2,3,4,5,6,7,8,9,10]],by kernel_rfl,?_⟩
    conv=>whnf
    obtain ⟨x,ex,px,sx,qx⟩:=g0 (xG qa qb qu);refine ⟨(a,b,u),rfl,⟨PV.aX sa (by decide),PV.aX sb (by decide),PV.aX su (by decide)⟩,?_⟩
    rw [show qj.val (a,b,u)=x.v from ex]
    conv=>whnf
    obtain ⟨y,ey,py,sy,qy⟩:=g0 (xG qa qb qv);refine ⟨(a,b,v),rfl,⟨PV.aX sa (by decide),PV.aX sb (by decide),PV.aX sv (by decide)⟩,?_⟩
    rw [show qj.val (a,b,v)=y.v from ey]
    conv=>whnf
    obtain ⟨z,ez,pz⟩:=fc (ba x.q 0);refine ⟨x,rfl,RV.b6 sx (by decide),?_⟩
    rw [show iO.val x=.int .i64 z from ez]
    conv=>whnf
    have hz:=pU x.q 0;rw [← pz] at hz;have aw:=ME (w:=bP (atR u.p v.p (x.q / (x.q - y.q)))) iV hO (px.trans (o4 _ _ _).symm) (py.trans (o4 _ _ _).symm) (gr _);rw [← pz] at aw;by_cases h8:z ≥ 0
    ·rw [show decide (z ≥ 0)=true from decide_eq_true h8]
     rw [if_pos h8] at aw;conv=>whnf
     refine ⟨rfl,?_⟩;conv=>whnf
     refine ⟨rfl,?_⟩;conv=>whnf
     refine ⟨rfl,?_⟩;conv=>whnf
     refine ⟨⟨rfl,by show (q+1+1)*80≤140737488355328; omega⟩,?_⟩
     conv=>whnf
     refine ⟨rfl,?_⟩;conv=>whnf
     refine .inl ⟨3,[[],[0],[],[0,1,2],[0,1,2,3],[0,1,2,3,4]],by kernel_rfl,?_⟩
     conv=>whnf
     obtain ⟨z3,vS,vT⟩:=fc (ba x.q 0);refine ⟨x,rfl,RV.b6 sx (by decide),?_⟩
     rw [show iO.val x=.int .i64 z3 from vS]
     conv=>whnf
     obtain ⟨z2,vU,oI⟩:=fc (ba y.q 0);refine ⟨y,rfl,RV.b6 sy (by decide),?_⟩
     rw [show iO.val y=.int .i64 z2 from vU]
     conv=>whnf
     have nK:=pU y.q 0;rw [← oI] at nK;obtain rfl:z3=z:=vT.trans pz.symm;rw [show IntKind.i64.wrap (z3*z2)=z3*z2 from by rcases hz with rfl | rfl | rfl <;> rcases nK with rfl | rfl | rfl <;> rfl]
     rw [← oI] at aw;by_cases h9:z3*z2 < 0
     ·rw [show decide (z3*z2 < 0)=true from decide_eq_true h9]
      rw [if_pos h9] at aw;conv=>whnf
      refine .inr (.inr (.inl ⟨9,1,[[],[],[],[1,2],[0,1,2,3],[0,1,2,3,4],[0,1,2,3,4,5],[0,1,2,3,4,5],[],[0,1,2,3,4,5,6,8],[0,1,2,3,4,5,6,7,8,9]],[7],by kernel_rfl,?_⟩))
      conv=>whnf
      obtain ⟨d2,kL,vV,vW,vX⟩:=g0 (QB.sub qx qy);refine ⟨(x,y),rfl,⟨RV.b6 sx (by decide),RV.b6 sy (by decide)⟩,?_⟩
      rw [show gZ.val (x,y)=d2.v from kL]
      conv=>whnf
      obtain ⟨t,et,pt,st,qt⟩:=g0 (QB.div qx vX (by decide))
      obtain ⟨e,ee,pe⟩:=fc (if d2.q=0 then 10 else 0)
      refine ⟨(x,d2),rfl,⟨RV.b6 sx (by decide),RV.b6 vW (by decide)⟩,?_⟩
      rw [show qK.val (x,d2)=.tuple ⟨[t.v,.int .i64 e]⟩ from by rw [← et,← ee]; rfl]
      conv=>whnf
      refine .inl ⟨5,[[],[],[],[],[1,2,3],[0,1,2,3,4],[0,1,2,3,4,5]],by kernel_rfl,?_⟩
      conv=>whnf
      obtain ⟨w,ew,pw,sw,qw⟩:=lN (zH qu qv qt);refine ⟨((u,v),t),rfl,⟨⟨PV.aX su (by decide),PV.aX sv (by decide)⟩,RV.aX st (by decide)⟩,?_⟩
      rw [show xP.val ((u,v),t)=w.v from ew]
      conv=>whnf
      have cw:=(PV.j3 ew).symm;rw [← pw] at cw;rw [show (bP (atR u.p v.p (x.q / (x.q - y.q)))).p=w.p from by rw [gr,pw,pt,vV]] at aw
      refine ⟨rfl,?_⟩;conv=>whnf
      refine ⟨rfl,?_⟩;conv=>whnf
      refine ⟨rfl,?_⟩;conv=>whnf
      refine ⟨⟨rfl,by show (q+1+1+1)*80≤140737488355328; omega⟩,?_⟩
      conv=>whnf
      refine ⟨rfl,?_⟩;conv=>whnf
      refine ⟨rfl,?_⟩;conv=>whnf
      rw [e8];refine .inr ⟨[0,1,2,3,4,5,6,7,8,55],[0,1,5,6,7],?_⟩;conv=>whnf
      intro _;conv=>whnf
      refine ⟨_,?_,j+1,(O++[u.p])++[w.p],q+1+1+1,_,(.aa (.aa (.sk 3 (.aa (.aa (.aa (.sk 17 .nil rfl)))) rfl))),rfl,rfl,?_⟩
      ·omega
      ·exact ⟨⟨by omega,by rw [List.length_append,List.length_append,← hq]; rfl⟩,by rw [aw]; simp,p5 (O:=O++[u.p]) (by rw [List.length_append,← hq]; rfl) (p5 hq hF cu rfl) cw rfl⟩
     ·rw [show decide (z3*z2 < 0)=false from decide_eq_false h9]
      rw [if_neg h9] at aw;conv=>whnf
      refine ⟨rfl,?_⟩;conv=>whnf
      rw [e8];refine .inr ⟨[0,1,2,3,4,5,6,7,8,35],[0,1,5,6,7],?_⟩;conv=>whnf
      intro _;conv=>whnf
      refine ⟨_,?_,j+1,O++[u.p],q+1+1,_,(.aa (.aa (.sk 3 (.aa (.aa (.aa (.sk 17 .nil rfl)))) rfl))),rfl,rfl,?_⟩
      ·omega
      ·exact ⟨⟨by omega,by rw [List.length_append,← hq]; rfl⟩,by rw [aw]; simp,p5 hq hF cu rfl⟩
    ·rw [show decide (z ≥ 0)=false from decide_eq_false h8]
     rw [if_neg h8] at aw;conv=>whnf
     refine .inl ⟨3,[[],[0],[],[0,1,2],[0,1,2,3],[0,1,2,3,4]],by kernel_rfl,?_⟩
     conv=>whnf
     obtain ⟨z3,vS,vT⟩:=fc (ba x.q 0);refine ⟨x,rfl,RV.b6 sx (by decide),?_⟩
     rw [show iO.val x=.int .i64 z3 from vS]
     conv=>whnf
     obtain ⟨z2,vU,oI⟩:=fc (ba y.q 0);refine ⟨y,rfl,RV.b6 sy (by decide),?_⟩
     rw [show iO.val y=.int .i64 z2 from vU]
     conv=>whnf
     have nK:=pU y.q 0;rw [← oI] at nK;obtain rfl:z3=z:=vT.trans pz.symm;rw [show IntKind.i64.wrap (z3*z2)=z3*z2 from by rcases hz with rfl | rfl | rfl <;> rcases nK with rfl | rfl | rfl <;> rfl]
     rw [← oI] at aw;by_cases h9:z3*z2 < 0
     ·rw [show decide (z3*z2 < 0)=true from decide_eq_true h9]
      rw [if_pos h9] at aw;conv=>whnf
      refine .inr (.inr (.inl ⟨9,1,[[],[],[],[1,2],[0,1,2,3],[0,1,2,3,4],[0,1,2,3,4,5],[0,1,2,3,4,5],[],[0,1,2,3,4,5,6,8],[0,1,2,3,4,5,6,7,8,9]],[7],by kernel_rfl,?_⟩))
      conv=>whnf
      obtain ⟨d2,kL,vV,vW,vX⟩:=g0 (QB.sub qx qy);refine ⟨(x,y),rfl,⟨RV.b6 sx (by decide),RV.b6 sy (by decide)⟩,?_⟩
      rw [show gZ.val (x,y)=d2.v from kL]
      conv=>whnf
      obtain ⟨t,et,pt,st,qt⟩:=g0 (QB.div qx vX (by decide))
      obtain ⟨e,ee,pe⟩:=fc (if d2.q=0 then 10 else 0)
      refine ⟨(x,d2),rfl,⟨RV.b6 sx (by decide),RV.b6 vW (by decide)⟩,?_⟩
      rw [show qK.val (x,d2)=.tuple ⟨[t.v,.int .i64 e]⟩ from by rw [← et,← ee]; rfl]
      conv=>whnf
      refine .inl ⟨5,[[],[],[],[],[1,2,3],[0,1,2,3,4],[0,1,2,3,4,5]],by kernel_rfl,?_⟩
      conv=>whnf
      obtain ⟨w,ew,pw,sw,qw⟩:=lN (zH qu qv qt);refine ⟨((u,v),t),rfl,⟨⟨PV.aX su (by decide),PV.aX sv (by decide)⟩,RV.aX st (by decide)⟩,?_⟩
      rw [show xP.val ((u,v),t)=w.v from ew]
      conv=>whnf
      have cw:=(PV.j3 ew).symm;rw [← pw] at cw;rw [show (bP (atR u.p v.p (x.q / (x.q - y.q)))).p=w.p from by rw [gr,pw,pt,vV]] at aw
      refine ⟨rfl,?_⟩;conv=>whnf
      refine ⟨rfl,?_⟩;conv=>whnf
      refine ⟨rfl,?_⟩;conv=>whnf
      refine ⟨⟨rfl,by show (q+1+1)*80≤140737488355328; omega⟩,?_⟩
      conv=>whnf
      refine ⟨rfl,?_⟩;conv=>whnf
      refine ⟨rfl,?_⟩;conv=>whnf
      rw [e8];refine .inr ⟨[0,1,2,3,4,5,6,7,8,52],[0,1,5,6,7],?_⟩;conv=>whnf
      intro _;conv=>whnf
      refine ⟨_,?_,j+1,O++[w.p],q+1+1,_,(.aa (.aa (.sk 3 (.aa (.aa (.aa (.sk 17 .nil rfl)))) rfl))),rfl,rfl,?_⟩
      ·omega
      ·exact ⟨⟨by omega,by rw [List.length_append,← hq]; rfl⟩,by rw [aw]; simp,p5 hq hF cw rfl⟩
     ·rw [show decide (z3*z2 < 0)=false from decide_eq_false h9]
      rw [if_neg h9] at aw;conv=>whnf
      refine ⟨rfl,?_⟩;conv=>whnf
      rw [e8];refine .inr ⟨[0,1,2,3,4,5,6,7,8,9],[0,1,5,6,7],?_⟩;conv=>whnf
      intro _;conv=>whnf
      refine ⟨_,?_,j+1,O,q+1,F,(.aa (.aa (.sk 3 (.aa (.aa (.aa (.sk 17 .nil rfl)))) rfl))),rfl,rfl,?_⟩
      ·omega
      ·exact ⟨⟨by omega,hq⟩,by rw [aw]; simp,hF⟩
   ·have h7:j=n:=by
     have:=of_decide_eq_false h7;omega
    subst h7;have zZ:dk (dP a.p b.p) L=O:=by rw [hO,hn]; exact (Np _ L).symm
    conv=>whnf
    rw [hK];unfold hJ;rw [show iL.new (some (L,c),(a,b))=some (.flat true (q+1) 6 (bI O)) from by show cl (dk (dP a.p b.p) L)=_; rw [zZ]; unfold cl; rw [← hq],show iL.val (some (L,c),(a,b))=.slice (some ⟨4,0,none⟩) (q+1) aO from by show cW _ (dk (dP a.p b.p) L).length=_; rw [zZ,← hq]; rfl]
    refine ⟨9,?_⟩;conv=>whnf
    exact ⟨⟨rfl,aD.pW (fun h=>h) hF (fun r hr=>rfl)⟩,_,rfl,.refl _⟩
open Go Go.Ae
theorem ZQ:gu Tryz.prog 60 (cD nL cR Tryz.f60):=by
 exact jw Db aQ Tryz.func60 (enters_of Tryz.func60 (by kernel_rfl) rfl)
theorem Ug:gu Tryz.prog 57 (cD nL cR Tryz.f57):=by
 exact jw Db aQ Tryz.func57 (enters_of Tryz.func57 (by kernel_rfl) rfl)
open Go Go.Ae
def RI:Env:=En [(23,.q aV),(58,.q fx),(59,.r iL)] [(60,cD nL cR Tryz.f60),(57,cD nL cR Tryz.f57),(64,cD nL cR Tryz.f64)] [(118,xd)]
theorem adr:EnvOk Tryz.prog RI:=bK ⟨B5,ZN,ab4,trivial⟩ ⟨ZQ,Ug,yR,trivial⟩
theorem ab5:iC Tryz.prog RI:=yc ⟨yD,trivial⟩
theorem ND:dq Tryz.prog 16 dn:=by
 refine eJ adr aQ Tryz.func16 (enters_of Tryz.func16 (by kernel_rfl) rfl) ?_ ?_ ?_ (hI:=ab5)
 ·intro ⟨i,k⟩ B hb;cases i <;> cases k <;> simp [dn,PL.ah] at hb
  ·rw [hb]; rfl
  ·rw [hb]; rfl
  ·rcases hb with rfl | rfl <;> rfl
 ·intro i B hb;exact yO hb
 intro ⟨i,k⟩ hp;have hp:((i.list.length≤1099511627776∧∀ v∈i.list,v.sz 2048)∧k.list.length≤1099511627776∧∀ v∈k.list,v.sz 2048)∧xS i.list k.list:=hp;obtain ⟨⟨⟨ji,ie⟩,kU,gI⟩,bf⟩:=hp;cases i with
 | none =>
  cases k with
  | none =>
   conv=>whnf
   refine ⟨none,[],rfl,⟨Nat.zero_le _,fun v hv=>nomatch hv⟩,?_⟩
   rw [show aV.ah none=[] from rfl,show aV.val none=.int .i64 4 from rfl,show aV.new none=none from rfl]
   conv=>whnf
   refine ⟨_,rfl,?_⟩;conv=>whnf
   exact ⟨_,rfl,.refl _⟩
  | some k =>
   conv=>whnf
   refine ⟨none,[],rfl,⟨Nat.zero_le _,fun v hv=>nomatch hv⟩,?_⟩
   rw [show aV.ah none=[] from rfl,show aV.val none=.int .i64 4 from rfl,show aV.new none=none from rfl]
   conv=>whnf
   refine ⟨_,rfl,?_⟩;conv=>whnf
   exact ⟨_,rfl,.refl _⟩
 | some i =>
  obtain ⟨A,c⟩:=i;have ji:A.length≤1099511627776:=ji;have ie:∀ v∈A,PV.sz 2048 v:=ie;obtain ⟨na,bA⟩:∃ n,n=A.length:=⟨_,rfl⟩;obtain ⟨ga,bX⟩:∃ g,g=di A:=⟨_,rfl⟩;cases k with
  | none =>
   obtain ⟨K,hK⟩:∃ K,K=hJ dn (some (A,c),none):=⟨_,rfl⟩;have fin:∀ H:ay,K (.tuple ⟨[.slice none 0 0,.int .i64 1]⟩) H:=fun H=>by
    have h:c8 A []=([],1):=HN fun e=>by have:=e.2; cases this
    rw [hK];unfold hJ;rw [show dn.new (some (A,c),none)=none from by show cl (c8 A []).1=none; rw [h]; rfl,show dn.val (some (A,c),none)=.tuple ⟨[.slice none 0 0,.int .i64 1]⟩ from by show Value.tuple ⟨[cW _ (c8 A []).1.length,.int .i64 (c8 A []).2]⟩=_; rw [h]; rfl]
    exact ⟨_,rfl,.refl _⟩
   rw [show dn.ah (some (A,c),none)=[.flat false na 6 ga] from by rw [bA,bX]; rfl,show dn.args (some (A,c),none)=[.slice (some ⟨0,0,none⟩) na c,.slice none 0 0] from by rw [bA]; rfl,← hK]
   rw [← bA] at ji;conv=>whnf
   refine ⟨some (A,c),[0],by rw [show aV.args (some (A,c))=[.slice (some ⟨0,0,none⟩) na c] from by rw [bA]; rfl]; rfl,⟨by show A.length≤_; omega,ie⟩,?_⟩
   rw [show aV.ah (some (A,c))=[.flat false na 6 ga] from by rw [bA,bX]; rfl,show aV.val (some (A,c))=.int .i64 (bh A) from rfl,show aV.new (some (A,c))=none from rfl]
   conv=>whnf
   refine ⟨aD.aP (fun h=>h) (fun r hr=>by rw [bX]; rfl),?_⟩
   conv=>whnf
   refine ⟨_,rfl,?_⟩;obtain ⟨e,he⟩:∃ z,z=bh A:=⟨_,rfl⟩;rw [← he];conv=>whnf
   by_cases h1:e=0
   ·rw [show (e != 0)=false from by simp [h1]]
    conv=>whnf
    refine ⟨none,[],rfl,⟨Nat.zero_le _,fun v hv=>nomatch hv⟩,?_⟩
    rw [show aV.ah none=[] from rfl,show aV.val none=.int .i64 4 from rfl,show aV.new none=none from rfl]
    conv=>whnf
    refine ⟨_,rfl,?_⟩;conv=>whnf
    exact fin _
   ·rw [show (e != 0)=true from by simp [h1]]
    conv=>whnf
    exact fin _
  | some k =>
   obtain ⟨B,d⟩:=k;have kU:B.length≤1099511627776:=kU;have gI:∀ v∈B,PV.sz 2048 v:=gI;have bf:xS A B:=bf;obtain ⟨nb,bJ⟩:∃ n,n=B.length:=⟨_,rfl⟩;obtain ⟨gb,cO⟩:∃ g,g=di B:=⟨_,rfl⟩;obtain ⟨K,hK⟩:∃ K,K=hJ dn (some (A,c),some (B,d)):=⟨_,rfl⟩;have s3:∀ (e:Int) (H:ay),c8 A B=([],e)→K (.tuple ⟨[.slice none 0 0,.int .i64 e]⟩) H:=fun e H h=>by
    rw [hK];unfold hJ;rw [show dn.new (some (A,c),some (B,d))=none from by show cl (c8 A B).1=none; rw [h]; rfl,show dn.val (some (A,c),some (B,d))=.tuple ⟨[.slice none 0 0,.int .i64 e]⟩ from by show Value.tuple ⟨[cW _ (c8 A B).1.length,.int .i64 (c8 A B).2]⟩=_; rw [h]; rfl]
    exact ⟨_,rfl,.refl _⟩
   rw [show dn.ah (some (A,c),some (B,d))=[.flat false na 6 ga,.flat false nb 6 gb] from by rw [bA,bX,bJ,cO]; rfl,show dn.args (some (A,c),some (B,d))=[.slice (some ⟨0,0,none⟩) na c,.slice (some ⟨1,0,none⟩) nb d] from by rw [bA,bJ]; rfl,← hK]
   rw [← bA] at ji;rw [← bJ] at kU;conv=>whnf
   refine ⟨some (A,c),[0],by rw [show aV.args (some (A,c))=[.slice (some ⟨0,0,none⟩) na c] from by rw [bA]; rfl]; rfl,⟨by show A.length≤_; omega,ie⟩,?_⟩
   rw [show aV.ah (some (A,c))=[.flat false na 6 ga] from by rw [bA,bX]; rfl,show aV.val (some (A,c))=.int .i64 (bh A) from rfl,show aV.new (some (A,c))=none from rfl]
   conv=>whnf
   refine ⟨aD.aP (fun h=>h) (fun r hr=>by rw [bX]; rfl),?_⟩
   conv=>whnf
   refine ⟨_,rfl,?_⟩;obtain ⟨e,he⟩:∃ z,z=bh A:=⟨_,rfl⟩;rw [← he];conv=>whnf
   by_cases h1:e=0
   ·rw [show (e != 0)=false from by simp [h1]]
    conv=>whnf
    refine ⟨some (B,d),[1],by rw [show aV.args (some (B,d))=[.slice (some ⟨0,0,none⟩) nb d] from by rw [bJ]; rfl]; rfl,⟨by show B.length≤_; omega,gI⟩,?_⟩
    rw [show aV.ah (some (B,d))=[.flat false nb 6 gb] from by rw [bJ,cO]; rfl,show aV.val (some (B,d))=.int .i64 (bh B) from rfl,show aV.new (some (B,d))=none from rfl]
    conv=>whnf
    refine ⟨aD.aP (fun h=>h) (fun r hr=>by rw [cO]; rfl),?_⟩
    conv=>whnf
    refine ⟨_,rfl,?_⟩;obtain ⟨e2,bW⟩:∃ z,z=bh B:=⟨_,rfl⟩;rw [← bW];conv=>whnf
    by_cases J:e2=0
    ·rw [show (e2 != 0)=false from by simp [J]]
     have AR:bh A=0:=by rw [← he]; exact h1
     have Er:bh B=0:=by rw [← bW]; exact J
     have bf:=bf AR Er;have JW:=iY AR;have JX:=iY Er;have JY:ga=bI (aL A):=by rw [uq AR,bX]
     have hnA:na=(aL A).length:=by rw [cm,bA]
     conv=>whnf
     intro yl nu fn tm df;conv=>whnf
     refine .inl ⟨fun mm tz hz=>∃ (j:Nat) (p:Nat) (F:Nat→List Value),bC (some (.func (.yield yl) #[] #[])::some (.pointer (some ⟨3,0,none⟩))::aF 3 (some (.slice (some ⟨1,0,none⟩) nb d)::some (.int .i64 nb)::some (.int .i64 j)::aF 17 [])) tz∧hz=[some (.flat false na 6 ga),some (.flat false nb 6 gb),some (.aS true 1 [[aer (.slice (some ⟨0,0,none⟩) na c) p j]]),some (.aS true 1 [[.slice (some ⟨1,0,none⟩) nb d]]),some (.cj (sT Tryz.f16 fn tm df))]++aes F p j∧nb - j=mm∧((j≤nb∧(0 < j→p=(jv (aL A) (aL B) j).length))∧(0 < j→∀ r,r < p→F r=bI (jv (aL A) (aL B) j) r)),.inr ⟨[0,1,2,3,4],[0,1,5,6,7],?_⟩,?_⟩
     ·conv=>whnf
      intro _;conv=>whnf
      refine ⟨_,0,0,fun _=>[],(.aa (.aa (.sk 3 (.aa (.aa (.aa (.sk 17 .nil rfl)))) rfl))),rfl,rfl,?_⟩
      exact ⟨⟨Nat.zero_le _,fun h=>absurd h (Nat.lt_irrefl 0)⟩,fun h=>absurd h (Nat.lt_irrefl 0)⟩
     rintro mm aW _ ⟨j,p,F,aB,rfl,rfl,⟨⟨hj,vM⟩,hF⟩⟩
     obtain ⟨az,rfl⟩:∃ az:Nat→Value,aW=.func (.yield yl) #[] #[]::.pointer (some ⟨3,0,none⟩)::zs az 2 3 (.slice (some ⟨1,0,none⟩) nb d::.int .i64 nb::.int .i64 j::zs az 8 17 []):=bL aB;clear aB;cases j with
     | zero =>
      conv=>whnf
      refine aN (fun h3=>?_) (fun h3=>?_)
      ·have h3:0 < nb:=by
        have:=of_decide_eq_true h3;omega
       have e7:IntKind.i64.wrap (((0:Nat):Int)+1)=((0+1:Nat):Int):=by rw [ax (by omega) (by omega)]; rfl
       obtain ⟨a,b,ra,rb,⟨ma,mb⟩,iV,cL,_,_⟩:=wF bJ h3;have sa:=gI a ma;have sb:=gI b mb;have c7:=mC h3 (by omega)
       obtain ⟨u,hu⟩:∃ u,u=aZ nb (0):=⟨_,rfl⟩;rw [← hu] at c7 cL rb;rw [← cO] at ra rb;obtain ⟨vY,vZ⟩:=bf (0) (by rw [cm]; omega)
       have hf:=Gj (a:=a.p) (b:=b.p) vY vZ (PV.cV sa (by decide)) (PV.cV sb (by decide))
       obtain ⟨C,hC⟩:∃ C,C=dk (dP a.p b.p) (jv (aL A) (aL B) (0)):=⟨_,rfl⟩;obtain ⟨R,hR⟩:∃ R,R=gf C:=⟨_,rfl⟩;have n4:=Fi iV hC hR;obtain ⟨m,hm⟩:∃ m,m=C.length:=⟨_,rfl⟩;obtain ⟨q,hq⟩:∃ m,m=R.length:=⟨_,rfl⟩;conv=>whnf
       refine ⟨⟨by omega,by omega⟩,?_⟩
       simp only [toNat_cast,aA,Nat.zero_add];conv=>whnf
       refine ⟨by show 0 < nb; omega,?_⟩
       conv=>whnf
       rw [ra];conv=>whnf
       refine .inl ⟨10,[[],[],[],[],[3],[],[5],[3,4,5,6],[2,3,4,5,6,7],[2,3,4,5,6,7,8],[0,1,2,3,4,5,6,7,8,9],[0,1,2,3,4,5,6,7,8,9,10]],by kernel_rfl,?_⟩
       conv=>whnf
       rw [show decide ((nb:Int)≠0)=true from decide_eq_true (by omega)]
       conv=>whnf
       rw [c7];refine ⟨⟨by omega,by omega⟩,?_⟩
       simp only [toNat_cast,aA,Nat.zero_add];conv=>whnf
       refine ⟨by show u < nb; omega,?_⟩
       conv=>whnf
       rw [rb];conv=>whnf
       refine ⟨rfl,?_⟩;conv=>whnf
       refine ⟨rfl,?_⟩;conv=>whnf
       refine ⟨rfl,?_⟩;conv=>whnf
       refine ⟨(some (aL A,c),(a,b)),[0,18,19,20],rfl,⟨vY,vZ,sa,sb⟩,?_⟩;rw [show iL.ah (some (aL A,c),(a,b))=[.flat false na 6 ga,.aS false 1 [[.slice (some ⟨0,0,none⟩) na c]],.aS false 6 [a.cells],.aS false 6 [b.cells]] from by rw [hnA,JY]; rfl,show iL.val (some (aL A,c),(a,b))=cW 4 m from by rw [hm,hC]; rfl]
       rw [show iL.new (some (aL A,c),(a,b))=cl C from by rw [hC]; rfl]
       cases m with
       | zero =>
        obtain rfl:C=[]:=List.eq_nil_of_length_eq_zero hm.symm;conv=>whnf
        refine ⟨.inl (aD.aP (fun h=>h) (fun r hr=>by rw [JY]; rfl)),?_⟩
        conv=>whnf
        refine ⟨.inr ⟨_,_,_,_,rfl,rfl,rfl⟩,?_⟩;conv=>whnf
        refine ⟨.inr ⟨_,_,_,_,rfl,rfl,rfl⟩,?_⟩;conv=>whnf
        refine ⟨.inr ⟨_,_,_,_,rfl,rfl,rfl⟩,?_⟩;conv=>whnf
        refine ⟨_,rfl,?_⟩;conv=>whnf
        refine ⟨none,[],rfl,⟨Nat.zero_le _,fun v hv=>nomatch hv⟩,?_⟩
        rw [show fx.ah none=[] from rfl,show fx.val none=.slice none 0 0 from rfl,show fx.new none=none from rfl]
        conv=>whnf
        refine ⟨_,rfl,?_⟩;conv=>whnf
        rw [show gf []=[] from rfl] at hR
        subst hR;refine ⟨rfl,?_⟩;conv=>whnf
        rw [e7];refine .inr ⟨[0,1,2,3,4],[0,1,5,6,7],?_⟩;conv=>whnf
        intro _;conv=>whnf
        refine ⟨_,?_,0+1,0,fun _=>[],(.aa (.aa (.sk 3 (.aa (.aa (.aa (.sk 17 .nil rfl)))) rfl))),rfl,rfl,?_⟩
        ·omega
        ·exact ⟨⟨by omega,fun _=>congrArg List.length n4⟩,fun _ r hr=>absurd hr (Nat.not_lt_zero r)⟩
       | succ m =>
        rw [show cl C=some (.flat true (m+1) 6 (bI C)) from by unfold cl; rw [← hm]]
        conv=>whnf
        refine ⟨.inl (aD.aP (fun h=>h) (fun r hr=>by rw [JY]; rfl)),?_⟩
        conv=>whnf
        refine ⟨.inr ⟨_,_,_,_,rfl,rfl,rfl⟩,?_⟩;conv=>whnf
        refine ⟨.inr ⟨_,_,_,_,rfl,rfl,rfl⟩,?_⟩;conv=>whnf
        refine ⟨.inr ⟨_,_,_,_,rfl,rfl,rfl⟩,?_⟩;conv=>whnf
        refine ⟨_,rfl,?_⟩;conv=>whnf
        refine ⟨some (C,aO),[21],by rw [show fx.args (some (C,aO))=[.slice (some ⟨0,0,none⟩) (m+1) aO] from by rw [hm]; rfl]; rfl,⟨by rw [hC]; exact hf.1,fun v hv=>hf.2 v (by rw [← hC]; exact hv)⟩,?_⟩
        obtain ⟨G,hG⟩:∃ G,G=bI C:=⟨_,rfl⟩;rw [← hG,show fx.ah (some (C,aO))=[.flat false (m+1) 6 G] from by rw [hm,hG]; rfl,show fx.val (some (C,aO))=cW 1 q from by rw [hq,hR]; rfl,show fx.new (some (C,aO))=cl R from by rw [hR]; rfl]
        cases q with
        | zero =>
         obtain rfl:R=[]:=List.eq_nil_of_length_eq_zero hq.symm;conv=>whnf
         refine ⟨aD.aP (fun h=>by cases h) (fun r hr=>by rw [hG]; rfl),?_⟩
         conv=>whnf
         refine ⟨_,rfl,?_⟩;conv=>whnf
         refine ⟨rfl,?_⟩;conv=>whnf
         rw [e7];refine .inr ⟨[0,1,2,3,4],[0,1,5,6,7],?_⟩;conv=>whnf
         intro _;conv=>whnf
         refine ⟨_,?_,0+1,0,fun _=>[],(.aa (.aa (.sk 3 (.aa (.aa (.aa (.sk 17 .nil rfl)))) rfl))),rfl,rfl,?_⟩
         ·omega
         ·exact ⟨⟨by omega,fun _=>congrArg List.length n4⟩,fun _ r hr=>absurd hr (Nat.not_lt_zero r)⟩
        | succ q =>
         obtain ⟨E,hE⟩:∃ G,G=bI R:=⟨_,rfl⟩;rw [show cl R=some (.flat true (q+1) 6 E) from by unfold cl; rw [← hq,hE]]
         conv=>whnf
         refine ⟨aD.aP (fun h=>by cases h) (fun r hr=>by rw [hG]; rfl),?_⟩
         conv=>whnf
         refine ⟨_,rfl,?_⟩;conv=>whnf
         refine ⟨rfl,?_⟩;conv=>whnf
         rw [e7];refine .inr ⟨[0,1,2,3,4,22],[0,1,5,6,7],?_⟩;conv=>whnf
         intro _;conv=>whnf
         refine ⟨_,?_,0+1,q+1,E,(.aa (.aa (.sk 3 (.aa (.aa (.aa (.sk 17 .nil rfl)))) rfl))),rfl,rfl,?_⟩
         ·omega
         ·exact ⟨⟨by omega,fun _=>hq.trans (congrArg List.length n4)⟩,fun _ r hr=>by rw [hE,n4]⟩
      ·have:=of_decide_eq_false h3;omega
     | succ j =>
      have nG:=vM (Nat.succ_pos j);have Es:=hF (Nat.succ_pos j);obtain ⟨S,hS⟩:∃ S,S=jv (aL A) (aL B) (j+1):=⟨_,rfl⟩;rw [← hS] at nG Es;cases p with
      | zero =>
       obtain rfl:S=[]:=List.eq_nil_of_length_eq_zero nG.symm;conv=>whnf
       refine aN (fun h3=>?_) (fun h3=>?_)
       ·have h3:(j+1) < nb:=by
         have:=of_decide_eq_true h3;omega
        have e7:IntKind.i64.wrap ((((j+1):Nat):Int)+1)=(((j+1)+1:Nat):Int):=by rw [ax (by omega) (by omega)]; rfl
        obtain ⟨a,b,ra,rb,⟨ma,mb⟩,iV,cL,_,_⟩:=wF bJ h3;have sa:=gI a ma;have sb:=gI b mb;have c7:=mC h3 (by omega)
        obtain ⟨u,hu⟩:∃ u,u=aZ nb ((j+1)):=⟨_,rfl⟩;rw [← hu] at c7 cL rb;rw [← cO] at ra rb;obtain ⟨vY,vZ⟩:=bf ((j+1)) (by rw [cm]; omega)
        have hf:=Gj (a:=a.p) (b:=b.p) vY vZ (PV.cV sa (by decide)) (PV.cV sb (by decide))
        obtain ⟨C,hC⟩:∃ C,C=dk (dP a.p b.p) (jv (aL A) (aL B) ((j+1))):=⟨_,rfl⟩;obtain ⟨R,hR⟩:∃ R,R=gf C:=⟨_,rfl⟩;have n4:=Fi iV hC hR;obtain ⟨m,hm⟩:∃ m,m=C.length:=⟨_,rfl⟩;obtain ⟨q,hq⟩:∃ m,m=R.length:=⟨_,rfl⟩;conv=>whnf
        refine ⟨⟨by omega,by omega⟩,?_⟩
        simp only [toNat_cast,aA,Nat.zero_add];conv=>whnf
        refine ⟨by show (j+1) < nb; omega,?_⟩
        conv=>whnf
        rw [ra];conv=>whnf
        refine .inl ⟨10,[[],[],[],[],[3],[],[5],[3,4,5,6],[2,3,4,5,6,7],[2,3,4,5,6,7,8],[0,1,2,3,4,5,6,7,8,9],[0,1,2,3,4,5,6,7,8,9,10]],by kernel_rfl,?_⟩
        conv=>whnf
        rw [show decide ((nb:Int)≠0)=true from decide_eq_true (by omega)]
        conv=>whnf
        rw [c7];refine ⟨⟨by omega,by omega⟩,?_⟩
        simp only [toNat_cast,aA,Nat.zero_add];conv=>whnf
        refine ⟨by show u < nb; omega,?_⟩
        conv=>whnf
        rw [rb];conv=>whnf
        refine ⟨rfl,?_⟩;conv=>whnf
        refine ⟨rfl,?_⟩;conv=>whnf
        refine ⟨rfl,?_⟩;conv=>whnf
        refine ⟨(none,(a,b)),[18,19,20],rfl,⟨Nat.zero_le _,(fun v hv=>nomatch hv),sa,sb⟩,?_⟩
        rw [show iL.ah (none,(a,b))=[.aS false 1 [[.slice none 0 0]],.aS false 6 [a.cells],.aS false 6 [b.cells]] from rfl,show iL.val (none,(a,b))=.slice none 0 0 from rfl,show iL.new (none,(a,b))=none from rfl]
        conv=>whnf
        refine ⟨.inr ⟨_,_,_,_,rfl,rfl,rfl⟩,?_⟩;conv=>whnf
        refine ⟨.inr ⟨_,_,_,_,rfl,rfl,rfl⟩,?_⟩;conv=>whnf
        refine ⟨.inr ⟨_,_,_,_,rfl,rfl,rfl⟩,?_⟩;conv=>whnf
        refine ⟨_,rfl,?_⟩;conv=>whnf
        refine ⟨none,[],rfl,⟨Nat.zero_le _,fun v hv=>nomatch hv⟩,?_⟩
        rw [show fx.ah none=[] from rfl,show fx.val none=.slice none 0 0 from rfl,show fx.new none=none from rfl]
        conv=>whnf
        refine ⟨_,rfl,?_⟩;conv=>whnf
        obtain rfl:C=[]:=by rw [hC,← hS]; rfl
        rw [show gf []=[] from rfl] at hR
        subst hR;refine ⟨rfl,?_⟩;conv=>whnf
        rw [e7];refine .inr ⟨[0,1,2,3,4],[0,1,5,6,7],?_⟩;conv=>whnf
        intro _;conv=>whnf
        refine ⟨_,?_,(j+1)+1,0,fun _=>[],(.aa (.aa (.sk 3 (.aa (.aa (.aa (.sk 17 .nil rfl)))) rfl))),rfl,rfl,?_⟩
        ·omega
        ·exact ⟨⟨by omega,fun _=>congrArg List.length n4⟩,fun _ r hr=>absurd hr (Nat.not_lt_zero r)⟩
       ·have h3:j+1=nb:=by
         have:=of_decide_eq_false h3;omega
        conv=>whnf
        exact s3 11 _ ((OX ⟨AR,Er⟩ (R:=[]) (by rw [← bJ,← h3]; exact hS)).trans (XM rfl))
      | succ p =>
       conv=>whnf
       refine aN (fun h3=>?_) (fun h3=>?_)
       ·have h3:(j+1) < nb:=by
         have:=of_decide_eq_true h3;omega
        have e7:IntKind.i64.wrap ((((j+1):Nat):Int)+1)=(((j+1)+1:Nat):Int):=by rw [ax (by omega) (by omega)]; rfl
        obtain ⟨a,b,ra,rb,⟨ma,mb⟩,iV,cL,_,_⟩:=wF bJ h3;have sa:=gI a ma;have sb:=gI b mb;have c7:=mC h3 (by omega)
        obtain ⟨u,hu⟩:∃ u,u=aZ nb ((j+1)):=⟨_,rfl⟩;rw [← hu] at c7 cL rb;rw [← cO] at ra rb;obtain ⟨vY,vZ⟩:=bf ((j+1)) (by rw [cm]; omega)
        have hf:=Gj (a:=a.p) (b:=b.p) vY vZ (PV.cV sa (by decide)) (PV.cV sb (by decide))
        obtain ⟨C,hC⟩:∃ C,C=dk (dP a.p b.p) (jv (aL A) (aL B) ((j+1))):=⟨_,rfl⟩;obtain ⟨R,hR⟩:∃ R,R=gf C:=⟨_,rfl⟩;have n4:=Fi iV hC hR;obtain ⟨m,hm⟩:∃ m,m=C.length:=⟨_,rfl⟩;obtain ⟨q,hq⟩:∃ m,m=R.length:=⟨_,rfl⟩;conv=>whnf
        refine ⟨⟨by omega,by omega⟩,?_⟩
        simp only [toNat_cast,aA,Nat.zero_add];conv=>whnf
        refine ⟨by show (j+1) < nb; omega,?_⟩
        conv=>whnf
        rw [ra];conv=>whnf
        refine .inl ⟨10,[[],[],[],[],[3],[],[5],[3,4,5,6],[2,3,4,5,6,7],[2,3,4,5,6,7,8],[0,1,2,3,4,5,6,7,8,9],[0,1,2,3,4,5,6,7,8,9,10]],by kernel_rfl,?_⟩
        conv=>whnf
        rw [show decide ((nb:Int)≠0)=true from decide_eq_true (by omega)]
        conv=>whnf
        rw [c7];refine ⟨⟨by omega,by omega⟩,?_⟩
        simp only [toNat_cast,aA,Nat.zero_add];conv=>whnf
        refine ⟨by show u < nb; omega,?_⟩
        conv=>whnf
        rw [rb];conv=>whnf
        refine ⟨rfl,?_⟩;conv=>whnf
        refine ⟨rfl,?_⟩;conv=>whnf
        refine ⟨rfl,?_⟩;conv=>whnf
        refine ⟨(some (S,aO),(a,b)),[5,19,20,21],by rw [show iL.args (some (S,aO),(a,b))=[.func (.func 114) #[] #[.pointer (some ⟨1,0,none⟩),.pointer (some ⟨2,0,none⟩),.pointer (some ⟨3,0,none⟩)]] from rfl]; rfl,⟨by rw [hS]; exact vY,by rw [hS]; exact vZ,sa,sb⟩,?_⟩
        rw [show iL.ah (some (S,aO),(a,b))=[.flat false (p+1) 6 (bI S),.aS false 1 [[.slice (some ⟨0,0,none⟩) (p+1) aO]],.aS false 6 [a.cells],.aS false 6 [b.cells]] from by rw [nG]; rfl,show iL.val (some (S,aO),(a,b))=cW 4 m from by rw [hm,hC,← hS]; rfl]
        rw [show iL.new (some (S,aO),(a,b))=cl C from by rw [hC,← hS]; rfl]
        cases m with
        | zero =>
         obtain rfl:C=[]:=List.eq_nil_of_length_eq_zero hm.symm;conv=>whnf
         refine ⟨.inl (aD.pW (fun h=>by cases h) Es (fun r hr=>rfl)),?_⟩
         conv=>whnf
         refine ⟨.inr ⟨_,_,_,_,rfl,rfl,rfl⟩,?_⟩;conv=>whnf
         refine ⟨.inr ⟨_,_,_,_,rfl,rfl,rfl⟩,?_⟩;conv=>whnf
         refine ⟨.inr ⟨_,_,_,_,rfl,rfl,rfl⟩,?_⟩;conv=>whnf
         refine ⟨_,rfl,?_⟩;conv=>whnf
         refine ⟨none,[],rfl,⟨Nat.zero_le _,fun v hv=>nomatch hv⟩,?_⟩
         rw [show fx.ah none=[] from rfl,show fx.val none=.slice none 0 0 from rfl,show fx.new none=none from rfl]
         conv=>whnf
         refine ⟨_,rfl,?_⟩;conv=>whnf
         rw [show gf []=[] from rfl] at hR
         subst hR;refine ⟨rfl,?_⟩;conv=>whnf
         rw [e7];refine .inr ⟨[0,1,2,3,4],[0,1,5,6,7],?_⟩;conv=>whnf
         intro _;conv=>whnf
         refine ⟨_,?_,(j+1)+1,0,fun _=>[],(.aa (.aa (.sk 3 (.aa (.aa (.aa (.sk 17 .nil rfl)))) rfl))),rfl,rfl,?_⟩
         ·omega
         ·exact ⟨⟨by omega,fun _=>congrArg List.length n4⟩,fun _ r hr=>absurd hr (Nat.not_lt_zero r)⟩
        | succ m =>
         rw [show cl C=some (.flat true (m+1) 6 (bI C)) from by unfold cl; rw [← hm]]
         conv=>whnf
         refine ⟨.inl (aD.pW (fun h=>by cases h) Es (fun r hr=>rfl)),?_⟩
         conv=>whnf
         refine ⟨.inr ⟨_,_,_,_,rfl,rfl,rfl⟩,?_⟩;conv=>whnf
         refine ⟨.inr ⟨_,_,_,_,rfl,rfl,rfl⟩,?_⟩;conv=>whnf
         refine ⟨.inr ⟨_,_,_,_,rfl,rfl,rfl⟩,?_⟩;conv=>whnf
         refine ⟨_,rfl,?_⟩;conv=>whnf
         refine ⟨some (C,aO),[22],by rw [show fx.args (some (C,aO))=[.slice (some ⟨0,0,none⟩) (m+1) aO] from by rw [hm]; rfl]; rfl,⟨by rw [hC]; exact hf.1,fun v hv=>hf.2 v (by rw [← hC]; exact hv)⟩,?_⟩
         obtain ⟨G,hG⟩:∃ G,G=bI C:=⟨_,rfl⟩;rw [← hG,show fx.ah (some (C,aO))=[.flat false (m+1) 6 G] from by rw [hm,hG]; rfl,show fx.val (some (C,aO))=cW 1 q from by rw [hq,hR]; rfl,show fx.new (some (C,aO))=cl R from by rw [hR]; rfl]
         cases q with
         | zero =>
          obtain rfl:R=[]:=List.eq_nil_of_length_eq_zero hq.symm;conv=>whnf
          refine ⟨aD.aP (fun h=>by cases h) (fun r hr=>by rw [hG]; rfl),?_⟩
          conv=>whnf
          refine ⟨_,rfl,?_⟩;conv=>whnf
          refine ⟨rfl,?_⟩;conv=>whnf
          rw [e7];refine .inr ⟨[0,1,2,3,4],[0,1,5,6,7],?_⟩;conv=>whnf
          intro _;conv=>whnf
          refine ⟨_,?_,(j+1)+1,0,fun _=>[],(.aa (.aa (.sk 3 (.aa (.aa (.aa (.sk 17 .nil rfl)))) rfl))),rfl,rfl,?_⟩
          ·omega
          ·exact ⟨⟨by omega,fun _=>congrArg List.length n4⟩,fun _ r hr=>absurd hr (Nat.not_lt_zero r)⟩
         | succ q =>
          obtain ⟨E,hE⟩:∃ G,G=bI R:=⟨_,rfl⟩;rw [show cl R=some (.flat true (q+1) 6 E) from by unfold cl; rw [← hq,hE]]
          conv=>whnf
          refine ⟨aD.aP (fun h=>by cases h) (fun r hr=>by rw [hG]; rfl),?_⟩
          conv=>whnf
          refine ⟨_,rfl,?_⟩;conv=>whnf
          refine ⟨rfl,?_⟩;conv=>whnf
          rw [e7];refine .inr ⟨[0,1,2,3,4,23],[0,1,5,6,7],?_⟩;conv=>whnf
          intro _;conv=>whnf
          refine ⟨_,?_,(j+1)+1,q+1,E,(.aa (.aa (.sk 3 (.aa (.aa (.aa (.sk 17 .nil rfl)))) rfl))),rfl,rfl,?_⟩
          ·omega
          ·exact ⟨⟨by omega,fun _=>hq.trans (congrArg List.length n4)⟩,fun _ r hr=>by rw [hE,n4]⟩
       ·have h3:j+1=nb:=by
         have:=of_decide_eq_false h3;omega
        have hv:=OX ⟨AR,Er⟩ (R:=S) (by rw [← bJ,← h3]; exact hS)
        conv=>whnf
        by_cases h6:64 < p+1
        ·rw [show decide (((p+1:Nat):Int) > 64)=true from decide_eq_true (by omega)]
         conv=>whnf
         exact s3 4 _ (hv.trans (XN (by omega)))
        ·rw [show decide (((p+1:Nat):Int) > 64)=false from decide_eq_false (by omega)]
         conv=>whnf
         rw [hK];unfold hJ;rw [OW (by omega) (by omega)] at hv
         rw [show dn.new (some (A,c),some (B,d))=some (.flat true (p+1) 6 (bI S)) from by show cl (c8 A B).1=_; rw [hv]; unfold cl; rw [← nG],show dn.val (some (A,c),some (B,d))=.tuple ⟨[.slice (some ⟨2,0,none⟩) (p+1) aO,.int .i64 0]⟩ from by show Value.tuple ⟨[cW _ (c8 A B).1.length,.int .i64 (c8 A B).2]⟩=_; rw [hv,← nG]; rfl]
         refine ⟨5,?_⟩;conv=>whnf
         exact ⟨⟨rfl,aD.pW (fun h=>h) Es (fun r hr=>rfl)⟩,_,rfl,.refl _⟩
    ·rw [show (e2 != 0)=true from by simp [J]]
     conv=>whnf
     exact s3 1 _ (HN fun h=>J (by rw [bW]; exact h.2))
   ·rw [show (e != 0)=true from by simp [h1]]
    conv=>whnf
    exact s3 1 _ (HN fun h=>h1 (by rw [he]; exact h.1))
open Go Go.Ae
theorem ZR:bk Tryz.prog 101 (qV true):=by
 refine bn qM aQ Tryz.func101 (enters_of Tryz.func101 (by kernel_rfl) rfl) (fun _=>rfl) (fun _=>rfl) ?_
 intro (z:Int) hp;conv=>whnf
 rfl
theorem ZS:bk Tryz.prog 103 (qV false):=by
 refine bn qM aQ Tryz.func103 (enters_of Tryz.func103 (by kernel_rfl) rfl) (fun _=>rfl) (fun _=>rfl) ?_
 intro (z:Int) hp;conv=>whnf
 rfl
theorem ZT:bk Tryz.prog 105 (qV true):=by
 refine bn qM aQ Tryz.func105 (enters_of Tryz.func105 (by kernel_rfl) rfl) (fun _=>rfl) (fun _=>rfl) ?_
 intro (z:Int) hp;conv=>whnf
 rfl
def JZ:Env:=En [(32,.p nP),(101,.p (qV true)),(103,.p (qV false)),(105,.p (qV true))]
theorem ads:EnvOk Tryz.prog JZ:=bK ⟨MQ,ZR,ZS,ZT,trivial⟩ trivial
theorem Uh:gu Tryz.prog 168 (cD JZ cR Tryz.f168):=by
 exact jw ads aQ Tryz.func168 (enters_of Tryz.func168 (by kernel_rfl) rfl)
def J0:Env:=En [] [(168,cD JZ cR Tryz.f168)]
theorem adt:EnvOk Tryz.prog J0:=bK trivial ⟨Uh,trivial⟩
theorem Vp:gu Tryz.prog 106 (cD J0 cR Tryz.f106):=by
 exact jw adt aQ Tryz.func106 (enters_of Tryz.func106 (by kernel_rfl) rfl)
def J1:Env:=En [] [(106,cD J0 cR Tryz.f106)]
theorem adu:EnvOk Tryz.prog J1:=bK trivial ⟨Vp,trivial⟩
theorem Sr:gu Tryz.prog 49 (cD J1 cR Tryz.f49):=by
 exact jw adu aQ Tryz.func49 (enters_of Tryz.func49 (by kernel_rfl) rfl)
def RJ:Env:=En [] [(49,cD J1 cR Tryz.f49),(64,cD nL cR Tryz.f64)] [(118,xd)]
theorem adv:EnvOk Tryz.prog RJ:=bK trivial ⟨Sr,yR,trivial⟩
theorem ab6:iC Tryz.prog RJ:=yc ⟨yD,trivial⟩
abbrev kd:aY:=xT 101 103 105 fE
abbrev iX:aY:=xT 101 103 105 eW
theorem Vq:dq Tryz.prog 144 kd:=by
 refine eJ adv aQ Tryz.func144 (enters_of Tryz.func144 (by kernel_rfl) rfl) ?_ ?_ ?_ (hI:=ab6)
 ·intro i b hb; simp [kd,xT] at hb; rcases hb with rfl | rfl <;> rfl
 ·intro i b hb; simp [kd,xT] at hb
 intro ⟨⟨⟨A,c⟩,⟨B,d⟩⟩,f,s⟩ hp;have hp:((f,s)=(101,true)∨(f,s)=(103,false)∨(f,s)=(105,true))∧(A.length≤1073741824∧∀ v∈A,Q2.sz 2048 v)∧B.length≤1073741824∧∀ v∈B,Q2.sz 2048 v:=hp;obtain ⟨vL,⟨hla,AS⟩,hlb,Et⟩:=hp;obtain ⟨n,hn⟩:∃ n,n=A.length:=⟨_,rfl⟩;obtain ⟨g,hg⟩:∃ g,g=bI A:=⟨_,rfl⟩;obtain ⟨m,hm⟩:∃ n,n=B.length:=⟨_,rfl⟩;obtain ⟨g2,tx⟩:∃ g,g=bI B:=⟨_,rfl⟩;obtain ⟨K,hK⟩:∃ K,K=hJ kd (((A,c),(B,d)),(f,s)):=⟨_,rfl⟩;have fin:∀ (x:XV) (z:Bool) (H:ay),ff (fE s A B)=(x,z)→K (.tuple ⟨[x.v,.bool z]⟩) H:=fun x z H h=>by
  rw [hK];unfold hJ;rw [show kd.new (((A,c),(B,d)),(f,s))=none from rfl,show kd.val (((A,c),(B,d)),(f,s))=.tuple ⟨[x.v,.bool z]⟩ from by show Value.tuple ⟨[(ff (fE s A B)).1.v,.bool (ff (fE s A B)).2]⟩=_; rw [h]]
  exact ⟨_,rfl,.refl _⟩
 rw [show kd.ah (((A,c),(B,d)),(f,s))=[.flat false n 6 g,.flat false m 6 g2] from by rw [hn,hg,hm,tx]; rfl,show kd.args (((A,c),(B,d)),(f,s))=[.slice (some ⟨0,0,none⟩) n c,.slice (some ⟨1,0,none⟩) m d,.func (.func f) #[] #[]] from by rw [hn,hm]; rfl,← hK]
 rw [← hn] at hla;rw [← hm] at hlb;conv=>whnf
 intro yl nu fn tm df;conv=>whnf
 refine .inl ⟨fun mm tz hz=>∃ (j:Nat),bC (some (.func (.yield yl) #[] #[])::some (.pointer (some ⟨6,0,none⟩))::aF 3 (some (.slice (some ⟨0,0,none⟩) n c)::some (.int .i64 n)::some (.int .i64 j)::aF 17 [])) tz∧hz=[some (.flat false n 6 g),some (.flat false m 6 g2),some (.aS true 1 [[.slice (some ⟨1,0,none⟩) m d]]),some (.aS true 1 [[.func (.func f) #[] #[]]]),some (.aS true 12 [ko.cells]),some (.aS true 1 [[.bool false]]),some (.aS true 1 [[.slice (some ⟨0,0,none⟩) n c]]),some (.cj (sT Tryz.f144 fn tm df))]∧n - j=mm∧(j≤n∧nV (nt s B) (bc A) j),.inr ⟨[0,1,2,3,4,5,6,7],[0,1,5,6,7],?_⟩,?_⟩
 ·conv=>whnf
  intro _;conv=>whnf
  refine ⟨_,0,(.aa (.aa (.sk 3 (.aa (.aa (.aa (.sk 17 .nil rfl)))) rfl))),rfl,rfl,?_⟩;exact ⟨Nat.zero_le _,EL _ _⟩
 rintro mm aW _ ⟨j,aB,rfl,rfl,⟨hj,hU⟩⟩
 obtain ⟨az,rfl⟩:∃ az:Nat→Value,aW=.func (.yield yl) #[] #[]::.pointer (some ⟨6,0,none⟩)::zs az 2 3 (.slice (some ⟨0,0,none⟩) n c::.int .i64 n::.int .i64 j::zs az 8 17 []):=bL aB;clear aB;conv=>whnf
 refine aN (fun h3=>?_) (fun h3=>?_)
 ·have h3:j < n:=by
   have:=of_decide_eq_true h3;omega
  have e7:IntKind.i64.wrap ((j:Int)+1)=((j+1:Nat):Int):=by rw [ax (by omega) (by omega)]; rfl
  obtain ⟨a,ca,ra,pa,sa,qa⟩:=iA (L:=A) (k:=j) (by omega) AS
  obtain ⟨b,cb,rb,pb,sb,qb⟩:=iA (L:=A) (k:=aZ n j) (by rw [hn]; exact cJ (by omega)) AS
  have c7:=mC h3 (by omega)
  have cL:=cJ h3;have iV:(bc A)[j]?=some (a.p,b.p):=by rw [pa,pb]; rw [hn] at cL ⊢; exact pX (gO (by omega)) (gO cL)
  rw [← pa] at ca;rw [← pb] at cb;obtain ⟨u,hu⟩:∃ u,u=aZ n j:=⟨_,rfl⟩;rw [← hu] at c7 cL rb;rw [← hg] at ra rb;conv=>whnf
  refine ⟨⟨by omega,by omega⟩,?_⟩
  simp only [toNat_cast,aA,Nat.zero_add];conv=>whnf
  refine ⟨by show j < n; omega,?_⟩
  conv=>whnf
  rw [ra];conv=>whnf
  refine .inl ⟨10,[[],[],[],[],[3],[],[5],[3,4,5,6],[2,3,4,5,6,7],[2,3,4,5,6,7,8],[0,1,2,3,4,5,6,7,8,9],[0,1,2,3,4,5,6,7,8,9,10]],by kernel_rfl,?_⟩
  conv=>whnf
  rw [show decide ((n:Int)≠0)=true from decide_eq_true (by omega)]
  conv=>whnf
  rw [c7];refine ⟨⟨by omega,by omega⟩,?_⟩
  simp only [toNat_cast,aA,Nat.zero_add];conv=>whnf
  refine ⟨by show u < n; omega,?_⟩
  conv=>whnf
  rw [rb];conv=>whnf
  refine ⟨rfl,?_⟩;conv=>whnf
  refine ⟨rfl,?_⟩;conv=>whnf
  refine ⟨rfl,?_⟩;conv=>whnf
  refine .inl ⟨fun mm tz hz=>∃ (i:Nat),bC (some (.slice (some ⟨1,0,none⟩) m d)::some (.func (.func 168) #[] #[.pointer (some ⟨3,0,none⟩),.pointer (some ⟨19,0,none⟩),.pointer (some ⟨20,0,none⟩)])::aF 5 (some (.int .i64 m)::some (.int .i64 i)::aF 10 [])) tz∧hz=[some (.flat false n 6 g),some (.flat false m 6 g2),some (.aS true 1 [[.slice (some ⟨1,0,none⟩) m d]]),some (.aS true 1 [[.func (.func f) #[] #[]]]),some (.aS true 12 [ko.cells]),some (.aS true 1 [[.bool false]]),some (.aS true 1 [[.slice (some ⟨0,0,none⟩) n c]]),some (.cj { sT Tryz.f144 fn tm df with state:=.busy }),some (.aS true 6 [a.cells]),none,none,none,none,none,none,none,none,none,none,some (.aS true 6 [a.cells]),some (.aS true 6 [b.cells])]∧m - i=mm∧(i≤m∧nV (sY s a.p b.p) B i),.inr ⟨[0,1,2,3,4,5,6,7,8,9,10,11,12,13,14,15,16,17,18,19,20],[0,1,7,8],?_⟩,?_⟩
  ·conv=>whnf
   intro _;conv=>whnf
   refine ⟨_,0,(.aa (.aa (.sk 5 (.aa (.aa (.sk 10 .nil rfl))) rfl))),rfl,rfl,?_⟩;exact ⟨Nat.zero_le _,EL _ _⟩
  rintro mm aW _ ⟨i,aB,rfl,rfl,⟨hi,hV⟩⟩
  obtain ⟨az,rfl⟩:∃ az:Nat→Value,aW=.slice (some ⟨1,0,none⟩) m d::.func (.func 168) #[] #[.pointer (some ⟨3,0,none⟩),.pointer (some ⟨19,0,none⟩),.pointer (some ⟨20,0,none⟩)]::zs az 2 5 (.int .i64 m::.int .i64 i::zs az 9 10 []):=bL aB;clear aB;conv=>whnf
  refine aN (fun h4=>?_) (fun h4=>?_)
  ·have h4:i < m:=by
    have:=of_decide_eq_true h4;omega
   have e8:IntKind.i64.wrap ((i:Int)+1)=((i+1:Nat):Int):=by rw [ax (by omega) (by omega)]; rfl
   obtain ⟨x,cx,rx,px,sx,qx⟩:=iA (L:=B) (k:=i) (by omega) Et
   rw [← tx] at rx;have J2:x.p∈B:=by rw [px]; exact eL (by omega)
   have J3:B[i]?=some x.p:=by rw [px]; exact gO (by omega)
   conv=>whnf
   refine ⟨⟨by omega,by omega⟩,?_⟩
   simp only [toNat_cast,aA,Nat.zero_add];conv=>whnf
   refine ⟨by show i < m; omega,?_⟩
   conv=>whnf
   rw [rx];conv=>whnf
   refine .inl ⟨5,[[],[],[],[],[1,2,3],[0,1,2,3,4],[0,1,2,3,4,5],[0,1,2,3,4,5,6]],by kernel_rfl,?_⟩
   conv=>whnf
   obtain ⟨z,ez,pz⟩:=fc (ba (ao a.p b.p x.p) 0);refine ⟨(a,b,x),rfl,⟨PV.aX sa (by decide),PV.aX sb (by decide),PV.aX sx (by decide)⟩,?_⟩
   rw [show nP.val (a,b,x)=.int .i64 z from ez]
   conv=>whnf
   obtain ⟨w,hw⟩:∃ w,w=rC s z:=⟨_,rfl⟩;have g8:sY s a.p b.p x.p=!w:=by unfold sY; rw [← pz,← hw]
   rcases vL with h | h | h
   ·obtain ⟨rfl,rfl⟩:=Prod.mk.inj h;refine ⟨(z:Int),rfl,trivial,?_⟩;rw [show (qV true).val z=.bool w from by rw [hw]; rfl]
    conv=>whnf
    cases w with
    | true =>
     conv=>whnf
     rw [e8];refine .inr ⟨[0,1,2,3,4,5,6,7,8,9,10,11,12,13,14,15,16,17,18,19,20],[0,1,7,8],?_⟩;conv=>whnf
     intro _;conv=>whnf
     refine ⟨_,?_,i+1,(.aa (.aa (.sk 5 (.aa (.aa (.sk 10 .nil rfl))) rfl))),rfl,rfl,?_⟩
     ·omega
     ·exact ⟨by omega,tU hV J3 g8⟩
    | false =>
     conv=>whnf
     refine ⟨rfl,?_⟩;conv=>whnf
     rw [e7];refine .inr ⟨[0,1,2,3,4,5,6,7],[0,1,5,6,7],?_⟩;conv=>whnf
     intro _;conv=>whnf
     refine ⟨_,?_,j+1,(.aa (.aa (.sk 3 (.aa (.aa (.aa (.sk 17 .nil rfl)))) rfl))),rfl,rfl,?_⟩
     ·omega
     ·exact ⟨by omega,tU hU iV (GR J2 g8)⟩
   ·obtain ⟨rfl,rfl⟩:=Prod.mk.inj h;refine ⟨(z:Int),rfl,trivial,?_⟩;rw [show (qV false).val z=.bool w from by rw [hw]; rfl]
    conv=>whnf
    cases w with
    | true =>
     conv=>whnf
     rw [e8];refine .inr ⟨[0,1,2,3,4,5,6,7,8,9,10,11,12,13,14,15,16,17,18,19,20],[0,1,7,8],?_⟩;conv=>whnf
     intro _;conv=>whnf
     refine ⟨_,?_,i+1,(.aa (.aa (.sk 5 (.aa (.aa (.sk 10 .nil rfl))) rfl))),rfl,rfl,?_⟩
     ·omega
     ·exact ⟨by omega,tU hV J3 g8⟩
    | false =>
     conv=>whnf
     refine ⟨rfl,?_⟩;conv=>whnf
     rw [e7];refine .inr ⟨[0,1,2,3,4,5,6,7],[0,1,5,6,7],?_⟩;conv=>whnf
     intro _;conv=>whnf
     refine ⟨_,?_,j+1,(.aa (.aa (.sk 3 (.aa (.aa (.aa (.sk 17 .nil rfl)))) rfl))),rfl,rfl,?_⟩
     ·omega
     ·exact ⟨by omega,tU hU iV (GR J2 g8)⟩
   ·obtain ⟨rfl,rfl⟩:=Prod.mk.inj h;refine ⟨(z:Int),rfl,trivial,?_⟩;rw [show (qV true).val z=.bool w from by rw [hw]; rfl]
    conv=>whnf
    cases w with
    | true =>
     conv=>whnf
     rw [e8];refine .inr ⟨[0,1,2,3,4,5,6,7,8,9,10,11,12,13,14,15,16,17,18,19,20],[0,1,7,8],?_⟩;conv=>whnf
     intro _;conv=>whnf
     refine ⟨_,?_,i+1,(.aa (.aa (.sk 5 (.aa (.aa (.sk 10 .nil rfl))) rfl))),rfl,rfl,?_⟩
     ·omega
     ·exact ⟨by omega,tU hV J3 g8⟩
    | false =>
     conv=>whnf
     refine ⟨rfl,?_⟩;conv=>whnf
     rw [e7];refine .inr ⟨[0,1,2,3,4,5,6,7],[0,1,5,6,7],?_⟩;conv=>whnf
     intro _;conv=>whnf
     refine ⟨_,?_,j+1,(.aa (.aa (.sk 3 (.aa (.aa (.aa (.sk 17 .nil rfl)))) rfl))),rfl,rfl,?_⟩
     ·omega
     ·exact ⟨by omega,tU hU iV (GR J2 g8)⟩
  ·have h4:i=m:=by
    have:=of_decide_eq_false h4;omega
   subst h4;conv=>whnf
   refine ⟨rfl,?_⟩;conv=>whnf
   refine fin (a,b) true _ ?_;rw [Wy hU iV (XP (Fg (by rw [← hm]; exact hV)))]
   show ((bP a.p,bP b.p),true)=((a,b),true)
   rw [← ca,← cb]
 ·have h3:j=n:=by
   have:=of_decide_eq_false h3;omega
  subst h3;conv=>whnf
  exact fin ko false _ (by rw [Wz hn hU]; rfl)
end Go.Proofs.YtlapbjdhekcipaaGreat
