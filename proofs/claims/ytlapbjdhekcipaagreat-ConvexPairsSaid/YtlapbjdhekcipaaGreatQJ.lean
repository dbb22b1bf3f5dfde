import Derived.Test.YtlapbjdhekcipaaGreatQI
set_option linter.unusedVariables false
set_option linter.unusedSimpArgs false
/- Contracts of convex: the side of a point. -/
set_option maxRecDepth 20000
set_option maxHeartbeats 4000000
namespace Go.Proofs.YtlapbjdhekcipaaGreat
open Go Go.Ae
def nk:Env:=En [(85,.p kF)]
theorem Cb:EnvOk Tryz.prog nk:=bL ⟨Bp,trivial⟩ trivial
def wb:Nat→FT→Nu→FT:=fun l G nu=>cI { nk with ys:=[(l,G)],nu:=nu } cV Tryz.f118
theorem xN:yO Tryz.prog 118 wb:=by
 exact NL Cb aO Tryz.func118 (enters_of Tryz.func118 (by kernel_rfl) rfl)
theorem xZ:gl Tryz.prog 64 (cI nk cV Tryz.f64):=by
 exact jn Cb aO Tryz.func64 (enters_of Tryz.func64 (by kernel_rfl) rfl)
def PX:Env:=En [(56,.q fy)] [(64,cI nk cV Tryz.f64),(49,cI C8 cV Tryz.f49)] [(118,wb)]
theorem aby:EnvOk Tryz.prog PX:=bL ⟨JK,trivial⟩ ⟨xZ,JJ,trivial⟩
theorem aah:ie Tryz.prog PX:=xo ⟨xN,trivial⟩
theorem Fk:cZ Tryz.prog 23 aU:=by
 refine dt aby aO Tryz.func23 (enters_of Tryz.func23 (by kernel_rfl) rfl) ?_ ?_ ?_ (hI:=aah)
 ·intro i b hb
  cases i with
  | none=>simp [aU,PL.ae] at hb
  | some i=>simp [aU,PL.ae] at hb; rw [hb]; rfl
 ·intro i b hb; simp [aU] at hb
 intro i hp
 have hp:i.list.length≤1099511627776∧∀ v∈i.list,v.sz 2048:=hp
 obtain ⟨hlen,bn⟩:=hp
 cases i with
 | none =>
  conv=>whnf
  exact ⟨.int .i64 4,rfl,.refl _⟩
 | some i =>
  obtain ⟨L,c⟩:=i
  have hlen:L.length≤1099511627776:=hlen
  have bn:∀ v∈L,PV.sz 2048 v:=bn
  obtain ⟨n,hn⟩:∃ n,n=L.length:=⟨_,rfl⟩
  obtain ⟨g,hg⟩:∃ g,g=bS L:=⟨_,rfl⟩
  have fin:∀ z:Int,aW L=z→∃ v',cP (List.range 1) 3 (aU.val (some (L,c)))=some v'∧dT (.int .i64 z) v':=fun z h=>⟨.int .i64 z,by rw [← h]; rfl,.refl _⟩
  rw [show aU.ae (some (L,c))=[.flat false n 6 g] from by rw [hn,hg]; rfl,show aU.args (some (L,c))=[.slice (some ⟨0,0,none⟩) n c] from by rw [hn]; rfl]
  rw [← hn] at hlen
  conv=>whnf
  by_cases h1:n < 3
  ·rw [show decide ((n:Int) < 3)=true from decide_eq_true (by omega)]
   conv=>whnf
   exact fin 4 (Bk (.inl (by omega)))
  rw [show decide ((n:Int) < 3)=false from decide_eq_false (by omega)]
  conv=>whnf
  by_cases J:64 < n
  ·rw [show decide ((n:Int) > 64)=true from decide_eq_true (by omega)]
   conv=>whnf
   exact fin 4 (Bk (.inr (by omega)))
  rw [show decide ((n:Int) > 64)=false from decide_eq_false (by omega)]
  conv=>whnf
  obtain ⟨z,hz⟩:∃ z,z=fw L:=⟨_,rfl⟩
  refine ⟨some (L,c),[0],by rw [show fy.args (some (L,c))=[.slice (some ⟨0,0,none⟩) n c] from by rw [hn]; rfl]; rfl,⟨by show L.length≤_; omega,bn⟩,?_⟩
  rw [show fy.ae (some (L,c))=[.flat false n 6 g] from by rw [hn,hg]; rfl,show fy.val (some (L,c))=.bool (!z) from by rw [hz]; rfl,show fy.new (some (L,c))=none from rfl]
  conv=>whnf
  refine ⟨aA.aM (fun h=>h) (fun r hr=>by rw [hg]; rfl),?_⟩
  conv=>whnf
  refine ⟨_,rfl,?_⟩
  conv=>whnf
  cases z with
  | true =>
   conv=>whnf
   exact fin 1 (MO (by omega) hz.symm)
  | false =>
   conv=>whnf
   refine ⟨⟨by decide,by omega,by omega⟩,?_⟩
   conv=>whnf
   obtain ⟨m,hm⟩:∃ m,m=n - 1:=⟨_,rfl⟩
   obtain ⟨c1,uQ⟩:∃ x,x=tD c (Int.toNat 1):=⟨_,rfl⟩
   rw [← uQ,show Int.toNat (n:Int) - Int.toNat 1=m from hm.symm,show fe 0 (Int.toNat 1)=1 from rfl]
   have p5:fw L=false:=hz.symm
   have h0:=qX (L:=L) (k:=0) (by omega)
   have so:=bn _ (oj (L:=L) (k:=0) (by omega))
   have po:=jP (L:=L) (k:=0) (by omega)
   obtain ⟨o,ho⟩:∃ o,o=ja L 0:=⟨_,rfl⟩
   rw [← ho] at h0 so po
   rw [← hg] at h0
   have qo:=PV.dp so (by decide)
   refine .inl ⟨fun mm tz hz=>∃ (i:Nat),bE (some (.slice (some ⟨0,1,none⟩) m c1)::some (.func (.func 73) #[] #[.pointer (some ⟨1,0,none⟩)])::aD 5 (some (.int .i64 m)::some (.int .i64 i)::aD 10 [])) tz∧hz=[some (.flat false n 6 g),some (.aQ true 1 [[.slice (some ⟨0,0,none⟩) n c]]),some (.aQ true 1 [[.int .i64 0]])]∧m - i=mm∧(i≤m∧wO (ay L) i),.inr ⟨[0,1,2],[0,1,7,8],?_⟩,?_⟩
   ·conv=>whnf
    intro _
    conv=>whnf
    refine ⟨_,0,(.aa (.aa (.sk 5 (.aa (.aa (.sk 10 .nil rfl))) rfl))),rfl,rfl,?_⟩
    exact ⟨Nat.zero_le _,J4 _⟩
   rintro mm aT _ ⟨i,ar,rfl,rfl,⟨hi,hU⟩⟩
   obtain ⟨az,rfl⟩:∃ az:Nat→Value,aT=.slice (some ⟨0,1,none⟩) m c1::.func (.func 73) #[] #[.pointer (some ⟨1,0,none⟩)]::zs az 2 5 (.int .i64 m::.int .i64 i::zs az 9 10 []):=bK ar
   clear ar
   conv=>whnf
   refine aL (fun h3=>?_) (fun h3=>?_)
   ·have h3:i < m:=by
     have:=of_decide_eq_true h3
     omega
    have e7:IntKind.i64.wrap ((i:Int)+1)=((i+1:Nat):Int):=by rw [au (by omega) (by omega)]; rfl
    have ra:=qX (L:=L) (k:=i+1) (by omega)
    have sa:=bn _ (oj (L:=L) (k:=i+1) (by omega))
    have pa:=jP (L:=L) (k:=i+1) (by omega)
    obtain ⟨a,ha⟩:∃ o,o=ja L (i+1):=⟨_,rfl⟩
    rw [← ha] at ra sa pa
    rw [← hg] at ra
    have qa:=PV.dp sa (by decide)
    conv=>whnf
    refine ⟨⟨by omega,by omega⟩,?_⟩
    simp only [toNat_cast,aq,Nat.zero_add,Nat.add_comm 1 i]
    conv=>whnf
    refine ⟨by show i+1 < n; omega,?_⟩
    conv=>whnf
    rw [ra]
    conv=>whnf
    refine .inl ⟨4,[[],[],[1],[1,2],[0,1,2,3],[0,1,2,3,4],[0,1,2,3,4,5]],by kernel_rfl,?_⟩
    conv=>whnf
    have y8:g (Int.toNat 0)=o.cells:=h0
    refine ⟨⟨by omega,by omega⟩,?_⟩
    simp only [toNat_cast,aq,Nat.zero_add]
    conv=>whnf
    refine ⟨by show 0 < n; omega,?_⟩
    conv=>whnf
    rw [y8]
    conv=>whnf
    obtain ⟨z,ez,pz⟩:=eJ (fL a.p o.p)
    refine ⟨(a,o),rfl,⟨PV.a8 sa (by decide),PV.a8 so (by decide)⟩,?_⟩
    rw [show oD.val (a,o)=.int .i64 z from ez]
    conv=>whnf
    rw [pa,po] at pz
    by_cases h4:iL (aE (ay L) 0) (aE (ay L) (i+1))
    ·have:=Nv.1 h4
     rw [show decide (z≤0)=false from decide_eq_false (by omega)]
     conv=>whnf
     rw [e7]
     refine .inr ⟨[0,1,2],[0,1,7,8],?_⟩
     conv=>whnf
     intro _
     conv=>whnf
     refine ⟨_,?_,i+1,(.aa (.aa (.sk 5 (.aa (.aa (.sk 10 .nil rfl))) rfl))),rfl,rfl,?_⟩
     ·omega
     ·exact ⟨by omega,KH hU h4⟩
    ·have:¬ 0 < fL (aE (ay L) (i+1)) (aE (ay L) 0):=fun e=>h4 (Nv.2 e)
     rw [show decide (z≤0)=true from decide_eq_true (by omega)]
     conv=>whnf
     exact fin 8 (MP (by omega) p5 fun e=>h4 (e (i+1) (by omega) (by rw [b8]; omega)))
   ·have h3:i=m:=by
     have:=of_decide_eq_false h3
     omega
    have nL:=Lm hU (by rw [b8]; omega)
    have xr:3≤(ay L).length:=by rw [b8]; omega
    conv=>whnf
    intro yl nu fn tm df
    conv=>whnf
    skip
    refine .inl ⟨fun mm tz hz=>∃ (j:Nat),bE (some (.func (.yield yl) #[] #[])::some (.pointer (some ⟨3,0,none⟩))::aD 3 (some (.slice (some ⟨0,0,none⟩) n c)::some (.int .i64 n)::some (.int .i64 j)::aD 17 [])) tz∧hz=[some (.flat false n 6 g),some (.aQ true 1 [[.slice (some ⟨0,0,none⟩) n c]]),some (.aQ true 1 [[.int .i64 0]]),some (.aQ true 1 [[.slice (some ⟨0,0,none⟩) n c]]),some (.cm (rW Tryz.f23 fn tm df))]∧n - j=mm∧(j≤n∧∀ k,k < j→¬ yo (ay L) k),.inr ⟨[0,1,2,3,4],[0,1,5,6,7],?_⟩,?_⟩
    ·conv=>whnf
     intro _
     conv=>whnf
     refine ⟨_,0,(.aa (.aa (.sk 3 (.aa (.aa (.aa (.sk 17 .nil rfl)))) rfl))),rfl,rfl,?_⟩
     exact ⟨Nat.zero_le _,fun k hk=>absurd hk (Nat.not_lt_zero k)⟩
    rintro mm aT _ ⟨j,ar,rfl,rfl,⟨hj,hB⟩⟩
    obtain ⟨az,rfl⟩:∃ az:Nat→Value,aT=.func (.yield yl) #[] #[]::.pointer (some ⟨3,0,none⟩)::zs az 2 3 (.slice (some ⟨0,0,none⟩) n c::.int .i64 n::.int .i64 j::zs az 8 17 []):=bK ar
    clear ar
    conv=>whnf
    refine aL (fun h3=>?_) (fun h3=>?_)
    ·have h3:j < n:=by
      have:=of_decide_eq_true h3
      omega
     have e7:IntKind.i64.wrap ((j:Int)+1)=((j+1:Nat):Int):=by rw [au (by omega) (by omega)]; rfl
     obtain ⟨a,b,ra,rb,⟨ma,mb⟩,_,cl,ha,hb⟩:=nm hn h3
     have sa:=bn a ma
     have sb:=bn b mb
     have cD:=jO h3 (by omega)
     obtain ⟨u,hu⟩:∃ u,u=bd n j:=⟨_,rfl⟩
     rw [← hu] at cD cl rb
     rw [← hg] at ra rb
     conv=>whnf
     refine ⟨⟨by omega,by omega⟩,?_⟩
     simp only [toNat_cast,aq,Nat.zero_add]
     conv=>whnf
     refine ⟨by show j < n; omega,?_⟩
     conv=>whnf
     rw [ra]
     conv=>whnf
     refine .inl ⟨10,[[],[],[],[],[3],[],[5],[3,4,5,6],[2,3,4,5,6,7],[2,3,4,5,6,7,8],[0,1,2,3,4,5,6,7,8,9],[0,1,2,3,4,5,6,7,8,9,10]],by kernel_rfl,?_⟩
     conv=>whnf
     rw [show decide ((n:Int)≠0)=true from decide_eq_true (by omega)]
     conv=>whnf
     rw [cD]
     refine ⟨⟨by omega,by omega⟩,?_⟩
     simp only [toNat_cast,aq,Nat.zero_add]
     conv=>whnf
     refine ⟨by show u < n; omega,?_⟩
     conv=>whnf
     rw [rb]
     conv=>whnf
     refine ⟨rfl,?_⟩
     conv=>whnf
     refine ⟨rfl,?_⟩
     conv=>whnf
     refine ⟨rfl,?_⟩
     conv=>whnf
     refine .inl ⟨fun mm tz hz=>∃ (i:Nat),bE (some (.slice (some ⟨0,0,none⟩) n c)::some (.func (.func 75) #[] #[.pointer (some ⟨16,0,none⟩),.pointer (some ⟨17,0,none⟩)])::aD 5 (some (.int .i64 n)::some (.int .i64 i)::aD 10 [])) tz∧hz=[some (.flat false n 6 g),some (.aQ true 1 [[.slice (some ⟨0,0,none⟩) n c]]),some (.aQ true 1 [[.int .i64 0]]),some (.aQ true 1 [[.slice (some ⟨0,0,none⟩) n c]]),some (.cm { rW Tryz.f23 fn tm df with state:=.busy }),some (.aQ true 6 [a.cells]),none,none,none,none,none,none,none,none,none,none,some (.aQ true 6 [a.cells]),some (.aQ true 6 [b.cells])]∧n - i=mm∧(i≤n∧kY (r4 a b) L i),.inr ⟨[0,1,2,3,4,5,6,7,8,9,10,11,12,13,14,15,16,17],[0,1,7,8],?_⟩,?_⟩
     ·conv=>whnf
      intro _
      conv=>whnf
      refine ⟨_,0,(.aa (.aa (.sk 5 (.aa (.aa (.sk 10 .nil rfl))) rfl))),rfl,rfl,?_⟩
      exact ⟨Nat.zero_le _,Ah _ _⟩
     rintro mm aT _ ⟨i,ar,rfl,rfl,⟨hi,hU⟩⟩
     obtain ⟨az,rfl⟩:∃ az:Nat→Value,aT=.slice (some ⟨0,0,none⟩) n c::.func (.func 75) #[] #[.pointer (some ⟨16,0,none⟩),.pointer (some ⟨17,0,none⟩)]::zs az 2 5 (.int .i64 n::.int .i64 i::zs az 9 10 []):=bK ar
     clear ar
     conv=>whnf
     refine aL (fun h4=>?_) (fun h4=>?_)
     ·have h4:i < n:=by
       have:=of_decide_eq_true h4
       omega
      have e8:IntKind.i64.wrap ((i:Int)+1)=((i+1:Nat):Int):=by rw [au (by omega) (by omega)]; rfl
      obtain ⟨p,kP,uR,a9⟩:=qU (l:=L) (i:=i) (by omega)
      rw [← hg] at a9
      conv=>whnf
      refine ⟨⟨by omega,by omega⟩,?_⟩
      simp only [toNat_cast,aq,Nat.zero_add]
      conv=>whnf
      refine ⟨by show i < n; omega,?_⟩
      conv=>whnf
      rw [a9]
      conv=>whnf
      obtain ⟨z,hz⟩:∃ z,z=r4 a b p:=⟨_,rfl⟩
      refine ⟨(a,b,p),[16,17],rfl,⟨sa,sb,bn p uR⟩,?_⟩
      rw [show rM.ae (a,b,p)=[.flat false 1 6 (fun _=>a.cells),.flat false 1 6 (fun _=>b.cells)] from rfl,show rM.val (a,b,p)=.bool z from by rw [hz]; rfl,show rM.new (a,b,p)=none from rfl]
      conv=>whnf
      refine ⟨ML a,ML b,?_⟩
      conv=>whnf
      refine ⟨_,rfl,?_⟩
      conv=>whnf
      cases z with
      | false =>
       conv=>whnf
       rw [e8]
       refine .inr ⟨[0,1,2,3,4,5,6,7,8,9,10,11,12,13,14,15,16,17],[0,1,7,8],?_⟩
       conv=>whnf
       intro _
       conv=>whnf
       refine ⟨_,?_,i+1,(.aa (.aa (.sk 5 (.aa (.aa (.sk 10 .nil rfl))) rfl))),rfl,rfl,?_⟩
       ·omega
       ·exact ⟨by omega,oZ hU kP hz.symm⟩
      | true =>
       conv=>whnf
       refine ⟨rfl,?_⟩
       conv=>whnf
       exact fin 15 (FN (by omega) p5 nL fun e=>(L5 xr nL).1 e j (by rw [b8]; omega) (V5 p5 (by omega) ha (hb.trans (by rw [hn])) uR hz.symm))
     ·have h4:i=n:=by
       have:=of_decide_eq_false h4
       omega
      subst h4
      conv=>whnf
      refine ⟨rfl,?_⟩
      conv=>whnf
      rw [e7]
      refine .inr ⟨[0,1,2,3,4],[0,1,5,6,7],?_⟩
      conv=>whnf
      intro _
      conv=>whnf
      refine ⟨_,?_,j+1,(.aa (.aa (.sk 3 (.aa (.aa (.aa (.sk 17 .nil rfl)))) rfl))),rfl,rfl,?_⟩
      ·omega
      ·refine ⟨by omega,fun k hk=>?_⟩
       rcases Nat.lt_or_eq_of_le (Nat.le_of_lt_succ hk) with e | e
       ·exact hB k e
       ·subst e
        exact YP (by omega) ha (hb.trans (by rw [hn])) (AB (by rw [← hn]; exact hU))
    ·have h3:j=n:=by
      have:=of_decide_eq_false h3
      omega
     subst h3
     conv=>whnf
     exact fin 0 (L8 (by omega) p5 nL ((L5 xr nL).2 fun k hk=>hB k (by rw [b8] at hk; omega)))
end Go.Proofs.YtlapbjdhekcipaaGreat
/- Contracts of convex: points inside. -/
set_option maxRecDepth 20000
set_option maxHeartbeats 4000000
namespace Go.Proofs.YtlapbjdhekcipaaGreat
open Go Go.Ae
end Go.Proofs.YtlapbjdhekcipaaGreat
/- Contracts of convex: the points that a ring keeps. -/
set_option maxRecDepth 20000
set_option maxHeartbeats 4000000
namespace Go.Proofs.YtlapbjdhekcipaaGreat
open Go Go.Ae
theorem aai:bm Tryz.prog 110 uu:=by
 refine bt pP aO Tryz.func110 (enters_of Tryz.func110 (by kernel_rfl) rfl) (fun _=>rfl) (fun _=>rfl) ?_
 intro ⟨a,b,p⟩ hp
 conv=>whnf
 rw [Cu b p]
 by_cases h:b=p
 ·rw [decide_eq_true h,show uu.val (a,b,p)=.bool false from congrArg Value.bool (decide_eq_false fun e=>e h)]; rfl
 ·rw [decide_eq_false h,show uu.val (a,b,p)=.bool true from congrArg Value.bool (decide_eq_true h)]; rfl
theorem aaj:bm Tryz.prog 111 ux:=by
 refine bt pP aO Tryz.func111 (enters_of Tryz.func111 (by kernel_rfl) rfl) (fun _=>rfl) (fun _=>rfl) ?_
 intro ⟨a,b,p⟩ hp
 have hp:a.sz 1048576∧b.sz 1048576∧p.sz 1048576:=hp
 obtain ⟨sa,sb,sp⟩:=hp
 conv=>whnf
 obtain ⟨z,ez,pz⟩:=eJ (aY (aw a.p b.p p.p) 0)
 refine ⟨(a,b,p),rfl,⟨PV.a8 sa (by decide),PV.a8 sb (by decide),PV.a8 sp (by decide)⟩,?_⟩
 rw [show lZ.val (a,b,p)=.int .i64 z from ez]
 conv=>whnf
 by_cases h:z=0
 ·rw [show ux.val (a,b,p)=.bool false from congrArg Value.bool (decide_eq_false fun e=>e (by rw [← pz]; exact h)),show (z != 0)=false from by simp [h]]
 ·rw [show ux.val (a,b,p)=.bool true from congrArg Value.bool (decide_eq_true (by rw [← pz]; exact h)),show (z != 0)=true from by simp [h]]
def Ex1:Env:=En [(110,.p uu),(111,.p ux)]
theorem abz:EnvOk Tryz.prog Ex1:=bL ⟨aai,aaj,trivial⟩ trivial
theorem X7:cZ Tryz.prog 109 (ke 110 111):=by
 refine dt abz aO Tryz.func109 (enters_of Tryz.func109 (by kernel_rfl) rfl) ?_ ?_ ?_
 ·intro ⟨i,b⟩ B hb
  cases i with
  | none=>simp [ke,QL.ae] at hb
  | some i=>simp [ke,QL.ae] at hb; rw [hb]; rfl
 ·intro i B hb
  exact A4 hb
 intro ⟨i,b⟩ hp
 have hp:i.list.length≤549755813888∧∀ v∈i.list,Q2.sz 262144 v:=hp
 obtain ⟨hlen,bn⟩:=hp
 cases i with
 | none =>
  cases b <;> (conv=>whnf) <;> refine .inr ⟨1,?_⟩ <;> (conv=>whnf) <;> exact ⟨_,rfl,.refl _⟩
 | some i =>
  obtain ⟨L,c⟩:=i
  have hlen:L.length≤549755813888:=hlen
  have bn:∀ v∈L,Q2.sz 262144 v:=bn
  obtain ⟨n,hn⟩:∃ n,n=L.length:=⟨_,rfl⟩
  obtain ⟨g,hg⟩:∃ g,g=cc L:=⟨_,rfl⟩
  cases b with
  | false =>
   rw [show (ke 110 111).ae (some (L,c),false)=[.flat false n 6 g] from by rw [hn,hg]; rfl,show (ke 110 111).args (some (L,c),false)=[.slice (some ⟨0,0,none⟩) n c,.func (.func 110) #[] #[]] from by rw [hn]; rfl]
   rw [← hn] at hlen
   conv=>whnf
   refine .inl ⟨fun mm tz hz=>∃ (j:Nat) (O:List Q2) (q:Nat) (F:Nat→List Value),bE (some (.slice (some ⟨0,0,none⟩) n c)::some (.func (.func 110) #[] #[])::aD 3 (some (eU 1 q)::aD 2 (some (.slice (some ⟨0,0,none⟩) n c)::some (.int .i64 n)::some (.int .i64 j)::aD 32 []))) tz∧hz=[some (.flat false n 6 g)]++yU 6 F q∧n - j=mm∧((j≤n∧q=O.length)∧O=pO L j∧(∀ r,r < q→F r=cc O r)),.inr ⟨[0],[0,1,5,8,9,10],?_⟩,?_⟩
   ·conv=>whnf
    intro _
    conv=>whnf
    refine ⟨_,0,[],0,fun _=>[],(.aa (.aa (.sk 3 (.aa (.sk 2 (.aa (.aa (.aa (.sk 32 .nil rfl)))) rfl)) rfl))),rfl,rfl,?_⟩
    exact ⟨⟨Nat.zero_le _,rfl⟩,rfl,fun r hr=>absurd hr (Nat.not_lt_zero r)⟩
   rintro mm aT _ ⟨j,O,q,F,ar,rfl,rfl,⟨⟨hj,hq⟩,hO,hF⟩⟩
   obtain ⟨az,rfl⟩:∃ az:Nat→Value,aT=.slice (some ⟨0,0,none⟩) n c::.func (.func 110) #[] #[]::zs az 2 3 (eU 1 q::zs az 6 2 (.slice (some ⟨0,0,none⟩) n c::.int .i64 n::.int .i64 j::zs az 11 32 [])):=bK ar
   clear ar
   have sM:=UU L j
   rw [← hO,← hq] at sM
   cases q with
   | zero =>
    obtain rfl:O=[]:=List.eq_nil_of_length_eq_zero hq.symm
    conv=>whnf
    refine aL (fun h1=>?_) (fun h1=>?_)
    ·have h1:j < n:=by
      have:=of_decide_eq_true h1
      omega
     have e7:IntKind.i64.wrap ((j:Int)+1)=((j+1:Nat):Int):=by rw [au (by omega) (by omega)]; rfl
     obtain ⟨a,ca,ra,pa,sa,qa⟩:=ib (L:=L) (k:=eP n j) (by rw [← hn]; exact j9 h1) bn
     obtain ⟨b,cb,rb,pb,sb,qb⟩:=ib (L:=L) (k:=j) (by omega) bn
     obtain ⟨d,cd,rd,pd,sd,qd⟩:=ib (L:=L) (k:=bd n j) (by rw [← hn]; exact c6 h1) bn
     rw [← hg] at ra rb rd
     have lP:=B5 h1 (by omega)
     have cD:=jO h1 (by omega)
     have kP:eP n j < n:=j9 h1
     have cl:=c6 h1
     obtain ⟨u,hu⟩:∃ u,u=eP n j:=⟨_,rfl⟩
     obtain ⟨w,hw⟩:∃ u,u=bd n j:=⟨_,rfl⟩
     rw [← hu] at lP kP ra
     rw [← hw] at cD cl rd
     conv=>whnf
     refine ⟨⟨by omega,by omega⟩,?_⟩
     simp only [toNat_cast,aq,Nat.zero_add]
     conv=>whnf
     refine ⟨by show j < n; omega,?_⟩
     conv=>whnf
     rw [rb]
     conv=>whnf
     refine .inl ⟨21,[[],[],[],[],[3],[2,3,4],[2,3,4,5],[],[7],[2,3,4,5,6,7,8],[1,2,3,4,5,6,7,8,9],[1,2,3,4,5,6,7,8,9,10],[],[],[],[14],[],[16],[14,15,16,17],[13,14,15,16,17,18],[13,14,15,16,17,18,19],[0,1,2,3,4,5,6,7,8,9,10,11,12,13,14,15,16,17,18,19,20]],by kernel_rfl,?_⟩
     conv=>whnf
     rw [show decide ((n:Int)≠0)=true from decide_eq_true (by omega)]
     conv=>whnf
     rw [lP]
     refine ⟨⟨by omega,by omega⟩,?_⟩
     simp only [toNat_cast,aq,Nat.zero_add]
     conv=>whnf
     refine ⟨by show u < n; omega,?_⟩
     conv=>whnf
     rw [ra]
     conv=>whnf
     rw [show decide ((n:Int)≠0)=true from decide_eq_true (by omega)]
     conv=>whnf
     rw [cD]
     refine ⟨⟨by omega,by omega⟩,?_⟩
     simp only [toNat_cast,aq,Nat.zero_add]
     conv=>whnf
     refine ⟨by show w < n; omega,?_⟩
     conv=>whnf
     rw [rd]
     conv=>whnf
     obtain ⟨z,hz,ao⟩:=L9 hn h1 pa cb cd
     rw [← hO] at ao
     refine ⟨(a,b,d),rfl,⟨PV.a8 sa (by decide),PV.a8 sb (by decide),PV.a8 sd (by decide)⟩,?_⟩
     rw [show uu.val (a,b,d)=.bool z from hz]
     conv=>whnf
     cases z with
     | false =>
      conv=>whnf
      rw [e7]
      refine .inr ⟨[0],[0,1,5,8,9,10],?_⟩
      conv=>whnf
      intro _
      conv=>whnf
      refine ⟨_,?_,j+1,[],0,F,(.aa (.aa (.sk 3 (.aa (.sk 2 (.aa (.aa (.aa (.sk 32 .nil rfl)))) rfl)) rfl))),rfl,rfl,?_⟩
      ·omega
      ·exact ⟨⟨by omega,rfl⟩,by rw [ao]; rfl,hF⟩
     | true =>
      conv=>whnf
      refine ⟨by show (0+1)*80≤140737488355328; decide,?_⟩
      conv=>whnf
      rw [e7]
      refine .inr ⟨[0,24],[0,1,5,8,9,10],?_⟩
      conv=>whnf
      intro _
      conv=>whnf
      refine ⟨_,?_,j+1,[aE L j],1,_,(.aa (.aa (.sk 3 (.aa (.sk 2 (.aa (.aa (.aa (.sk 32 .nil rfl)))) rfl)) rfl))),rfl,rfl,?_⟩
      ·omega
      ·exact ⟨⟨by omega,rfl⟩,by rw [ao]; rfl,vP cb rfl⟩
    ·have h1:j=n:=by
      have:=of_decide_eq_false h1
      omega
     subst h1
     have hE:gB L=[]:=by rw [hO,hn]; exact (Ln L).symm
     conv=>whnf
     rw [show (ke 110 111).new (some (L,c),false)=none from by show c8 (gB L)=none; rw [hE]; rfl]
     exact ⟨.slice none 0 0,by rw [show (ke 110 111).val (some (L,c),false)=.slice none 0 0 from by show eU _ (gB L).length=_; rw [hE]; rfl]; rfl,.refl _⟩
   | succ q =>
    conv=>whnf
    refine aL (fun h1=>?_) (fun h1=>?_)
    ·have h1:j < n:=by
      have:=of_decide_eq_true h1
      omega
     have e7:IntKind.i64.wrap ((j:Int)+1)=((j+1:Nat):Int):=by rw [au (by omega) (by omega)]; rfl
     obtain ⟨a,ca,ra,pa,sa,qa⟩:=ib (L:=L) (k:=eP n j) (by rw [← hn]; exact j9 h1) bn
     obtain ⟨b,cb,rb,pb,sb,qb⟩:=ib (L:=L) (k:=j) (by omega) bn
     obtain ⟨d,cd,rd,pd,sd,qd⟩:=ib (L:=L) (k:=bd n j) (by rw [← hn]; exact c6 h1) bn
     rw [← hg] at ra rb rd
     have lP:=B5 h1 (by omega)
     have cD:=jO h1 (by omega)
     have kP:eP n j < n:=j9 h1
     have cl:=c6 h1
     obtain ⟨u,hu⟩:∃ u,u=eP n j:=⟨_,rfl⟩
     obtain ⟨w,hw⟩:∃ u,u=bd n j:=⟨_,rfl⟩
     rw [← hu] at lP kP ra
     rw [← hw] at cD cl rd
     conv=>whnf
     refine ⟨⟨by omega,by omega⟩,?_⟩
     simp only [toNat_cast,aq,Nat.zero_add]
     conv=>whnf
     refine ⟨by show j < n; omega,?_⟩
     conv=>whnf
     rw [rb]
     conv=>whnf
     refine .inl ⟨21,[[],[],[],[],[3],[2,3,4],[2,3,4,5],[],[7],[2,3,4,5,6,7,8],[1,2,3,4,5,6,7,8,9],[1,2,3,4,5,6,7,8,9,10],[],[],[],[14],[],[16],[14,15,16,17],[13,14,15,16,17,18],[13,14,15,16,17,18,19],[0,1,2,3,4,5,6,7,8,9,10,11,12,13,14,15,16,17,18,19,20]],by kernel_rfl,?_⟩
     conv=>whnf
     rw [show decide ((n:Int)≠0)=true from decide_eq_true (by omega)]
     conv=>whnf
     rw [lP]
     refine ⟨⟨by omega,by omega⟩,?_⟩
     simp only [toNat_cast,aq,Nat.zero_add]
     conv=>whnf
     refine ⟨by show u < n; omega,?_⟩
     conv=>whnf
     rw [ra]
     conv=>whnf
     rw [show decide ((n:Int)≠0)=true from decide_eq_true (by omega)]
     conv=>whnf
     rw [cD]
     refine ⟨⟨by omega,by omega⟩,?_⟩
     simp only [toNat_cast,aq,Nat.zero_add]
     conv=>whnf
     refine ⟨by show w < n; omega,?_⟩
     conv=>whnf
     rw [rd]
     conv=>whnf
     obtain ⟨z,hz,ao⟩:=L9 hn h1 pa cb cd
     rw [← hO] at ao
     refine ⟨(a,b,d),rfl,⟨PV.a8 sa (by decide),PV.a8 sb (by decide),PV.a8 sd (by decide)⟩,?_⟩
     rw [show uu.val (a,b,d)=.bool z from hz]
     conv=>whnf
     cases z with
     | false =>
      conv=>whnf
      rw [e7]
      refine .inr ⟨[0,1],[0,1,5,8,9,10],?_⟩
      conv=>whnf
      intro _
      conv=>whnf
      refine ⟨_,?_,j+1,O,q+1,F,(.aa (.aa (.sk 3 (.aa (.sk 2 (.aa (.aa (.aa (.sk 32 .nil rfl)))) rfl)) rfl))),rfl,rfl,?_⟩
      ·omega
      ·exact ⟨⟨by omega,hq⟩,by rw [ao]; simp,hF⟩
     | true =>
      conv=>whnf
      refine ⟨⟨by show 1≤1; decide,rfl,by show (q+1+1)*80≤140737488355328; omega⟩,?_⟩
      conv=>whnf
      refine ⟨[0,1,8,9,10],?_⟩
      conv=>whnf
      intro _
      conv=>whnf
      rw [e7]
      refine .inr ⟨[0,1],[0,1,5,8,9,10],?_⟩
      conv=>whnf
      intro _
      conv=>whnf
      refine ⟨_,?_,j+1,O++[aE L j],q+1+1,_,(.aa (.aa (.sk 3 (.aa (.sk 2 (.aa (.aa (.aa (.sk 32 .nil rfl)))) rfl)) rfl))),rfl,rfl,?_⟩
      ·omega
      ·exact ⟨⟨by omega,by rw [List.length_append,← hq]; rfl⟩,by rw [ao]; simp,q9 hq hF cb rfl⟩
    ·have h1:j=n:=by
      have:=of_decide_eq_false h1
      omega
     subst h1
     have hE:gB L=O:=by rw [hO,hn]; exact (Ln L).symm
     conv=>whnf
     rw [show (ke 110 111).new (some (L,c),false)=some (.flat true (q+1) 6 (cc O)) from by show c8 (gB L)=_; rw [hE]; unfold c8; rw [← hq],show (ke 110 111).val (some (L,c),false)=.slice (some ⟨1,0,none⟩) (q+1) aN from by show eU _ (gB L).length=_; rw [hE,← hq]; rfl]
     refine ⟨1,?_⟩
     conv=>whnf
     exact ⟨⟨rfl,aA.qV (fun h=>h) hF (fun r hr=>rfl)⟩,_,rfl,.refl _⟩
  | true =>
   rw [show (ke 110 111).ae (some (L,c),true)=[.flat false n 6 g] from by rw [hn,hg]; rfl,show (ke 110 111).args (some (L,c),true)=[.slice (some ⟨0,0,none⟩) n c,.func (.func 111) #[] #[]] from by rw [hn]; rfl]
   rw [← hn] at hlen
   conv=>whnf
   refine .inl ⟨fun mm tz hz=>∃ (j:Nat) (O:List Q2) (q:Nat) (F:Nat→List Value),bE (some (.slice (some ⟨0,0,none⟩) n c)::some (.func (.func 111) #[] #[])::aD 3 (some (eU 1 q)::aD 2 (some (.slice (some ⟨0,0,none⟩) n c)::some (.int .i64 n)::some (.int .i64 j)::aD 32 []))) tz∧hz=[some (.flat false n 6 g)]++yU 6 F q∧n - j=mm∧((j≤n∧q=O.length)∧O=rO L j∧(∀ r,r < q→F r=cc O r)),.inr ⟨[0],[0,1,5,8,9,10],?_⟩,?_⟩
   ·conv=>whnf
    intro _
    conv=>whnf
    refine ⟨_,0,[],0,fun _=>[],(.aa (.aa (.sk 3 (.aa (.sk 2 (.aa (.aa (.aa (.sk 32 .nil rfl)))) rfl)) rfl))),rfl,rfl,?_⟩
    exact ⟨⟨Nat.zero_le _,rfl⟩,rfl,fun r hr=>absurd hr (Nat.not_lt_zero r)⟩
   rintro mm aT _ ⟨j,O,q,F,ar,rfl,rfl,⟨⟨hj,hq⟩,hO,hF⟩⟩
   obtain ⟨az,rfl⟩:∃ az:Nat→Value,aT=.slice (some ⟨0,0,none⟩) n c::.func (.func 111) #[] #[]::zs az 2 3 (eU 1 q::zs az 6 2 (.slice (some ⟨0,0,none⟩) n c::.int .i64 n::.int .i64 j::zs az 11 32 [])):=bK ar
   clear ar
   have sM:=UW L j
   rw [← hO,← hq] at sM
   cases q with
   | zero =>
    obtain rfl:O=[]:=List.eq_nil_of_length_eq_zero hq.symm
    conv=>whnf
    refine aL (fun h1=>?_) (fun h1=>?_)
    ·have h1:j < n:=by
      have:=of_decide_eq_true h1
      omega
     have e7:IntKind.i64.wrap ((j:Int)+1)=((j+1:Nat):Int):=by rw [au (by omega) (by omega)]; rfl
     obtain ⟨a,ca,ra,pa,sa,qa⟩:=ib (L:=L) (k:=eP n j) (by rw [← hn]; exact j9 h1) bn
     obtain ⟨b,cb,rb,pb,sb,qb⟩:=ib (L:=L) (k:=j) (by omega) bn
     obtain ⟨d,cd,rd,pd,sd,qd⟩:=ib (L:=L) (k:=bd n j) (by rw [← hn]; exact c6 h1) bn
     rw [← hg] at ra rb rd
     have lP:=B5 h1 (by omega)
     have cD:=jO h1 (by omega)
     have kP:eP n j < n:=j9 h1
     have cl:=c6 h1
     obtain ⟨u,hu⟩:∃ u,u=eP n j:=⟨_,rfl⟩
     obtain ⟨w,hw⟩:∃ u,u=bd n j:=⟨_,rfl⟩
     rw [← hu] at lP kP ra
     rw [← hw] at cD cl rd
     conv=>whnf
     refine ⟨⟨by omega,by omega⟩,?_⟩
     simp only [toNat_cast,aq,Nat.zero_add]
     conv=>whnf
     refine ⟨by show j < n; omega,?_⟩
     conv=>whnf
     rw [rb]
     conv=>whnf
     refine .inl ⟨21,[[],[],[],[],[3],[2,3,4],[2,3,4,5],[],[7],[2,3,4,5,6,7,8],[1,2,3,4,5,6,7,8,9],[1,2,3,4,5,6,7,8,9,10],[],[],[],[14],[],[16],[14,15,16,17],[13,14,15,16,17,18],[13,14,15,16,17,18,19],[0,1,2,3,4,5,6,7,8,9,10,11,12,13,14,15,16,17,18,19,20]],by kernel_rfl,?_⟩
     conv=>whnf
     rw [show decide ((n:Int)≠0)=true from decide_eq_true (by omega)]
     conv=>whnf
     rw [lP]
     refine ⟨⟨by omega,by omega⟩,?_⟩
     simp only [toNat_cast,aq,Nat.zero_add]
     conv=>whnf
     refine ⟨by show u < n; omega,?_⟩
     conv=>whnf
     rw [ra]
     conv=>whnf
     rw [show decide ((n:Int)≠0)=true from decide_eq_true (by omega)]
     conv=>whnf
     rw [cD]
     refine ⟨⟨by omega,by omega⟩,?_⟩
     simp only [toNat_cast,aq,Nat.zero_add]
     conv=>whnf
     refine ⟨by show w < n; omega,?_⟩
     conv=>whnf
     rw [rd]
     conv=>whnf
     obtain ⟨z,hz,ao⟩:=Ma hn h1 pa cb cd
     rw [← hO] at ao
     refine ⟨(a,b,d),rfl,⟨PV.a8 sa (by decide),PV.a8 sb (by decide),PV.a8 sd (by decide)⟩,?_⟩
     rw [show ux.val (a,b,d)=.bool z from hz]
     conv=>whnf
     cases z with
     | false =>
      conv=>whnf
      rw [e7]
      refine .inr ⟨[0],[0,1,5,8,9,10],?_⟩
      conv=>whnf
      intro _
      conv=>whnf
      refine ⟨_,?_,j+1,[],0,F,(.aa (.aa (.sk 3 (.aa (.sk 2 (.aa (.aa (.aa (.sk 32 .nil rfl)))) rfl)) rfl))),rfl,rfl,?_⟩
      ·omega
      ·exact ⟨⟨by omega,rfl⟩,by rw [ao]; rfl,hF⟩
     | true =>
      conv=>whnf
      refine ⟨by show (0+1)*80≤140737488355328; decide,?_⟩
      conv=>whnf
      rw [e7]
      refine .inr ⟨[0,24],[0,1,5,8,9,10],?_⟩
      conv=>whnf
      intro _
      conv=>whnf
      refine ⟨_,?_,j+1,[aE L j],1,_,(.aa (.aa (.sk 3 (.aa (.sk 2 (.aa (.aa (.aa (.sk 32 .nil rfl)))) rfl)) rfl))),rfl,rfl,?_⟩
      ·omega
      ·exact ⟨⟨by omega,rfl⟩,by rw [ao]; rfl,vP cb rfl⟩
    ·have h1:j=n:=by
      have:=of_decide_eq_false h1
      omega
     subst h1
     have hE:jE L=[]:=by rw [hO,hn]; exact (Lo L).symm
     conv=>whnf
     rw [show (ke 110 111).new (some (L,c),true)=none from by show c8 (jE L)=none; rw [hE]; rfl]
     exact ⟨.slice none 0 0,by rw [show (ke 110 111).val (some (L,c),true)=.slice none 0 0 from by show eU _ (jE L).length=_; rw [hE]; rfl]; rfl,.refl _⟩
   | succ q =>
    conv=>whnf
    refine aL (fun h1=>?_) (fun h1=>?_)
    ·have h1:j < n:=by
      have:=of_decide_eq_true h1
      omega
     have e7:IntKind.i64.wrap ((j:Int)+1)=((j+1:Nat):Int):=by rw [au (by omega) (by omega)]; rfl
     obtain ⟨a,ca,ra,pa,sa,qa⟩:=ib (L:=L) (k:=eP n j) (by rw [← hn]; exact j9 h1) bn
     obtain ⟨b,cb,rb,pb,sb,qb⟩:=ib (L:=L) (k:=j) (by omega) bn
     obtain ⟨d,cd,rd,pd,sd,qd⟩:=ib (L:=L) (k:=bd n j) (by rw [← hn]; exact c6 h1) bn
     rw [← hg] at ra rb rd
     have lP:=B5 h1 (by omega)
     have cD:=jO h1 (by omega)
     have kP:eP n j < n:=j9 h1
     have cl:=c6 h1
     obtain ⟨u,hu⟩:∃ u,u=eP n j:=⟨_,rfl⟩
     obtain ⟨w,hw⟩:∃ u,u=bd n j:=⟨_,rfl⟩
     rw [← hu] at lP kP ra
     rw [← hw] at cD cl rd
     conv=>whnf
     refine ⟨⟨by omega,by omega⟩,?_⟩
     simp only [toNat_cast,aq,Nat.zero_add]
     conv=>whnf
     refine ⟨by show j < n; omega,?_⟩
     conv=>whnf
     rw [rb]
     conv=>whnf
     refine .inl ⟨21,[[],[],[],[],[3],[2,3,4],[2,3,4,5],[],[7],[2,3,4,5,6,7,8],[1,2,3,4,5,6,7,8,9],[1,2,3,4,5,6,7,8,9,10],[],[],[],[14],[],[16],[14,15,16,17],[13,14,15,16,17,18],[13,14,15,16,17,18,19],[0,1,2,3,4,5,6,7,8,9,10,11,12,13,14,15,16,17,18,19,20]],by kernel_rfl,?_⟩
     conv=>whnf
     rw [show decide ((n:Int)≠0)=true from decide_eq_true (by omega)]
     conv=>whnf
     rw [lP]
     refine ⟨⟨by omega,by omega⟩,?_⟩
     simp only [toNat_cast,aq,Nat.zero_add]
     conv=>whnf
     refine ⟨by show u < n; omega,?_⟩
     conv=>whnf
     rw [ra]
     conv=>whnf
     rw [show decide ((n:Int)≠0)=true from decide_eq_true (by omega)]
     conv=>whnf
     rw [cD]
     refine ⟨⟨by omega,by omega⟩,?_⟩
     simp only [toNat_cast,aq,Nat.zero_add]
     conv=>whnf
     refine ⟨by show w < n; omega,?_⟩
     conv=>whnf
     rw [rd]
     conv=>whnf
     obtain ⟨z,hz,ao⟩:=Ma hn h1 pa cb cd
     rw [← hO] at ao
     refine ⟨(a,b,d),rfl,⟨PV.a8 sa (by decide),PV.a8 sb (by decide),PV.a8 sd (by decide)⟩,?_⟩
     rw [show ux.val (a,b,d)=.bool z from hz]
     conv=>whnf
     cases z with
     | false =>
      conv=>whnf
      rw [e7]
      refine .inr ⟨[0,1],[0,1,5,8,9,10],?_⟩
      conv=>whnf
      intro _
      conv=>whnf
      refine ⟨_,?_,j+1,O,q+1,F,(.aa (.aa (.sk 3 (.aa (.sk 2 (.aa (.aa (.aa (.sk 32 .nil rfl)))) rfl)) rfl))),rfl,rfl,?_⟩
      ·omega
      ·exact ⟨⟨by omega,hq⟩,by rw [ao]; simp,hF⟩
     | true =>
      conv=>whnf
      refine ⟨⟨by show 1≤1; decide,rfl,by show (q+1+1)*80≤140737488355328; omega⟩,?_⟩
      conv=>whnf
      refine ⟨[0,1,8,9,10],?_⟩
      conv=>whnf
      intro _
      conv=>whnf
      rw [e7]
      refine .inr ⟨[0,1],[0,1,5,8,9,10],?_⟩
      conv=>whnf
      intro _
      conv=>whnf
      refine ⟨_,?_,j+1,O++[aE L j],q+1+1,_,(.aa (.aa (.sk 3 (.aa (.sk 2 (.aa (.aa (.aa (.sk 32 .nil rfl)))) rfl)) rfl))),rfl,rfl,?_⟩
      ·omega
      ·exact ⟨⟨by omega,by rw [List.length_append,← hq]; rfl⟩,by rw [ao]; simp,q9 hq hF cb rfl⟩
    ·have h1:j=n:=by
      have:=of_decide_eq_false h1
      omega
     subst h1
     have hE:jE L=O:=by rw [hO,hn]; exact (Lo L).symm
     conv=>whnf
     rw [show (ke 110 111).new (some (L,c),true)=some (.flat true (q+1) 6 (cc O)) from by show c8 (jE L)=_; rw [hE]; unfold c8; rw [← hq],show (ke 110 111).val (some (L,c),true)=.slice (some ⟨1,0,none⟩) (q+1) aN from by show eU _ (jE L).length=_; rw [hE,← hq]; rfl]
     refine ⟨1,?_⟩
     conv=>whnf
     exact ⟨⟨rfl,aA.qV (fun h=>h) hF (fun r hr=>rfl)⟩,_,rfl,.refl _⟩
end Go.Proofs.YtlapbjdhekcipaaGreat
/- Contracts of convex: the ring of a polygon. -/
set_option maxRecDepth 20000
set_option maxHeartbeats 4000000
namespace Go.Proofs.YtlapbjdhekcipaaGreat
open Go Go.Ae
def IT:Env:=En [(33,.p mr)]
theorem abA:EnvOk Tryz.prog IT:=bL ⟨yq,trivial⟩ trivial
theorem Vl:gl Tryz.prog 145 (cI IT cV Tryz.f145):=by
 exact jn abA aO Tryz.func145 (enters_of Tryz.func145 (by kernel_rfl) rfl)
def IU:Env:=En [] [(145,cI IT cV Tryz.f145)] [] true
theorem abB:EnvOk Tryz.prog IU:=bL trivial ⟨Vl,trivial⟩
theorem Sv:gl Tryz.prog 112 (cI IU cV Tryz.f112):=by
 exact jn abB aO Tryz.func112 (enters_of Tryz.func112 (by kernel_rfl) rfl)
abbrev jC:aG:=ke 110 111
def Ey2:Env:=En [(109,.q jC),(74,.p oD)] [(112,cI IU cV Tryz.f112)]
theorem abC:EnvOk Tryz.prog Ey2:=bL ⟨X7,MZ,trivial⟩ ⟨Sv,trivial⟩
theorem X8:cZ Tryz.prog 58 fx:=by
 refine dt abC aO Tryz.func58 (enters_of Tryz.func58 (by kernel_rfl) rfl) ?_ ?_ ?_
 ·intro i B hb
  cases i with
  | none=>simp [fx,QL.ae] at hb
  | some i=>simp [fx,QL.ae] at hb; rw [hb]; rfl
 ·intro i B hb
  exact A4 hb
 intro i hp
 have hp:i.list.length≤549755813888∧∀ v∈i.list,Q2.sz 262144 v:=hp
 obtain ⟨hlen,bn⟩:=hp
 cases i with
 | none =>
  conv=>whnf
  refine ⟨(none,false),[],rfl,⟨Nat.zero_le _,fun v hv=>nomatch hv⟩,?_⟩
  rw [show jC.ae (none,false)=[] from rfl,show jC.val (none,false)=.slice none 0 0 from rfl,show jC.new (none,false)=none from rfl]
  conv=>whnf
  refine ⟨_,rfl,?_⟩
  conv=>whnf
  refine ⟨(none,true),[],rfl,⟨Nat.zero_le _,fun v hv=>nomatch hv⟩,?_⟩
  rw [show jC.ae (none,true)=[] from rfl,show jC.val (none,true)=.slice none 0 0 from rfl,show jC.new (none,true)=none from rfl]
  conv=>whnf
  refine ⟨_,rfl,?_⟩
  conv=>whnf
  exact ⟨_,rfl,.refl _⟩
 | some i =>
  obtain ⟨L,c⟩:=i
  have hlen:L.length≤549755813888:=hlen
  have bn:∀ v∈L,Q2.sz 262144 v:=bn
  obtain ⟨n,hn⟩:∃ n,n=L.length:=⟨_,rfl⟩
  obtain ⟨g,hg⟩:∃ g,g=cc L:=⟨_,rfl⟩
  obtain ⟨D,hD⟩:∃ D,D=rN false L:=⟨_,rfl⟩
  obtain ⟨C,hC⟩:∃ C,C=rN true D:=⟨_,rfl⟩
  have hR:fR L=if C.length < 3 then [] else eW C:=by rw [Tt,← hD,← hC]
  have IW:D.length≤n∧∀ v∈D,Q2.sz 262144 v:=⟨by rw [hD,hn]; exact (xz L).length_le,fun v hv=>bn v ((xz L).subset (by rw [hD] at hv; exact hv))⟩
  have CF:C.length≤n∧∀ v∈C,Q2.sz 262144 v:=⟨Nat.le_trans (by rw [hC]; exact (Au D).length_le) IW.1,fun v hv=>IW.2 v ((Au D).subset (by rw [hC] at hv; exact hv))⟩
  obtain ⟨cu,fM⟩:∃ c,c=aN:=⟨_,rfl⟩
  obtain ⟨K,hK⟩:∃ K,K=gQ fx (some (L,c)):=⟨_,rfl⟩
  have sf:∀ H:ax,fR L=[]→K (.slice none 0 0) H:=fun H h=>by
   rw [hK]
   unfold gQ
   rw [show fx.new (some (L,c))=none from by show c8 (fR L)=none; rw [h]; rfl,show fx.val (some (L,c))=.slice none 0 0 from by show eU _ (fR L).length=_; rw [h]; rfl]
   exact ⟨_,rfl,.refl _⟩
  rw [show fx.ae (some (L,c))=[.flat false n 6 g] from by rw [hn,hg]; rfl,show fx.args (some (L,c))=[.slice (some ⟨0,0,none⟩) n c] from by rw [hn]; rfl,← hK]
  rw [← hn] at hlen
  conv=>whnf
  refine ⟨(some (L,c),false),[0],by rw [show jC.args (some (L,c),false)=[.slice (some ⟨0,0,none⟩) n c,.func (.func 110) #[] #[]] from by rw [hn]; rfl]; rfl,⟨by show L.length≤_; omega,bn⟩,?_⟩
  obtain ⟨d,hd⟩:∃ d,d=D.length:=⟨_,rfl⟩
  rw [show jC.ae (some (L,c),false)=[.flat false n 6 g] from by rw [hn,hg]; rfl,show jC.val (some (L,c),false)=eU 1 d from by rw [hd,hD]; rfl,show jC.new (some (L,c),false)=c8 D from by rw [hD]; rfl]
  cases d with
  | zero =>
   obtain rfl:D=[]:=List.eq_nil_of_length_eq_zero hd.symm
   conv=>whnf
   refine ⟨aA.aM (fun h=>h) (fun r hr=>by rw [hg]; rfl),?_⟩
   conv=>whnf
   refine ⟨_,rfl,?_⟩
   conv=>whnf
   refine ⟨(none,true),[],rfl,⟨Nat.zero_le _,fun v hv=>nomatch hv⟩,?_⟩
   rw [show jC.ae (none,true)=[] from rfl,show jC.val (none,true)=.slice none 0 0 from rfl,show jC.new (none,true)=none from rfl]
   conv=>whnf
   refine ⟨_,rfl,?_⟩
   conv=>whnf
   exact sf _ (by rw [hR,hC]; rfl)
  | succ d =>
   obtain ⟨G,hG⟩:∃ G,G=cc D:=⟨_,rfl⟩
   rw [show c8 D=some (.flat true (d+1) 6 G) from by unfold c8; rw [← hd,hG]]
   conv=>whnf
   refine ⟨aA.aM (fun h=>h) (fun r hr=>by rw [hg]; rfl),?_⟩
   conv=>whnf
   refine ⟨_,rfl,?_⟩
   conv=>whnf
   obtain ⟨e,he⟩:∃ d,d=C.length:=⟨_,rfl⟩
   refine ⟨(some (D,aN),true),[1],by rw [show jC.args (some (D,aN),true)=[.slice (some ⟨0,0,none⟩) (d+1) aN,.func (.func 111) #[] #[]] from by rw [hd]; rfl]; rfl,⟨by show D.length≤_; omega,IW.2⟩,?_⟩
   rw [show jC.ae (some (D,aN),true)=[.flat false (d+1) 6 G] from by rw [hd,hG]; rfl,show jC.val (some (D,aN),true)=eU 1 e from by rw [he,hC]; rfl,show jC.new (some (D,aN),true)=c8 C from by rw [hC]; rfl]
   cases e with
   | zero =>
    obtain rfl:C=[]:=List.eq_nil_of_length_eq_zero he.symm
    conv=>whnf
    refine ⟨aA.aM (fun h=>by cases h) (fun r hr=>by rw [hG]; rfl),?_⟩
    conv=>whnf
    refine ⟨_,rfl,?_⟩
    conv=>whnf
    exact sf _ (by rw [hR]; rfl)
   | succ e =>
    obtain ⟨E,hE⟩:∃ G,G=cc C:=⟨_,rfl⟩
    rw [show c8 C=some (.flat true (e+1) 6 E) from by unfold c8; rw [← he,hE]]
    conv=>whnf
    refine ⟨aA.aM (fun h=>by cases h) (fun r hr=>by rw [hG]; rfl),?_⟩
    conv=>whnf
    refine ⟨_,rfl,?_⟩
    conv=>whnf
    by_cases h3:e+1 < 3
    ·rw [show decide (((e+1:Nat):Int) < 3)=true from decide_eq_true (by omega)]
     conv=>whnf
     exact sf _ (by rw [hR,if_pos (by omega)])
    rw [show decide (((e+1:Nat):Int) < 3)=false from decide_eq_false (by omega)]
    rw [if_neg (by omega)] at hR
    obtain ⟨N,hN⟩:∃ N,N=e+1:=⟨_,rfl⟩
    rw [← hN] at he
    rw [← hN]
    obtain ⟨M,hM⟩:∃ N,N=d+1:=⟨_,rfl⟩
    rw [← hM,← fM]
    conv=>whnf
    refine .inl ⟨fun mm tz hz=>∃ (i:Nat) (m:Nat),bE (some (.slice (some ⟨2,0,none⟩) N cu)::aD 2 (some (.int .i64 m)::aD 9 (some (.slice (some ⟨2,0,none⟩) N cu)::some (.int .i64 N)::some (.int .i64 i)::aD 21 []))) tz∧hz=[some (.flat false n 6 g),some (.flat true M 6 G),some (.flat true N 6 E)]∧N - i=mm∧(i≤N∧m=nq C i),.inr ⟨[0,1,2],[0,3,13,14,15],?_⟩,?_⟩
    ·conv=>whnf
     intro _
     conv=>whnf
     refine ⟨_,0,0,(.aa (.sk 2 (.aa (.sk 9 (.aa (.aa (.aa (.sk 21 .nil rfl)))) rfl)) rfl)),rfl,rfl,?_⟩
     exact ⟨Nat.zero_le _,rfl⟩
    rintro mm aT _ ⟨i,m,ar,rfl,rfl,⟨hi,hm⟩⟩
    obtain ⟨az,rfl⟩:∃ az:Nat→Value,aT=.slice (some ⟨2,0,none⟩) N cu::zs az 1 2 (.int .i64 m::zs az 4 9 (.slice (some ⟨2,0,none⟩) N cu::.int .i64 N::.int .i64 i::zs az 16 21 [])):=bK ar
    clear ar
    have kQ:m < N:=by rw [hm,he]; exact (JG C i (by omega)).1 (by omega)
    conv=>whnf
    refine aL (fun h1=>?_) (fun h1=>?_)
    ·have h1:i < N:=by
      have:=of_decide_eq_true h1
      omega
     have e7:IntKind.i64.wrap ((i:Int)+1)=((i+1:Nat):Int):=by rw [au (by omega) (by omega)]; rfl
     obtain ⟨p,cp,rp,pp,sp,qp⟩:=ib (L:=C) (k:=i) (by omega) CF.2
     obtain ⟨q,cq,rq,pq,sq,qq⟩:=ib (L:=C) (k:=m) (by omega) CF.2
     rw [← hE] at rp rq
     conv=>whnf
     refine ⟨⟨by omega,by omega⟩,?_⟩
     simp only [toNat_cast,aq,Nat.zero_add]
     conv=>whnf
     refine ⟨by show i < N; omega,?_⟩
     conv=>whnf
     rw [rp]
     conv=>whnf
     refine .inl ⟨5,[[],[],[],[1,2],[1,2,3],[0,1,2,3,4],[0,1,2,3,4,5]],by kernel_rfl,?_⟩
     conv=>whnf
     refine ⟨⟨by omega,by omega⟩,?_⟩
     simp only [toNat_cast,aq,Nat.zero_add]
     conv=>whnf
     refine ⟨by show m < N; omega,?_⟩
     conv=>whnf
     rw [rq]
     conv=>whnf
     obtain ⟨z,ez,pz⟩:=eJ (fL p.p q.p)
     refine ⟨(p,q),rfl,⟨PV.a8 sp (by decide),PV.a8 sq (by decide)⟩,?_⟩
     rw [show oD.val (p,q)=.int .i64 z from ez]
     conv=>whnf
     rw [pp,pq] at pz
     have sM:nq C (i+1)=if z < 0 then i else m:=by
      show (if fL (aE C i) (aE C (nq C i)) < 0 then i else nq C i)=_
      rw [pz,hm]
     refine aL (fun J=>?_) (fun J=>?_)
     ·have J:z < 0:=of_decide_eq_true J
      conv=>whnf
      rw [e7]
      refine .inr ⟨[0,1,2],[0,3,13,14,15],?_⟩
      conv=>whnf
      intro _
      conv=>whnf
      refine ⟨_,?_,i+1,i,(.aa (.sk 2 (.aa (.sk 9 (.aa (.aa (.aa (.sk 21 .nil rfl)))) rfl)) rfl)),rfl,rfl,?_⟩
      ·omega
      ·exact ⟨by omega,by rw [sM,if_pos J]⟩
     ·have J:¬ z < 0:=of_decide_eq_false J
      conv=>whnf
      rw [e7]
      refine .inr ⟨[0,1,2],[0,3,13,14,15],?_⟩
      conv=>whnf
      intro _
      conv=>whnf
      refine ⟨_,?_,i+1,m,(.aa (.sk 2 (.aa (.sk 9 (.aa (.aa (.aa (.sk 21 .nil rfl)))) rfl)) rfl)),rfl,rfl,?_⟩
      ·omega
      ·exact ⟨by omega,by rw [sM,if_neg J]⟩
    ·have h1:i=N:=by
      have:=of_decide_eq_false h1
      omega
     subst h1
     conv=>whnf
     refine .inl ⟨6,[[],[],[0,1],[],[],[3,4],[0,1,2,3,4,5],[0,1,2,3,4,5,6],[0,1,2,3,4,5,6,7]],by kernel_rfl,?_⟩
     conv=>whnf
     refine ⟨⟨by omega,by omega,by omega⟩,?_⟩
     rw [show Int.toNat (i:Int) - Int.toNat (m:Int)=i - m from rfl,show Int.toNat (m:Int)=m from rfl,aq,Nat.zero_add]
     conv=>whnf
     refine ⟨⟨by omega,by omega,by omega⟩,?_⟩
     conv=>whnf
     obtain ⟨a,ha⟩:∃ a,a=i - m:=⟨_,rfl⟩
     obtain ⟨ca,hca⟩:∃ a,a=tD cu m:=⟨_,rfl⟩
     obtain ⟨cb,hcb⟩:∃ a,a=tD cu (Int.toNat 0):=⟨_,rfl⟩
     rw [← ha,← hca,← hcb,show fe 0 (Int.toNat 0)=0 from rfl,show Int.toNat (m:Int) - Int.toNat 0=m from rfl,Nat.zero_add]
     have w1:IntKind.i64.wrap (0+(a:Int))=(a:Int):=by rw [au (by omega) (by omega)]; omega
     have w2:IntKind.i64.wrap ((a:Int)+(m:Int))=(i:Int):=by rw [au (by omega) (by omega)]; omega
     refine .inr ⟨3,?_⟩
     conv=>whnf
     refine ⟨by decide,?_⟩
     conv=>whnf
     rw [w1,show decide ((a:Int) < 0)=false from decide_eq_false (by omega)]
     conv=>whnf
     refine ⟨by decide,?_⟩
     conv=>whnf
     rw [w2,show decide ((i:Int) < 0)=false from decide_eq_false (by omega)]
     conv=>whnf
     have w3:IntKind.i64.wrap ((i:Int) - IntKind.i64.wrap (0 - ((0:Nat):Int)))=(i:Int):=by
      rw [show IntKind.i64.wrap (0 - ((0:Nat):Int))=0 from rfl,au (by omega) (by omega)]; omega
     rw [w3,show decide ((i:Int) > 0)=true from decide_eq_true (by omega)]
     conv=>whnf
     refine ⟨⟨by omega,by omega,by omega⟩,?_⟩
     conv=>whnf
     refine ⟨⟨by omega,by show (i:Int)*((80:Nat):Int)≤_; omega⟩,?_⟩
     conv=>whnf
     refine ⟨⟨by omega,by omega,by omega⟩,?_⟩
     rw [show (0:Int).toNat=0 from rfl,show fe 0 0=0 from rfl]
     conv=>whnf
     refine .inr ⟨3,?_⟩
     conv=>whnf
     refine ⟨by decide,?_⟩
     conv=>whnf
     refine ⟨by omega,?_⟩
     conv=>whnf
     rw [show Int.toNat (((0:Nat):Int)) - 0=0 from rfl,show (Src.fl a fun j=>E (fe (0+m) j)).m=a from rfl,Nat.zero_add]
     refine ⟨⟨by decide,⟨Nat.zero_le _,rfl⟩,by show (0+a)*80≤_; omega⟩,?_⟩
     conv=>whnf
     refine ⟨[25,26,27],?_⟩
     conv=>whnf
     intro _
     conv=>whnf
     refine ⟨by decide,?_⟩
     conv=>whnf
     refine ⟨by omega,?_⟩
     conv=>whnf
     rw [show (Src.fl m fun j=>E (fe 0 j)).m=m from rfl]
     refine ⟨⟨by decide,⟨Nat.le_refl _,rfl⟩,by show (0+a+m)*80≤_; omega⟩,?_⟩
     conv=>whnf
     refine ⟨[25,26,27],?_⟩
     conv=>whnf
     intro _
     conv=>whnf
     rw [show 0+a+m=i from by omega]
     have hl:(fR L).length=i:=by rw [hR,At]; omega
     rw [hK]
     unfold gQ
     rw [show fx.new (some (L,c))=some (.flat true i 6 (cc (fR L))) from V6 hl (by omega),show fx.val (some (L,c))=.slice (some ⟨1,0,none⟩) i aN from (congrArg (eU 1) hl).trans (V7 (by omega))]
     refine ⟨10,?_⟩
     conv=>whnf
     refine ⟨⟨rfl,aA.qV (fun h=>h) (fun r hr=>?_) (fun r hr=>rfl)⟩,_,rfl,.refl _⟩
     rw [hR,Tn (L:=C) (fun r hr=>by rw [hE]) (by omega) (by omega) r (by omega),hm,he]
     rfl
end Go.Proofs.YtlapbjdhekcipaaGreat
/- Contracts of convex: what is left of a polygon by a line. -/
set_option maxRecDepth 20000
set_option maxHeartbeats 4000000
namespace Go.Proofs.YtlapbjdhekcipaaGreat
open Go Go.Ae
def IX:Env:=En [(70,.p pr),(34,.p iD),(38,.p gL),(71,.p pN),(39,.p wX)] [(64,cI nk cV Tryz.f64)] [(118,wb)]
theorem abD:EnvOk Tryz.prog IX:=bL ⟨Ly,Fi,wa,M0,aag,trivial⟩ ⟨xZ,trivial⟩
theorem aak:ie Tryz.prog IX:=xo ⟨xN,trivial⟩
def OT:Nat→FT→Nu→FT:=fun l G nu=>cI { IX with ys:=[(l,G)],nu:=nu } cV Tryz.f114
theorem X9:yO Tryz.prog 114 OT:=by
 exact NL abD aO Tryz.func114 (enters_of Tryz.func114 (by kernel_rfl) rfl) (hI:=aak)
def C9:Env:=En [] [] [(114,OT)]
theorem abE:EnvOk Tryz.prog C9:=bL trivial trivial
theorem aal:ie Tryz.prog C9:=xo ⟨X9,trivial⟩
theorem Ya:gl Tryz.prog 113 (cI C9 cV Tryz.f113):=by
 exact jn abE aO Tryz.func113 (enters_of Tryz.func113 (by kernel_rfl) rfl) (hI:=aal)
def Ez3:Env:=En [] [(113,cI C9 cV Tryz.f113)]
theorem abF:EnvOk Tryz.prog Ez3:=bL trivial ⟨Ya,trivial⟩
abbrev iA:aG:=Hw 114
theorem aam:cZ Tryz.prog 59 iA:=by
 refine dt abF aO Tryz.func59 (enters_of Tryz.func59 (by kernel_rfl) rfl) ?_ ?_ ?_
 ·intro ⟨i,_⟩ B hb
  cases i with
  | none=>simp [iA,Hw,QL.ae] at hb; rcases hb with rfl | rfl | rfl <;> rfl
  | some i=>simp [iA,Hw,QL.ae] at hb; rcases hb with rfl | rfl | rfl | rfl <;> rfl
 ·intro i B hb
  exact A4 hb
 intro ⟨i,a,b⟩ hp
 have hp:i.list.length≤1073741824∧(∀ v∈i.list,Q2.sz 2048 v)∧a.sz 2048∧b.sz 2048:=hp
 obtain ⟨hlen,bn,sa,sb⟩:=hp
 have qa:=PV.dp sa (by decide)
 have qb:=PV.dp sb (by decide)
 cases i with
 | none =>
  conv=>whnf
  intro yl nu fn tm df
  conv=>whnf
  intro IY nu2 PY PZ P0
  conv=>whnf
  refine .inr ⟨1,?_⟩
  conv=>whnf
  exact ⟨_,rfl,.refl _⟩
 | some i =>
  obtain ⟨L,c⟩:=i
  have hlen:L.length≤1073741824:=hlen
  have bn:∀ v∈L,Q2.sz 2048 v:=bn
  obtain ⟨n,hn⟩:∃ n,n=L.length:=⟨_,rfl⟩
  obtain ⟨g,hg⟩:∃ g,g=cc L:=⟨_,rfl⟩
  obtain ⟨K,hK⟩:∃ K,K=gQ iA (some (L,c),(a,b)):=⟨_,rfl⟩
  rw [show iA.ae (some (L,c),(a,b))=[.flat false n 6 g,.aQ false 1 [[.slice (some ⟨0,0,none⟩) n c]],.aQ false 6 [a.cells],.aQ false 6 [b.cells]] from by rw [hn,hg]; rfl,show iA.args (some (L,c),(a,b))=[.func (.func 114) #[] #[.pointer (some ⟨1,0,none⟩),.pointer (some ⟨2,0,none⟩),.pointer (some ⟨3,0,none⟩)]] from rfl,← hK]
  rw [← hn] at hlen
  conv=>whnf
  intro yl nu fn tm df
  conv=>whnf
  intro IY nu2 PY PZ P0
  conv=>whnf
  refine .inl ⟨fun mm tz hz=>∃ (j:Nat) (O:List Q2) (q:Nat) (F:Nat→List Value),bE (some (.func (.yield IY) #[] #[])::some (.pointer (some ⟨7,0,none⟩))::aD 3 (some (.slice (some ⟨0,0,none⟩) n c)::some (.int .i64 n)::some (.int .i64 j)::aD 17 [])) tz∧hz=[some (.flat false n 6 g),some (.aQ false 1 [[.slice (some ⟨0,0,none⟩) n c]]),some (.aQ false 6 [a.cells]),some (.aQ false 6 [b.cells]),some (.aQ true 1 [[eU 9 q]]),some (.cm (rW Tryz.f113 fn tm df)),some (.aQ true 1 [[.func (.yield yl) #[] #[]]]),some (.aQ true 1 [[.slice (some ⟨0,0,none⟩) n c]]),some (.cm (rW Tryz.f114 PY PZ P0))]++yU 6 F q∧n - j=mm∧((j≤n∧q=O.length)∧O=((aX L).take j).flatMap (mX (eV a.p b.p))∧∀ r,r < q→F r=cc O r),.inr ⟨[0,1,2,3,4,5,6,7,8],[0,1,5,6,7],?_⟩,?_⟩
  ·conv=>whnf
   intro _
   conv=>whnf
   refine ⟨_,0,[],0,fun _=>[],(.aa (.aa (.sk 3 (.aa (.aa (.aa (.sk 17 .nil rfl)))) rfl))),rfl,rfl,?_⟩
   exact ⟨⟨Nat.zero_le _,rfl⟩,rfl,fun r hr=>absurd hr (Nat.not_lt_zero r)⟩
  rintro mm aT _ ⟨j,O,q,F,ar,rfl,rfl,⟨⟨hj,hq⟩,hO,hF⟩⟩
  obtain ⟨az,rfl⟩:∃ az:Nat→Value,aT=.func (.yield IY) #[] #[]::.pointer (some ⟨7,0,none⟩)::zs az 2 3 (.slice (some ⟨0,0,none⟩) n c::.int .i64 n::.int .i64 j::zs az 8 17 []):=bK ar
  clear ar
  have sM:=V8 (eV a.p b.p) L j
  rw [← hO,← hq] at sM
  cases q with
  | zero =>
   obtain rfl:O=[]:=List.eq_nil_of_length_eq_zero hq.symm
   conv=>whnf
   refine aL (fun h7=>?_) (fun h7=>?_)
   ·have h7:j < n:=by
     have:=of_decide_eq_true h7
     omega
    have e8:IntKind.i64.wrap ((j:Int)+1)=((j+1:Nat):Int):=by rw [au (by omega) (by omega)]; rfl
    obtain ⟨u,cu,ru,pu,su,qu⟩:=ib (L:=L) (k:=j) (by omega) bn
    obtain ⟨v,cv,rv,pv,sv,qv⟩:=ib (L:=L) (k:=bd n j) (by rw [hn]; exact c6 (by omega)) bn
    have cD:=jO h7 (by omega)
    have cl:=c6 h7
    have e9:(aX L)[j]?=some (u.p,v.p):=by rw [pu,pv]; rw [hn] at cl ⊢; exact qW (gI (by omega)) (gI cl)
    rw [← pu] at cu
    obtain ⟨k,hk⟩:∃ u,u=bd n j:=⟨_,rfl⟩
    rw [← hk] at cD cl rv
    rw [← hg] at ru rv
    conv=>whnf
    refine ⟨⟨by omega,by omega⟩,?_⟩
    simp only [toNat_cast,aq,Nat.zero_add]
    conv=>whnf
    refine ⟨by show j < n; omega,?_⟩
    conv=>whnf
    rw [ru]
    conv=>whnf
    refine .inl ⟨10,[[],[],[],[],[3],[],[5],[3,4,5,6],[2,3,4,5,6,7],[2,3,4,5,6,7,8],[0,1,2,3,4,5,6,7,8,9],[0,1,2,3,4,5,6,7,8,9,10]],by kernel_rfl,?_⟩
    conv=>whnf
    rw [show decide ((n:Int)≠0)=true from decide_eq_true (by omega)]
    conv=>whnf
    rw [cD]
    refine ⟨⟨by omega,by omega⟩,?_⟩
    simp only [toNat_cast,aq,Nat.zero_add]
    conv=>whnf
    refine ⟨by show k < n; omega,?_⟩
    conv=>whnf
    rw [rv]
    conv=>whnf
    refine ⟨rfl,?_⟩
    conv=>whnf
    refine ⟨rfl,?_⟩
    conv=>whnf
    refine ⟨rfl,?_⟩
    conv=>whnf
    refine .inl ⟨10,[[],[],[],[0,1,2],[],[],[],[0,1,2,3,4,5,6],[],[],[0,1,2,3,4,5,6,7,8,9],[0,1,2,3,4,5,6,7,8,9,10]],by kernel_rfl,?_⟩
    conv=>whnf
    obtain ⟨x,ex,px,sx,qx⟩:=gN (wP qa qb qu)
    refine ⟨(a,b,u),rfl,⟨PV.a8 sa (by decide),PV.a8 sb (by decide),PV.a8 su (by decide)⟩,?_⟩
    rw [show pr.val (a,b,u)=x.v from ex]
    conv=>whnf
    obtain ⟨y,ey,py,sy,qy⟩:=gN (wP qa qb qv)
    refine ⟨(a,b,v),rfl,⟨PV.a8 sa (by decide),PV.a8 sb (by decide),PV.a8 sv (by decide)⟩,?_⟩
    rw [show pr.val (a,b,v)=y.v from ey]
    conv=>whnf
    obtain ⟨z,ez,pz⟩:=eJ (aY x.q 0)
    refine ⟨x,rfl,RV.b6 sx (by decide),?_⟩
    rw [show iD.val x=.int .i64 z from ez]
    conv=>whnf
    have hz:=sX x.q 0
    rw [← pz] at hz
    have ao:=Lp (w:=cB (atR u.p v.p (x.q / (x.q - y.q)))) e9 hO (px.trans (wz _ _ _).symm) (py.trans (wz _ _ _).symm) (ig _)
    rw [← pz] at ao
    by_cases h8:z ≥ 0
    ·rw [show decide (z ≥ 0)=true from decide_eq_true h8]
     rw [if_pos h8] at ao
     conv=>whnf
     refine ⟨rfl,?_⟩
     conv=>whnf
     refine ⟨rfl,?_⟩
     conv=>whnf
     refine ⟨rfl,?_⟩
     conv=>whnf
     refine ⟨by decide,?_⟩
     conv=>whnf
     refine ⟨rfl,?_⟩
     conv=>whnf
     refine .inl ⟨3,[[],[0],[],[0,1,2],[0,1,2,3],[0,1,2,3,4]],by kernel_rfl,?_⟩
     conv=>whnf
     obtain ⟨z3,u0,u1⟩:=eJ (aY x.q 0)
     refine ⟨x,rfl,RV.b6 sx (by decide),?_⟩
     rw [show iD.val x=.int .i64 z3 from u0]
     conv=>whnf
     obtain ⟨z2,u2,n6⟩:=eJ (aY y.q 0)
     refine ⟨y,rfl,RV.b6 sy (by decide),?_⟩
     rw [show iD.val y=.int .i64 z2 from u2]
     conv=>whnf
     have nj:=sX y.q 0
     rw [← n6] at nj
     obtain rfl:z3=z:=u1.trans pz.symm
     rw [show IntKind.i64.wrap (z3*z2)=z3*z2 from by rcases hz with rfl | rfl | rfl <;> rcases nj with rfl | rfl | rfl <;> rfl]
     rw [← n6] at ao
     by_cases h9:z3*z2 < 0
     ·rw [show decide (z3*z2 < 0)=true from decide_eq_true h9]
      rw [if_pos h9] at ao
      conv=>whnf
      refine .inr (.inr (.inl ⟨9,1,[[],[],[],[1,2],[0,1,2,3],[0,1,2,3,4],[0,1,2,3,4,5],[0,1,2,3,4,5],[],[0,1,2,3,4,5,6,8],[0,1,2,3,4,5,6,7,8,9]],[7],by kernel_rfl,?_⟩))
      conv=>whnf
      obtain ⟨d2,kv,u3,u4,u5⟩:=gN (QB.sub qx qy)
      refine ⟨(x,y),rfl,⟨RV.b6 sx (by decide),RV.b6 sy (by decide)⟩,?_⟩
      rw [show gL.val (x,y)=d2.v from kv]
      conv=>whnf
      obtain ⟨t,et,pt,st,qt⟩:=gN (QB.div qx u5 (by decide))
      obtain ⟨e,ee,pe⟩:=eJ (if d2.q=0 then 10 else 0)
      refine ⟨(x,d2),rfl,⟨RV.b6 sx (by decide),RV.b6 u4 (by decide)⟩,?_⟩
      rw [show pN.val (x,d2)=.tuple ⟨[t.v,.int .i64 e]⟩ from by rw [← et,← ee]; rfl]
      conv=>whnf
      refine .inl ⟨5,[[],[],[],[],[1,2,3],[0,1,2,3,4],[0,1,2,3,4,5]],by kernel_rfl,?_⟩
      conv=>whnf
      obtain ⟨w,ew,pw,sw,qw⟩:=rL (yI qu qv qt)
      refine ⟨((u,v),t),rfl,⟨⟨PV.a8 su (by decide),PV.a8 sv (by decide)⟩,RV.a8 st (by decide)⟩,?_⟩
      rw [show wX.val ((u,v),t)=w.v from ew]
      conv=>whnf
      have cw:=(PV.nJ ew).symm
      rw [← pw] at cw
      rw [show (cB (atR u.p v.p (x.q / (x.q - y.q)))).p=w.p from by rw [ig,pw,pt,u3]] at ao
      refine ⟨rfl,?_⟩
      conv=>whnf
      refine ⟨rfl,?_⟩
      conv=>whnf
      refine ⟨rfl,?_⟩
      conv=>whnf
      refine ⟨⟨rfl,by show (0+1+1)*80≤140737488355328; decide⟩,?_⟩
      conv=>whnf
      refine ⟨rfl,?_⟩
      conv=>whnf
      refine ⟨rfl,?_⟩
      conv=>whnf
      rw [e8]
      refine .inr ⟨[0,1,2,3,4,5,6,7,8,54],[0,1,5,6,7],?_⟩
      conv=>whnf
      intro _
      conv=>whnf
      refine ⟨_,?_,j+1,[u.p]++[w.p],0+1+1,_,(.aa (.aa (.sk 3 (.aa (.aa (.aa (.sk 17 .nil rfl)))) rfl))),rfl,rfl,?_⟩
      ·omega
      ·exact ⟨⟨by omega,rfl⟩,by rw [ao]; rfl,q9 (O:=[u.p]) rfl (vP cu rfl) cw rfl⟩
     ·rw [show decide (z3*z2 < 0)=false from decide_eq_false h9]
      rw [if_neg h9] at ao
      conv=>whnf
      refine ⟨rfl,?_⟩
      conv=>whnf
      rw [e8]
      refine .inr ⟨[0,1,2,3,4,5,6,7,8,34],[0,1,5,6,7],?_⟩
      conv=>whnf
      intro _
      conv=>whnf
      refine ⟨_,?_,j+1,[u.p],0+1,_,(.aa (.aa (.sk 3 (.aa (.aa (.aa (.sk 17 .nil rfl)))) rfl))),rfl,rfl,?_⟩
      ·omega
      ·exact ⟨⟨by omega,rfl⟩,by rw [ao]; rfl,vP cu rfl⟩
    ·rw [show decide (z ≥ 0)=false from decide_eq_false h8]
     rw [if_neg h8] at ao
     conv=>whnf
     refine .inl ⟨3,[[],[0],[],[0,1,2],[0,1,2,3],[0,1,2,3,4]],by kernel_rfl,?_⟩
     conv=>whnf
     obtain ⟨z3,u0,u1⟩:=eJ (aY x.q 0)
     refine ⟨x,rfl,RV.b6 sx (by decide),?_⟩
     rw [show iD.val x=.int .i64 z3 from u0]
     conv=>whnf
     obtain ⟨z2,u2,n6⟩:=eJ (aY y.q 0)
     refine ⟨y,rfl,RV.b6 sy (by decide),?_⟩
     rw [show iD.val y=.int .i64 z2 from u2]
     conv=>whnf
     have nj:=sX y.q 0
     rw [← n6] at nj
     obtain rfl:z3=z:=u1.trans pz.symm
     rw [show IntKind.i64.wrap (z3*z2)=z3*z2 from by rcases hz with rfl | rfl | rfl <;> rcases nj with rfl | rfl | rfl <;> rfl]
     rw [← n6] at ao
     by_cases h9:z3*z2 < 0
     ·rw [show decide (z3*z2 < 0)=true from decide_eq_true h9]
      rw [if_pos h9] at ao
      conv=>whnf
      refine .inr (.inr (.inl ⟨9,1,[[],[],[],[1,2],[0,1,2,3],[0,1,2,3,4],[0,1,2,3,4,5],[0,1,2,3,4,5],[],[0,1,2,3,4,5,6,8],[0,1,2,3,4,5,6,7,8,9]],[7],by kernel_rfl,?_⟩))
      conv=>whnf
      obtain ⟨d2,kv,u3,u4,u5⟩:=gN (QB.sub qx qy)
      refine ⟨(x,y),rfl,⟨RV.b6 sx (by decide),RV.b6 sy (by decide)⟩,?_⟩
      rw [show gL.val (x,y)=d2.v from kv]
      conv=>whnf
      obtain ⟨t,et,pt,st,qt⟩:=gN (QB.div qx u5 (by decide))
      obtain ⟨e,ee,pe⟩:=eJ (if d2.q=0 then 10 else 0)
      refine ⟨(x,d2),rfl,⟨RV.b6 sx (by decide),RV.b6 u4 (by decide)⟩,?_⟩
      rw [show pN.val (x,d2)=.tuple ⟨[t.v,.int .i64 e]⟩ from by rw [← et,← ee]; rfl]
      conv=>whnf
      refine .inl ⟨5,[[],[],[],[],[1,2,3],[0,1,2,3,4],[0,1,2,3,4,5]],by kernel_rfl,?_⟩
      conv=>whnf
      obtain ⟨w,ew,pw,sw,qw⟩:=rL (yI qu qv qt)
      refine ⟨((u,v),t),rfl,⟨⟨PV.a8 su (by decide),PV.a8 sv (by decide)⟩,RV.a8 st (by decide)⟩,?_⟩
      rw [show wX.val ((u,v),t)=w.v from ew]
      conv=>whnf
      have cw:=(PV.nJ ew).symm
      rw [← pw] at cw
      rw [show (cB (atR u.p v.p (x.q / (x.q - y.q)))).p=w.p from by rw [ig,pw,pt,u3]] at ao
      refine ⟨rfl,?_⟩
      conv=>whnf
      refine ⟨rfl,?_⟩
      conv=>whnf
      refine ⟨rfl,?_⟩
      conv=>whnf
      refine ⟨by decide,?_⟩
      conv=>whnf
      refine ⟨rfl,?_⟩
      conv=>whnf
      refine ⟨rfl,?_⟩
      conv=>whnf
      rw [e8]
      refine .inr ⟨[0,1,2,3,4,5,6,7,8,51],[0,1,5,6,7],?_⟩
      conv=>whnf
      intro _
      conv=>whnf
      refine ⟨_,?_,j+1,[w.p],0+1,_,(.aa (.aa (.sk 3 (.aa (.aa (.aa (.sk 17 .nil rfl)))) rfl))),rfl,rfl,?_⟩
      ·omega
      ·exact ⟨⟨by omega,rfl⟩,by rw [ao]; rfl,vP cw rfl⟩
     ·rw [show decide (z3*z2 < 0)=false from decide_eq_false h9]
      rw [if_neg h9] at ao
      conv=>whnf
      refine ⟨rfl,?_⟩
      conv=>whnf
      rw [e8]
      refine .inr ⟨[0,1,2,3,4,5,6,7,8],[0,1,5,6,7],?_⟩
      conv=>whnf
      intro _
      conv=>whnf
      refine ⟨_,?_,j+1,[],0,fun _=>[],(.aa (.aa (.sk 3 (.aa (.aa (.aa (.sk 17 .nil rfl)))) rfl))),rfl,rfl,?_⟩
      ·omega
      ·exact ⟨⟨by omega,rfl⟩,by rw [ao]; rfl,fun r hr=>absurd hr (Nat.not_lt_zero r)⟩
   ·have h7:j=n:=by
     have:=of_decide_eq_false h7
     omega
    subst h7
    have y5:fo (eV a.p b.p) L=[]:=by rw [hO,hn]; exact (Mb _ L).symm
    conv=>whnf
    rw [hK]
    unfold gQ
    rw [show iA.new (some (L,c),(a,b))=none from by show c8 (fo (eV a.p b.p) L)=none; rw [y5]; rfl,show iA.val (some (L,c),(a,b))=.slice none 0 0 from by show eU _ (fo (eV a.p b.p) L).length=_; rw [y5]; rfl]
    exact ⟨_,rfl,.refl _⟩
  | succ q =>
   conv=>whnf
   refine aL (fun h7=>?_) (fun h7=>?_)
   ·have h7:j < n:=by
     have:=of_decide_eq_true h7
     omega
    have e8:IntKind.i64.wrap ((j:Int)+1)=((j+1:Nat):Int):=by rw [au (by omega) (by omega)]; rfl
    obtain ⟨u,cu,ru,pu,su,qu⟩:=ib (L:=L) (k:=j) (by omega) bn
    obtain ⟨v,cv,rv,pv,sv,qv⟩:=ib (L:=L) (k:=bd n j) (by rw [hn]; exact c6 (by omega)) bn
    have cD:=jO h7 (by omega)
    have cl:=c6 h7
    have e9:(aX L)[j]?=some (u.p,v.p):=by rw [pu,pv]; rw [hn] at cl ⊢; exact qW (gI (by omega)) (gI cl)
    rw [← pu] at cu
    obtain ⟨k,hk⟩:∃ u,u=bd n j:=⟨_,rfl⟩
    rw [← hk] at cD cl rv
    rw [← hg] at ru rv
    conv=>whnf
    refine ⟨⟨by omega,by omega⟩,?_⟩
    simp only [toNat_cast,aq,Nat.zero_add]
    conv=>whnf
    refine ⟨by show j < n; omega,?_⟩
    conv=>whnf
    rw [ru]
    conv=>whnf
    refine .inl ⟨10,[[],[],[],[],[3],[],[5],[3,4,5,6],[2,3,4,5,6,7],[2,3,4,5,6,7,8],[0,1,2,3,4,5,6,7,8,9],[0,1,2,3,4,5,6,7,8,9,10]],by kernel_rfl,?_⟩
    conv=>whnf
    rw [show decide ((n:Int)≠0)=true from decide_eq_true (by omega)]
    conv=>whnf
    rw [cD]
    refine ⟨⟨by omega,by omega⟩,?_⟩
    simp only [toNat_cast,aq,Nat.zero_add]
    conv=>whnf
    refine ⟨by show k < n; omega,?_⟩
    conv=>whnf
    rw [rv]
    conv=>whnf
    refine ⟨rfl,?_⟩
    conv=>whnf
    refine ⟨rfl,?_⟩
    conv=>whnf
    refine ⟨rfl,?_⟩
    conv=>whnf
    refine .inl ⟨10,[[],[],[],[0,1,2],[],[],[],[0,1,2,3,4,5,6],[],[],[0,1,2,3,4,5,6,7,8,9],[0,1,2,3,4,5,6,7,8,9,10]],by kernel_rfl,?_⟩
    conv=>whnf
    obtain ⟨x,ex,px,sx,qx⟩:=gN (wP qa qb qu)
    refine ⟨(a,b,u),rfl,⟨PV.a8 sa (by decide),PV.a8 sb (by decide),PV.a8 su (by decide)⟩,?_⟩
    rw [show pr.val (a,b,u)=x.v from ex]
    conv=>whnf
    obtain ⟨y,ey,py,sy,qy⟩:=gN (wP qa qb qv)
    refine ⟨(a,b,v),rfl,⟨PV.a8 sa (by decide),PV.a8 sb (by decide),PV.a8 sv (by decide)⟩,?_⟩
    rw [show pr.val (a,b,v)=y.v from ey]
    conv=>whnf
    obtain ⟨z,ez,pz⟩:=eJ (aY x.q 0)
    refine ⟨x,rfl,RV.b6 sx (by decide),?_⟩
    rw [show iD.val x=.int .i64 z from ez]
    conv=>whnf
    have hz:=sX x.q 0
    rw [← pz] at hz
    have ao:=Lp (w:=cB (atR u.p v.p (x.q / (x.q - y.q)))) e9 hO (px.trans (wz _ _ _).symm) (py.trans (wz _ _ _).symm) (ig _)
    rw [← pz] at ao
    by_cases h8:z ≥ 0
    ·rw [show decide (z ≥ 0)=true from decide_eq_true h8]
     rw [if_pos h8] at ao
     conv=>whnf
     refine ⟨rfl,?_⟩
     conv=>whnf
     refine ⟨rfl,?_⟩
     conv=>whnf
     refine ⟨rfl,?_⟩
     conv=>whnf
     refine ⟨⟨rfl,by show (q+1+1)*80≤140737488355328; omega⟩,?_⟩
     conv=>whnf
     refine ⟨rfl,?_⟩
     conv=>whnf
     refine .inl ⟨3,[[],[0],[],[0,1,2],[0,1,2,3],[0,1,2,3,4]],by kernel_rfl,?_⟩
     conv=>whnf
     obtain ⟨z3,u0,u1⟩:=eJ (aY x.q 0)
     refine ⟨x,rfl,RV.b6 sx (by decide),?_⟩
     rw [show iD.val x=.int .i64 z3 from u0]
     conv=>whnf
     obtain ⟨z2,u2,n6⟩:=eJ (aY y.q 0)
     refine ⟨y,rfl,RV.b6 sy (by decide),?_⟩
     rw [show iD.val y=.int .i64 z2 from u2]
     conv=>whnf
     have nj:=sX y.q 0
     rw [← n6] at nj
     obtain rfl:z3=z:=u1.trans pz.symm
     rw [show IntKind.i64.wrap (z3*z2)=z3*z2 from by rcases hz with rfl | rfl | rfl <;> rcases nj with rfl | rfl | rfl <;> rfl]
     rw [← n6] at ao
     by_cases h9:z3*z2 < 0
     ·rw [show decide (z3*z2 < 0)=true from decide_eq_true h9]
      rw [if_pos h9] at ao
      conv=>whnf
      refine .inr (.inr (.inl ⟨9,1,[[],[],[],[1,2],[0,1,2,3],[0,1,2,3,4],[0,1,2,3,4,5],[0,1,2,3,4,5],[],[0,1,2,3,4,5,6,8],[0,1,2,3,4,5,6,7,8,9]],[7],by kernel_rfl,?_⟩))
      conv=>whnf
      obtain ⟨d2,kv,u3,u4,u5⟩:=gN (QB.sub qx qy)
      refine ⟨(x,y),rfl,⟨RV.b6 sx (by decide),RV.b6 sy (by decide)⟩,?_⟩
      rw [show gL.val (x,y)=d2.v from kv]
      conv=>whnf
      obtain ⟨t,et,pt,st,qt⟩:=gN (QB.div qx u5 (by decide))
      obtain ⟨e,ee,pe⟩:=eJ (if d2.q=0 then 10 else 0)
      refine ⟨(x,d2),rfl,⟨RV.b6 sx (by decide),RV.b6 u4 (by decide)⟩,?_⟩
      rw [show pN.val (x,d2)=.tuple ⟨[t.v,.int .i64 e]⟩ from by rw [← et,← ee]; rfl]
      conv=>whnf
      refine .inl ⟨5,[[],[],[],[],[1,2,3],[0,1,2,3,4],[0,1,2,3,4,5]],by kernel_rfl,?_⟩
      conv=>whnf
      obtain ⟨w,ew,pw,sw,qw⟩:=rL (yI qu qv qt)
      refine ⟨((u,v),t),rfl,⟨⟨PV.a8 su (by decide),PV.a8 sv (by decide)⟩,RV.a8 st (by decide)⟩,?_⟩
      rw [show wX.val ((u,v),t)=w.v from ew]
      conv=>whnf
      have cw:=(PV.nJ ew).symm
      rw [← pw] at cw
      rw [show (cB (atR u.p v.p (x.q / (x.q - y.q)))).p=w.p from by rw [ig,pw,pt,u3]] at ao
      refine ⟨rfl,?_⟩
      conv=>whnf
      refine ⟨rfl,?_⟩
      conv=>whnf
      refine ⟨rfl,?_⟩
      conv=>whnf
      refine ⟨⟨rfl,by show (q+1+1+1)*80≤140737488355328; omega⟩,?_⟩
      conv=>whnf
      refine ⟨rfl,?_⟩
      conv=>whnf
      refine ⟨rfl,?_⟩
      conv=>whnf
      rw [e8]
      refine .inr ⟨[0,1,2,3,4,5,6,7,8,55],[0,1,5,6,7],?_⟩
      conv=>whnf
      intro _
      conv=>whnf
      refine ⟨_,?_,j+1,(O++[u.p])++[w.p],q+1+1+1,_,(.aa (.aa (.sk 3 (.aa (.aa (.aa (.sk 17 .nil rfl)))) rfl))),rfl,rfl,?_⟩
      ·omega
      ·exact ⟨⟨by omega,by rw [List.length_append,List.length_append,← hq]; rfl⟩,by rw [ao]; simp,q9 (O:=O++[u.p]) (by rw [List.length_append,← hq]; rfl) (q9 hq hF cu rfl) cw rfl⟩
     ·rw [show decide (z3*z2 < 0)=false from decide_eq_false h9]
      rw [if_neg h9] at ao
      conv=>whnf
      refine ⟨rfl,?_⟩
      conv=>whnf
      rw [e8]
      refine .inr ⟨[0,1,2,3,4,5,6,7,8,35],[0,1,5,6,7],?_⟩
      conv=>whnf
      intro _
      conv=>whnf
      refine ⟨_,?_,j+1,O++[u.p],q+1+1,_,(.aa (.aa (.sk 3 (.aa (.aa (.aa (.sk 17 .nil rfl)))) rfl))),rfl,rfl,?_⟩
      ·omega
      ·exact ⟨⟨by omega,by rw [List.length_append,← hq]; rfl⟩,by rw [ao]; simp,q9 hq hF cu rfl⟩
    ·rw [show decide (z ≥ 0)=false from decide_eq_false h8]
     rw [if_neg h8] at ao
     conv=>whnf
     refine .inl ⟨3,[[],[0],[],[0,1,2],[0,1,2,3],[0,1,2,3,4]],by kernel_rfl,?_⟩
     conv=>whnf
     obtain ⟨z3,u0,u1⟩:=eJ (aY x.q 0)
     refine ⟨x,rfl,RV.b6 sx (by decide),?_⟩
     rw [show iD.val x=.int .i64 z3 from u0]
     conv=>whnf
     obtain ⟨z2,u2,n6⟩:=eJ (aY y.q 0)
     refine ⟨y,rfl,RV.b6 sy (by decide),?_⟩
     rw [show iD.val y=.int .i64 z2 from u2]
     conv=>whnf
     have nj:=sX y.q 0
     rw [← n6] at nj
     obtain rfl:z3=z:=u1.trans pz.symm
     rw [show IntKind.i64.wrap (z3*z2)=z3*z2 from by rcases hz with rfl | rfl | rfl <;> rcases nj with rfl | rfl | rfl <;> rfl]
     rw [← n6] at ao
     by_cases h9:z3*z2 < 0
     ·rw [show decide (z3*z2 < 0)=true from decide_eq_true h9]
      rw [if_pos h9] at ao
      conv=>whnf
      refine .inr (.inr (.inl ⟨9,1,[[],[],[],[1,2],[0,1,2,3],[0,1,2,3,4],[0,1,2,3,4,5],[0,1,2,3,4,5],[],[0,1,2,3,4,5,6,8],[0,1,2,3,4,5,6,7,8,9]],[7],by kernel_rfl,?_⟩))
      conv=>whnf
      obtain ⟨d2,kv,u3,u4,u5⟩:=gN (QB.sub qx qy)
      refine ⟨(x,y),rfl,⟨RV.b6 sx (by decide),RV.b6 sy (by decide)⟩,?_⟩
      rw [show gL.val (x,y)=d2.v from kv]
      conv=>whnf
      obtain ⟨t,et,pt,st,qt⟩:=gN (QB.div qx u5 (by decide))
      obtain ⟨e,ee,pe⟩:=eJ (if d2.q=0 then 10 else 0)
      refine ⟨(x,d2),rfl,⟨RV.b6 sx (by decide),RV.b6 u4 (by decide)⟩,?_⟩
      rw [show pN.val (x,d2)=.tuple ⟨[t.v,.int .i64 e]⟩ from by rw [← et,← ee]; rfl]
      conv=>whnf
      refine .inl ⟨5,[[],[],[],[],[1,2,3],[0,1,2,3,4],[0,1,2,3,4,5]],by kernel_rfl,?_⟩
      conv=>whnf
      obtain ⟨w,ew,pw,sw,qw⟩:=rL (yI qu qv qt)
      refine ⟨((u,v),t),rfl,⟨⟨PV.a8 su (by decide),PV.a8 sv (by decide)⟩,RV.a8 st (by decide)⟩,?_⟩
      rw [show wX.val ((u,v),t)=w.v from ew]
      conv=>whnf
      have cw:=(PV.nJ ew).symm
      rw [← pw] at cw
      rw [show (cB (atR u.p v.p (x.q / (x.q - y.q)))).p=w.p from by rw [ig,pw,pt,u3]] at ao
      refine ⟨rfl,?_⟩
      conv=>whnf
      refine ⟨rfl,?_⟩
      conv=>whnf
      refine ⟨rfl,?_⟩
      conv=>whnf
      refine ⟨⟨rfl,by show (q+1+1)*80≤140737488355328; omega⟩,?_⟩
      conv=>whnf
      refine ⟨rfl,?_⟩
      conv=>whnf
      refine ⟨rfl,?_⟩
      conv=>whnf
      rw [e8]
      refine .inr ⟨[0,1,2,3,4,5,6,7,8,52],[0,1,5,6,7],?_⟩
      conv=>whnf
      intro _
      conv=>whnf
      refine ⟨_,?_,j+1,O++[w.p],q+1+1,_,(.aa (.aa (.sk 3 (.aa (.aa (.aa (.sk 17 .nil rfl)))) rfl))),rfl,rfl,?_⟩
      ·omega
      ·exact ⟨⟨by omega,by rw [List.length_append,← hq]; rfl⟩,by rw [ao]; simp,q9 hq hF cw rfl⟩
     ·rw [show decide (z3*z2 < 0)=false from decide_eq_false h9]
      rw [if_neg h9] at ao
      conv=>whnf
      refine ⟨rfl,?_⟩
      conv=>whnf
      rw [e8]
      refine .inr ⟨[0,1,2,3,4,5,6,7,8,9],[0,1,5,6,7],?_⟩
      conv=>whnf
      intro _
      conv=>whnf
      refine ⟨_,?_,j+1,O,q+1,F,(.aa (.aa (.sk 3 (.aa (.aa (.aa (.sk 17 .nil rfl)))) rfl))),rfl,rfl,?_⟩
      ·omega
      ·exact ⟨⟨by omega,hq⟩,by rw [ao]; simp,hF⟩
   ·have h7:j=n:=by
     have:=of_decide_eq_false h7
     omega
    subst h7
    have y5:fo (eV a.p b.p) L=O:=by rw [hO,hn]; exact (Mb _ L).symm
    conv=>whnf
    rw [hK]
    unfold gQ
    rw [show iA.new (some (L,c),(a,b))=some (.flat true (q+1) 6 (cc O)) from by show c8 (fo (eV a.p b.p) L)=_; rw [y5]; unfold c8; rw [← hq],show iA.val (some (L,c),(a,b))=.slice (some ⟨4,0,none⟩) (q+1) aN from by show eU _ (fo (eV a.p b.p) L).length=_; rw [y5,← hq]; rfl]
    refine ⟨9,?_⟩
    conv=>whnf
    exact ⟨⟨rfl,aA.qV (fun h=>h) hF (fun r hr=>rfl)⟩,_,rfl,.refl _⟩
end Go.Proofs.YtlapbjdhekcipaaGreat
/- Contracts of convex: halves. -/
set_option maxRecDepth 20000
set_option maxHeartbeats 4000000
namespace Go.Proofs.YtlapbjdhekcipaaGreat
open Go Go.Ae
theorem Yb:gl Tryz.prog 60 (cI nk cV Tryz.f60):=by
 exact jn Cb aO Tryz.func60 (enters_of Tryz.func60 (by kernel_rfl) rfl)
theorem Sw:gl Tryz.prog 57 (cI nk cV Tryz.f57):=by
 exact jn Cb aO Tryz.func57 (enters_of Tryz.func57 (by kernel_rfl) rfl)
end Go.Proofs.YtlapbjdhekcipaaGreat
/- Contracts of convex: what two rings have in common. -/
set_option maxRecDepth 20000
set_option maxHeartbeats 4000000
namespace Go.Proofs.YtlapbjdhekcipaaGreat
open Go Go.Ae
def P1:Env:=En [(23,.q aU),(58,.q fx),(59,.r iA)] [(60,cI nk cV Tryz.f60),(57,cI nk cV Tryz.f57),(64,cI nk cV Tryz.f64)] [(118,wb)]
theorem abG:EnvOk Tryz.prog P1:=bL ⟨Fk,X8,aam,trivial⟩ ⟨Yb,Sw,xZ,trivial⟩
theorem aan:ie Tryz.prog P1:=xo ⟨xN,trivial⟩
theorem Vm:cZ Tryz.prog 16 jl:=by
 refine dt abG aO Tryz.func16 (enters_of Tryz.func16 (by kernel_rfl) rfl) ?_ ?_ ?_ (hI:=aan)
 ·intro ⟨i,k⟩ B hb
  cases i <;> cases k <;> simp [jl,PL.ae] at hb
  ·rw [hb]; rfl
  ·rw [hb]; rfl
  ·rcases hb with rfl | rfl <;> rfl
 ·intro i B hb
  exact A4 hb
 intro ⟨i,k⟩ hp
 have hp:((i.list.length≤1099511627776∧∀ v∈i.list,v.sz 2048)∧k.list.length≤1099511627776∧∀ v∈k.list,v.sz 2048)∧Cw i.list k.list:=hp
 obtain ⟨⟨⟨cW,cC⟩,dh,cA⟩,bg⟩:=hp
 cases i with
 | none =>
  cases k with
  | none =>
   conv=>whnf
   refine ⟨none,[],rfl,⟨Nat.zero_le _,fun v hv=>nomatch hv⟩,?_⟩
   rw [show aU.ae none=[] from rfl,show aU.val none=.int .i64 4 from rfl,show aU.new none=none from rfl]
   conv=>whnf
   refine ⟨_,rfl,?_⟩
   conv=>whnf
   exact ⟨_,rfl,.refl _⟩
  | some k =>
   conv=>whnf
   refine ⟨none,[],rfl,⟨Nat.zero_le _,fun v hv=>nomatch hv⟩,?_⟩
   rw [show aU.ae none=[] from rfl,show aU.val none=.int .i64 4 from rfl,show aU.new none=none from rfl]
   conv=>whnf
   refine ⟨_,rfl,?_⟩
   conv=>whnf
   exact ⟨_,rfl,.refl _⟩
 | some i =>
  obtain ⟨A,c⟩:=i
  have cW:A.length≤1099511627776:=cW
  have cC:∀ v∈A,PV.sz 2048 v:=cC
  obtain ⟨na,aV⟩:∃ n,n=A.length:=⟨_,rfl⟩
  obtain ⟨ga,bo⟩:∃ g,g=bS A:=⟨_,rfl⟩
  cases k with
  | none =>
   obtain ⟨K,hK⟩:∃ K,K=gQ jl (some (A,c),none):=⟨_,rfl⟩
   have fin:∀ H:ax,K (.tuple ⟨[.slice none 0 0,.int .i64 1]⟩) H:=fun H=>by
    have h:g7 A []=([],1):=GQ fun e=>by have:=e.2; cases this
    rw [hK]
    unfold gQ
    rw [show jl.new (some (A,c),none)=none from by show c8 (g7 A []).1=none; rw [h]; rfl,show jl.val (some (A,c),none)=.tuple ⟨[.slice none 0 0,.int .i64 1]⟩ from by show Value.tuple ⟨[eU _ (g7 A []).1.length,.int .i64 (g7 A []).2]⟩=_; rw [h]; rfl]
    exact ⟨_,rfl,.refl _⟩
   rw [show jl.ae (some (A,c),none)=[.flat false na 6 ga] from by rw [aV,bo]; rfl,show jl.args (some (A,c),none)=[.slice (some ⟨0,0,none⟩) na c,.slice none 0 0] from by rw [aV]; rfl,← hK]
   rw [← aV] at cW
   conv=>whnf
   refine ⟨some (A,c),[0],by rw [show aU.args (some (A,c))=[.slice (some ⟨0,0,none⟩) na c] from by rw [aV]; rfl]; rfl,⟨by show A.length≤_; omega,cC⟩,?_⟩
   rw [show aU.ae (some (A,c))=[.flat false na 6 ga] from by rw [aV,bo]; rfl,show aU.val (some (A,c))=.int .i64 (aW A) from rfl,show aU.new (some (A,c))=none from rfl]
   conv=>whnf
   refine ⟨aA.aM (fun h=>h) (fun r hr=>by rw [bo]; rfl),?_⟩
   conv=>whnf
   refine ⟨_,rfl,?_⟩
   obtain ⟨e,he⟩:∃ z,z=aW A:=⟨_,rfl⟩
   rw [← he]
   conv=>whnf
   by_cases h1:e=0
   ·rw [show (e != 0)=false from by simp [h1]]
    conv=>whnf
    refine ⟨none,[],rfl,⟨Nat.zero_le _,fun v hv=>nomatch hv⟩,?_⟩
    rw [show aU.ae none=[] from rfl,show aU.val none=.int .i64 4 from rfl,show aU.new none=none from rfl]
    conv=>whnf
    refine ⟨_,rfl,?_⟩
    conv=>whnf
    exact fin _
   ·rw [show (e != 0)=true from by simp [h1]]
    conv=>whnf
    exact fin _
  | some k =>
   obtain ⟨B,d⟩:=k
   have dh:B.length≤1099511627776:=dh
   have cA:∀ v∈B,PV.sz 2048 v:=cA
   have bg:Cw A B:=bg
   obtain ⟨nb,aZ⟩:∃ n,n=B.length:=⟨_,rfl⟩
   obtain ⟨gb,bA⟩:∃ g,g=bS B:=⟨_,rfl⟩
   obtain ⟨K,hK⟩:∃ K,K=gQ jl (some (A,c),some (B,d)):=⟨_,rfl⟩
   have sf:∀ (e:Int) (H:ax),g7 A B=([],e)→K (.tuple ⟨[.slice none 0 0,.int .i64 e]⟩) H:=fun e H h=>by
    rw [hK]
    unfold gQ
    rw [show jl.new (some (A,c),some (B,d))=none from by show c8 (g7 A B).1=none; rw [h]; rfl,show jl.val (some (A,c),some (B,d))=.tuple ⟨[.slice none 0 0,.int .i64 e]⟩ from by show Value.tuple ⟨[eU _ (g7 A B).1.length,.int .i64 (g7 A B).2]⟩=_; rw [h]; rfl]
    exact ⟨_,rfl,.refl _⟩
   rw [show jl.ae (some (A,c),some (B,d))=[.flat false na 6 ga,.flat false nb 6 gb] from by rw [aV,bo,aZ,bA]; rfl,show jl.args (some (A,c),some (B,d))=[.slice (some ⟨0,0,none⟩) na c,.slice (some ⟨1,0,none⟩) nb d] from by rw [aV,aZ]; rfl,← hK]
   rw [← aV] at cW
   rw [← aZ] at dh
   conv=>whnf
   refine ⟨some (A,c),[0],by rw [show aU.args (some (A,c))=[.slice (some ⟨0,0,none⟩) na c] from by rw [aV]; rfl]; rfl,⟨by show A.length≤_; omega,cC⟩,?_⟩
   rw [show aU.ae (some (A,c))=[.flat false na 6 ga] from by rw [aV,bo]; rfl,show aU.val (some (A,c))=.int .i64 (aW A) from rfl,show aU.new (some (A,c))=none from rfl]
   conv=>whnf
   refine ⟨aA.aM (fun h=>h) (fun r hr=>by rw [bo]; rfl),?_⟩
   conv=>whnf
   refine ⟨_,rfl,?_⟩
   obtain ⟨e,he⟩:∃ z,z=aW A:=⟨_,rfl⟩
   rw [← he]
   conv=>whnf
   by_cases h1:e=0
   ·rw [show (e != 0)=false from by simp [h1]]
    conv=>whnf
    refine ⟨some (B,d),[1],by rw [show aU.args (some (B,d))=[.slice (some ⟨0,0,none⟩) nb d] from by rw [aZ]; rfl]; rfl,⟨by show B.length≤_; omega,cA⟩,?_⟩
    rw [show aU.ae (some (B,d))=[.flat false nb 6 gb] from by rw [aZ,bA]; rfl,show aU.val (some (B,d))=.int .i64 (aW B) from rfl,show aU.new (some (B,d))=none from rfl]
    conv=>whnf
    refine ⟨aA.aM (fun h=>h) (fun r hr=>by rw [bA]; rfl),?_⟩
    conv=>whnf
    refine ⟨_,rfl,?_⟩
    obtain ⟨e2,bX⟩:∃ z,z=aW B:=⟨_,rfl⟩
    rw [← bX]
    conv=>whnf
    by_cases J:e2=0
    ·rw [show (e2 != 0)=false from by simp [J]]
     have zW:aW A=0:=by rw [← he]; exact h1
     have Da:aW B=0:=by rw [← bX]; exact J
     have bg:=bg zW Da
     have xt:=jd zW
     have xu:=jd Da
     have IZ:ga=cc (ay A):=by rw [tg zW,bo]
     have hnA:na=(ay A).length:=by rw [b8,aV]
     conv=>whnf
     intro yl nu fn tm df
     conv=>whnf
     refine .inl ⟨fun mm tz hz=>∃ (j:Nat) (p:Nat) (F:Nat→List Value),bE (some (.func (.yield yl) #[] #[])::some (.pointer (some ⟨3,0,none⟩))::aD 3 (some (.slice (some ⟨1,0,none⟩) nb d)::some (.int .i64 nb)::some (.int .i64 j)::aD 17 [])) tz∧hz=[some (.flat false na 6 ga),some (.flat false nb 6 gb),some (.aQ true 1 [[acH (.slice (some ⟨0,0,none⟩) na c) p j]]),some (.aQ true 1 [[.slice (some ⟨1,0,none⟩) nb d]]),some (.cm (rW Tryz.f16 fn tm df))]++acI F p j∧nb - j=mm∧((j≤nb∧(0 < j→p=(jk (ay A) (ay B) j).length))∧(0 < j→∀ r,r < p→F r=cc (jk (ay A) (ay B) j) r)),.inr ⟨[0,1,2,3,4],[0,1,5,6,7],?_⟩,?_⟩
     ·conv=>whnf
      intro _
      conv=>whnf
      refine ⟨_,0,0,fun _=>[],(.aa (.aa (.sk 3 (.aa (.aa (.aa (.sk 17 .nil rfl)))) rfl))),rfl,rfl,?_⟩
      exact ⟨⟨Nat.zero_le _,fun h=>absurd h (Nat.lt_irrefl 0)⟩,fun h=>absurd h (Nat.lt_irrefl 0)⟩
     rintro mm aT _ ⟨j,p,F,ar,rfl,rfl,⟨⟨hj,uT⟩,hF⟩⟩
     obtain ⟨az,rfl⟩:∃ az:Nat→Value,aT=.func (.yield yl) #[] #[]::.pointer (some ⟨3,0,none⟩)::zs az 2 3 (.slice (some ⟨1,0,none⟩) nb d::.int .i64 nb::.int .i64 j::zs az 8 17 []):=bK ar
     clear ar
     cases j with
     | zero =>
      conv=>whnf
      refine aL (fun h3=>?_) (fun h3=>?_)
      ·have h3:0 < nb:=by
        have:=of_decide_eq_true h3
        omega
       have e7:IntKind.i64.wrap (((0:Nat):Int)+1)=((0+1:Nat):Int):=by rw [au (by omega) (by omega)]; rfl
       obtain ⟨a,b,ra,rb,⟨ma,mb⟩,e9,cl,_,_⟩:=nm aZ h3
       have sa:=cA a ma
       have sb:=cA b mb
       have cD:=jO h3 (by omega)
       obtain ⟨u,hu⟩:∃ u,u=bd nb (0):=⟨_,rfl⟩
       rw [← hu] at cD cl rb
       rw [← bA] at ra rb
       obtain ⟨u6,u7⟩:=bg (0) (by rw [b8]; omega)
       have hf:=Fc (a:=a.p) (b:=b.p) u6 u7 (PV.dp sa (by decide)) (PV.dp sb (by decide))
       obtain ⟨C,hC⟩:∃ C,C=fo (eV a.p b.p) (jk (ay A) (ay B) (0)):=⟨_,rfl⟩
       obtain ⟨R,hR⟩:∃ R,R=fR C:=⟨_,rfl⟩
       have nD:=DV e9 hC hR
       obtain ⟨m,hm⟩:∃ m,m=C.length:=⟨_,rfl⟩
       obtain ⟨q,hq⟩:∃ m,m=R.length:=⟨_,rfl⟩
       conv=>whnf
       refine ⟨⟨by omega,by omega⟩,?_⟩
       simp only [toNat_cast,aq,Nat.zero_add]
       conv=>whnf
       refine ⟨by show 0 < nb; omega,?_⟩
       conv=>whnf
       rw [ra]
       conv=>whnf
       refine .inl ⟨10,[[],[],[],[],[3],[],[5],[3,4,5,6],[2,3,4,5,6,7],[2,3,4,5,6,7,8],[0,1,2,3,4,5,6,7,8,9],[0,1,2,3,4,5,6,7,8,9,10]],by kernel_rfl,?_⟩
       conv=>whnf
       rw [show decide ((nb:Int)≠0)=true from decide_eq_true (by omega)]
       conv=>whnf
       rw [cD]
       refine ⟨⟨by omega,by omega⟩,?_⟩
       simp only [toNat_cast,aq,Nat.zero_add]
       conv=>whnf
       refine ⟨by show u < nb; omega,?_⟩
       conv=>whnf
       rw [rb]
       conv=>whnf
       refine ⟨rfl,?_⟩
       conv=>whnf
       refine ⟨rfl,?_⟩
       conv=>whnf
       refine ⟨rfl,?_⟩
       conv=>whnf
       refine ⟨(some (ay A,c),(a,b)),[0,18,19,20],rfl,⟨u6,u7,sa,sb⟩,?_⟩
       rw [show iA.ae (some (ay A,c),(a,b))=[.flat false na 6 ga,.aQ false 1 [[.slice (some ⟨0,0,none⟩) na c]],.aQ false 6 [a.cells],.aQ false 6 [b.cells]] from by rw [hnA,IZ]; rfl,show iA.val (some (ay A,c),(a,b))=eU 4 m from by rw [hm,hC]; rfl]
       rw [show iA.new (some (ay A,c),(a,b))=c8 C from by rw [hC]; rfl]
       cases m with
       | zero =>
        obtain rfl:C=[]:=List.eq_nil_of_length_eq_zero hm.symm
        conv=>whnf
        refine ⟨.inl (aA.aM (fun h=>h) (fun r hr=>by rw [IZ]; rfl)),?_⟩
        conv=>whnf
        refine ⟨.inr ⟨_,_,_,_,rfl,rfl,rfl⟩,?_⟩
        conv=>whnf
        refine ⟨.inr ⟨_,_,_,_,rfl,rfl,rfl⟩,?_⟩
        conv=>whnf
        refine ⟨.inr ⟨_,_,_,_,rfl,rfl,rfl⟩,?_⟩
        conv=>whnf
        refine ⟨_,rfl,?_⟩
        conv=>whnf
        refine ⟨none,[],rfl,⟨Nat.zero_le _,fun v hv=>nomatch hv⟩,?_⟩
        rw [show fx.ae none=[] from rfl,show fx.val none=.slice none 0 0 from rfl,show fx.new none=none from rfl]
        conv=>whnf
        refine ⟨_,rfl,?_⟩
        conv=>whnf
        rw [show fR []=[] from rfl] at hR
        subst hR
        refine ⟨rfl,?_⟩
        conv=>whnf
        rw [e7]
        refine .inr ⟨[0,1,2,3,4],[0,1,5,6,7],?_⟩
        conv=>whnf
        intro _
        conv=>whnf
        refine ⟨_,?_,0+1,0,fun _=>[],(.aa (.aa (.sk 3 (.aa (.aa (.aa (.sk 17 .nil rfl)))) rfl))),rfl,rfl,?_⟩
        ·omega
        ·exact ⟨⟨by omega,fun _=>congrArg List.length nD⟩,fun _ r hr=>absurd hr (Nat.not_lt_zero r)⟩
       | succ m =>
        rw [show c8 C=some (.flat true (m+1) 6 (cc C)) from by unfold c8; rw [← hm]]
        conv=>whnf
        refine ⟨.inl (aA.aM (fun h=>h) (fun r hr=>by rw [IZ]; rfl)),?_⟩
        conv=>whnf
        refine ⟨.inr ⟨_,_,_,_,rfl,rfl,rfl⟩,?_⟩
        conv=>whnf
        refine ⟨.inr ⟨_,_,_,_,rfl,rfl,rfl⟩,?_⟩
        conv=>whnf
        refine ⟨.inr ⟨_,_,_,_,rfl,rfl,rfl⟩,?_⟩
        conv=>whnf
        refine ⟨_,rfl,?_⟩
        conv=>whnf
        refine ⟨some (C,aN),[21],by rw [show fx.args (some (C,aN))=[.slice (some ⟨0,0,none⟩) (m+1) aN] from by rw [hm]; rfl]; rfl,⟨by rw [hC]; exact hf.1,fun v hv=>hf.2 v (by rw [← hC]; exact hv)⟩,?_⟩
        obtain ⟨G,hG⟩:∃ G,G=cc C:=⟨_,rfl⟩
        rw [← hG,show fx.ae (some (C,aN))=[.flat false (m+1) 6 G] from by rw [hm,hG]; rfl,show fx.val (some (C,aN))=eU 1 q from by rw [hq,hR]; rfl,show fx.new (some (C,aN))=c8 R from by rw [hR]; rfl]
        cases q with
        | zero =>
         obtain rfl:R=[]:=List.eq_nil_of_length_eq_zero hq.symm
         conv=>whnf
         refine ⟨aA.aM (fun h=>by cases h) (fun r hr=>by rw [hG]; rfl),?_⟩
         conv=>whnf
         refine ⟨_,rfl,?_⟩
         conv=>whnf
         refine ⟨rfl,?_⟩
         conv=>whnf
         rw [e7]
         refine .inr ⟨[0,1,2,3,4],[0,1,5,6,7],?_⟩
         conv=>whnf
         intro _
         conv=>whnf
         refine ⟨_,?_,0+1,0,fun _=>[],(.aa (.aa (.sk 3 (.aa (.aa (.aa (.sk 17 .nil rfl)))) rfl))),rfl,rfl,?_⟩
         ·omega
         ·exact ⟨⟨by omega,fun _=>congrArg List.length nD⟩,fun _ r hr=>absurd hr (Nat.not_lt_zero r)⟩
        | succ q =>
         obtain ⟨E,hE⟩:∃ G,G=cc R:=⟨_,rfl⟩
         rw [show c8 R=some (.flat true (q+1) 6 E) from by unfold c8; rw [← hq,hE]]
         conv=>whnf
         refine ⟨aA.aM (fun h=>by cases h) (fun r hr=>by rw [hG]; rfl),?_⟩
         conv=>whnf
         refine ⟨_,rfl,?_⟩
         conv=>whnf
         refine ⟨rfl,?_⟩
         conv=>whnf
         rw [e7]
         refine .inr ⟨[0,1,2,3,4,22],[0,1,5,6,7],?_⟩
         conv=>whnf
         intro _
         conv=>whnf
         refine ⟨_,?_,0+1,q+1,E,(.aa (.aa (.sk 3 (.aa (.aa (.aa (.sk 17 .nil rfl)))) rfl))),rfl,rfl,?_⟩
         ·omega
         ·exact ⟨⟨by omega,fun _=>hq.trans (congrArg List.length nD)⟩,fun _ r hr=>by rw [hE,nD]⟩
      ·have:=of_decide_eq_false h3
       omega
     | succ j =>
      have nf:=uT (Nat.succ_pos j)
      have Db:=hF (Nat.succ_pos j)
      obtain ⟨S,hS⟩:∃ S,S=jk (ay A) (ay B) (j+1):=⟨_,rfl⟩
      rw [← hS] at nf Db
      cases p with
      | zero =>
       obtain rfl:S=[]:=List.eq_nil_of_length_eq_zero nf.symm
       conv=>whnf
       refine aL (fun h3=>?_) (fun h3=>?_)
       ·have h3:(j+1) < nb:=by
         have:=of_decide_eq_true h3
         omega
        have e7:IntKind.i64.wrap ((((j+1):Nat):Int)+1)=(((j+1)+1:Nat):Int):=by rw [au (by omega) (by omega)]; rfl
        obtain ⟨a,b,ra,rb,⟨ma,mb⟩,e9,cl,_,_⟩:=nm aZ h3
        have sa:=cA a ma
        have sb:=cA b mb
        have cD:=jO h3 (by omega)
        obtain ⟨u,hu⟩:∃ u,u=bd nb ((j+1)):=⟨_,rfl⟩
        rw [← hu] at cD cl rb
        rw [← bA] at ra rb
        obtain ⟨u6,u7⟩:=bg ((j+1)) (by rw [b8]; omega)
        have hf:=Fc (a:=a.p) (b:=b.p) u6 u7 (PV.dp sa (by decide)) (PV.dp sb (by decide))
        obtain ⟨C,hC⟩:∃ C,C=fo (eV a.p b.p) (jk (ay A) (ay B) ((j+1))):=⟨_,rfl⟩
        obtain ⟨R,hR⟩:∃ R,R=fR C:=⟨_,rfl⟩
        have nD:=DV e9 hC hR
        obtain ⟨m,hm⟩:∃ m,m=C.length:=⟨_,rfl⟩
        obtain ⟨q,hq⟩:∃ m,m=R.length:=⟨_,rfl⟩
        conv=>whnf
        refine ⟨⟨by omega,by omega⟩,?_⟩
        simp only [toNat_cast,aq,Nat.zero_add]
        conv=>whnf
        refine ⟨by show (j+1) < nb; omega,?_⟩
        conv=>whnf
        rw [ra]
        conv=>whnf
        refine .inl ⟨10,[[],[],[],[],[3],[],[5],[3,4,5,6],[2,3,4,5,6,7],[2,3,4,5,6,7,8],[0,1,2,3,4,5,6,7,8,9],[0,1,2,3,4,5,6,7,8,9,10]],by kernel_rfl,?_⟩
        conv=>whnf
        rw [show decide ((nb:Int)≠0)=true from decide_eq_true (by omega)]
        conv=>whnf
        rw [cD]
        refine ⟨⟨by omega,by omega⟩,?_⟩
        simp only [toNat_cast,aq,Nat.zero_add]
        conv=>whnf
        refine ⟨by show u < nb; omega,?_⟩
        conv=>whnf
        rw [rb]
        conv=>whnf
        refine ⟨rfl,?_⟩
        conv=>whnf
        refine ⟨rfl,?_⟩
        conv=>whnf
        refine ⟨rfl,?_⟩
        conv=>whnf
        refine ⟨(none,(a,b)),[18,19,20],rfl,⟨Nat.zero_le _,(fun v hv=>nomatch hv),sa,sb⟩,?_⟩
        rw [show iA.ae (none,(a,b))=[.aQ false 1 [[.slice none 0 0]],.aQ false 6 [a.cells],.aQ false 6 [b.cells]] from rfl,show iA.val (none,(a,b))=.slice none 0 0 from rfl,show iA.new (none,(a,b))=none from rfl]
        conv=>whnf
        refine ⟨.inr ⟨_,_,_,_,rfl,rfl,rfl⟩,?_⟩
        conv=>whnf
        refine ⟨.inr ⟨_,_,_,_,rfl,rfl,rfl⟩,?_⟩
        conv=>whnf
        refine ⟨.inr ⟨_,_,_,_,rfl,rfl,rfl⟩,?_⟩
        conv=>whnf
        refine ⟨_,rfl,?_⟩
        conv=>whnf
        refine ⟨none,[],rfl,⟨Nat.zero_le _,fun v hv=>nomatch hv⟩,?_⟩
        rw [show fx.ae none=[] from rfl,show fx.val none=.slice none 0 0 from rfl,show fx.new none=none from rfl]
        conv=>whnf
        refine ⟨_,rfl,?_⟩
        conv=>whnf
        obtain rfl:C=[]:=by rw [hC,← hS]; rfl
        rw [show fR []=[] from rfl] at hR
        subst hR
        refine ⟨rfl,?_⟩
        conv=>whnf
        rw [e7]
        refine .inr ⟨[0,1,2,3,4],[0,1,5,6,7],?_⟩
        conv=>whnf
        intro _
        conv=>whnf
        refine ⟨_,?_,(j+1)+1,0,fun _=>[],(.aa (.aa (.sk 3 (.aa (.aa (.aa (.sk 17 .nil rfl)))) rfl))),rfl,rfl,?_⟩
        ·omega
        ·exact ⟨⟨by omega,fun _=>congrArg List.length nD⟩,fun _ r hr=>absurd hr (Nat.not_lt_zero r)⟩
       ·have h3:j+1=nb:=by
         have:=of_decide_eq_false h3
         omega
        conv=>whnf
        exact sf 11 _ ((Nx ⟨zW,Da⟩ (R:=[]) (by rw [← aZ,← h3]; exact hS)).trans (Wa rfl))
      | succ p =>
       conv=>whnf
       refine aL (fun h3=>?_) (fun h3=>?_)
       ·have h3:(j+1) < nb:=by
         have:=of_decide_eq_true h3
         omega
        have e7:IntKind.i64.wrap ((((j+1):Nat):Int)+1)=(((j+1)+1:Nat):Int):=by rw [au (by omega) (by omega)]; rfl
        obtain ⟨a,b,ra,rb,⟨ma,mb⟩,e9,cl,_,_⟩:=nm aZ h3
        have sa:=cA a ma
        have sb:=cA b mb
        have cD:=jO h3 (by omega)
        obtain ⟨u,hu⟩:∃ u,u=bd nb ((j+1)):=⟨_,rfl⟩
        rw [← hu] at cD cl rb
        rw [← bA] at ra rb
        obtain ⟨u6,u7⟩:=bg ((j+1)) (by rw [b8]; omega)
        have hf:=Fc (a:=a.p) (b:=b.p) u6 u7 (PV.dp sa (by decide)) (PV.dp sb (by decide))
        obtain ⟨C,hC⟩:∃ C,C=fo (eV a.p b.p) (jk (ay A) (ay B) ((j+1))):=⟨_,rfl⟩
        obtain ⟨R,hR⟩:∃ R,R=fR C:=⟨_,rfl⟩
        have nD:=DV e9 hC hR
        obtain ⟨m,hm⟩:∃ m,m=C.length:=⟨_,rfl⟩
        obtain ⟨q,hq⟩:∃ m,m=R.length:=⟨_,rfl⟩
        conv=>whnf
        refine ⟨⟨by omega,by omega⟩,?_⟩
        simp only [toNat_cast,aq,Nat.zero_add]
        conv=>whnf
        refine ⟨by show (j+1) < nb; omega,?_⟩
        conv=>whnf
        rw [ra]
        conv=>whnf
        refine .inl ⟨10,[[],[],[],[],[3],[],[5],[3,4,5,6],[2,3,4,5,6,7],[2,3,4,5,6,7,8],[0,1,2,3,4,5,6,7,8,9],[0,1,2,3,4,5,6,7,8,9,10]],by kernel_rfl,?_⟩
        conv=>whnf
        rw [show decide ((nb:Int)≠0)=true from decide_eq_true (by omega)]
        conv=>whnf
        rw [cD]
        refine ⟨⟨by omega,by omega⟩,?_⟩
        simp only [toNat_cast,aq,Nat.zero_add]
        conv=>whnf
        refine ⟨by show u < nb; omega,?_⟩
        conv=>whnf
        rw [rb]
        conv=>whnf
        refine ⟨rfl,?_⟩
        conv=>whnf
        refine ⟨rfl,?_⟩
        conv=>whnf
        refine ⟨rfl,?_⟩
        conv=>whnf
        refine ⟨(some (S,aN),(a,b)),[5,19,20,21],by rw [show iA.args (some (S,aN),(a,b))=[.func (.func 114) #[] #[.pointer (some ⟨1,0,none⟩),.pointer (some ⟨2,0,none⟩),.pointer (some ⟨3,0,none⟩)]] from rfl]; rfl,⟨by rw [hS]; exact u6,by rw [hS]; exact u7,sa,sb⟩,?_⟩
        rw [show iA.ae (some (S,aN),(a,b))=[.flat false (p+1) 6 (cc S),.aQ false 1 [[.slice (some ⟨0,0,none⟩) (p+1) aN]],.aQ false 6 [a.cells],.aQ false 6 [b.cells]] from by rw [nf]; rfl,show iA.val (some (S,aN),(a,b))=eU 4 m from by rw [hm,hC,← hS]; rfl]
        rw [show iA.new (some (S,aN),(a,b))=c8 C from by rw [hC,← hS]; rfl]
        cases m with
        | zero =>
         obtain rfl:C=[]:=List.eq_nil_of_length_eq_zero hm.symm
         conv=>whnf
         refine ⟨.inl (aA.qV (fun h=>by cases h) Db (fun r hr=>rfl)),?_⟩
         conv=>whnf
         refine ⟨.inr ⟨_,_,_,_,rfl,rfl,rfl⟩,?_⟩
         conv=>whnf
         refine ⟨.inr ⟨_,_,_,_,rfl,rfl,rfl⟩,?_⟩
         conv=>whnf
         refine ⟨.inr ⟨_,_,_,_,rfl,rfl,rfl⟩,?_⟩
         conv=>whnf
         refine ⟨_,rfl,?_⟩
         conv=>whnf
         refine ⟨none,[],rfl,⟨Nat.zero_le _,fun v hv=>nomatch hv⟩,?_⟩
         rw [show fx.ae none=[] from rfl,show fx.val none=.slice none 0 0 from rfl,show fx.new none=none from rfl]
         conv=>whnf
         refine ⟨_,rfl,?_⟩
         conv=>whnf
         rw [show fR []=[] from rfl] at hR
         subst hR
         refine ⟨rfl,?_⟩
         conv=>whnf
         rw [e7]
         refine .inr ⟨[0,1,2,3,4],[0,1,5,6,7],?_⟩
         conv=>whnf
         intro _
         conv=>whnf
         refine ⟨_,?_,(j+1)+1,0,fun _=>[],(.aa (.aa (.sk 3 (.aa (.aa (.aa (.sk 17 .nil rfl)))) rfl))),rfl,rfl,?_⟩
         ·omega
         ·exact ⟨⟨by omega,fun _=>congrArg List.length nD⟩,fun _ r hr=>absurd hr (Nat.not_lt_zero r)⟩
        | succ m =>
         rw [show c8 C=some (.flat true (m+1) 6 (cc C)) from by unfold c8; rw [← hm]]
         conv=>whnf
         refine ⟨.inl (aA.qV (fun h=>by cases h) Db (fun r hr=>rfl)),?_⟩
         conv=>whnf
         refine ⟨.inr ⟨_,_,_,_,rfl,rfl,rfl⟩,?_⟩
         conv=>whnf
         refine ⟨.inr ⟨_,_,_,_,rfl,rfl,rfl⟩,?_⟩
         conv=>whnf
         refine ⟨.inr ⟨_,_,_,_,rfl,rfl,rfl⟩,?_⟩
         conv=>whnf
         refine ⟨_,rfl,?_⟩
         conv=>whnf
         refine ⟨some (C,aN),[22],by rw [show fx.args (some (C,aN))=[.slice (some ⟨0,0,none⟩) (m+1) aN] from by rw [hm]; rfl]; rfl,⟨by rw [hC]; exact hf.1,fun v hv=>hf.2 v (by rw [← hC]; exact hv)⟩,?_⟩
         obtain ⟨G,hG⟩:∃ G,G=cc C:=⟨_,rfl⟩
         rw [← hG,show fx.ae (some (C,aN))=[.flat false (m+1) 6 G] from by rw [hm,hG]; rfl,show fx.val (some (C,aN))=eU 1 q from by rw [hq,hR]; rfl,show fx.new (some (C,aN))=c8 R from by rw [hR]; rfl]
         cases q with
         | zero =>
          obtain rfl:R=[]:=List.eq_nil_of_length_eq_zero hq.symm
          conv=>whnf
          refine ⟨aA.aM (fun h=>by cases h) (fun r hr=>by rw [hG]; rfl),?_⟩
          conv=>whnf
          refine ⟨_,rfl,?_⟩
          conv=>whnf
          refine ⟨rfl,?_⟩
          conv=>whnf
          rw [e7]
          refine .inr ⟨[0,1,2,3,4],[0,1,5,6,7],?_⟩
          conv=>whnf
          intro _
          conv=>whnf
          refine ⟨_,?_,(j+1)+1,0,fun _=>[],(.aa (.aa (.sk 3 (.aa (.aa (.aa (.sk 17 .nil rfl)))) rfl))),rfl,rfl,?_⟩
          ·omega
          ·exact ⟨⟨by omega,fun _=>congrArg List.length nD⟩,fun _ r hr=>absurd hr (Nat.not_lt_zero r)⟩
         | succ q =>
          obtain ⟨E,hE⟩:∃ G,G=cc R:=⟨_,rfl⟩
          rw [show c8 R=some (.flat true (q+1) 6 E) from by unfold c8; rw [← hq,hE]]
          conv=>whnf
          refine ⟨aA.aM (fun h=>by cases h) (fun r hr=>by rw [hG]; rfl),?_⟩
          conv=>whnf
          refine ⟨_,rfl,?_⟩
          conv=>whnf
          refine ⟨rfl,?_⟩
          conv=>whnf
          rw [e7]
          refine .inr ⟨[0,1,2,3,4,23],[0,1,5,6,7],?_⟩
          conv=>whnf
          intro _
          conv=>whnf
          refine ⟨_,?_,(j+1)+1,q+1,E,(.aa (.aa (.sk 3 (.aa (.aa (.aa (.sk 17 .nil rfl)))) rfl))),rfl,rfl,?_⟩
          ·omega
          ·exact ⟨⟨by omega,fun _=>hq.trans (congrArg List.length nD)⟩,fun _ r hr=>by rw [hE,nD]⟩
       ·have h3:j+1=nb:=by
         have:=of_decide_eq_false h3
         omega
        have hv:=Nx ⟨zW,Da⟩ (R:=S) (by rw [← aZ,← h3]; exact hS)
        conv=>whnf
        by_cases h6:64 < p+1
        ·rw [show decide (((p+1:Nat):Int) > 64)=true from decide_eq_true (by omega)]
         conv=>whnf
         exact sf 4 _ (hv.trans (Wb (by omega)))
        ·rw [show decide (((p+1:Nat):Int) > 64)=false from decide_eq_false (by omega)]
         conv=>whnf
         rw [hK]
         unfold gQ
         rw [Nw (by omega) (by omega)] at hv
         rw [show jl.new (some (A,c),some (B,d))=some (.flat true (p+1) 6 (cc S)) from by show c8 (g7 A B).1=_; rw [hv]; unfold c8; rw [← nf],show jl.val (some (A,c),some (B,d))=.tuple ⟨[.slice (some ⟨2,0,none⟩) (p+1) aN,.int .i64 0]⟩ from by show Value.tuple ⟨[eU _ (g7 A B).1.length,.int .i64 (g7 A B).2]⟩=_; rw [hv,← nf]; rfl]
         refine ⟨5,?_⟩
         conv=>whnf
         exact ⟨⟨rfl,aA.qV (fun h=>h) Db (fun r hr=>rfl)⟩,_,rfl,.refl _⟩
    ·rw [show (e2 != 0)=true from by simp [J]]
     conv=>whnf
     exact sf 1 _ (GQ fun h=>J (by rw [bX]; exact h.2))
   ·rw [show (e != 0)=true from by simp [h1]]
    conv=>whnf
    exact sf 1 _ (GQ fun h=>h1 (by rw [he]; exact h.1))
end Go.Proofs.YtlapbjdhekcipaaGreat
/- Contracts of convex: edges that separate. -/
set_option maxRecDepth 20000
set_option maxHeartbeats 4000000
namespace Go.Proofs.YtlapbjdhekcipaaGreat
open Go Go.Ae
theorem Yc:bm Tryz.prog 101 (pZ true):=by
 refine bt pP aO Tryz.func101 (enters_of Tryz.func101 (by kernel_rfl) rfl) (fun _=>rfl) (fun _=>rfl) ?_
 intro (z:Int) hp
 conv=>whnf
 rfl
theorem Yd:bm Tryz.prog 103 (pZ false):=by
 refine bt pP aO Tryz.func103 (enters_of Tryz.func103 (by kernel_rfl) rfl) (fun _=>rfl) (fun _=>rfl) ?_
 intro (z:Int) hp
 conv=>whnf
 rfl
theorem Ye:bm Tryz.prog 105 (pZ true):=by
 refine bt pP aO Tryz.func105 (enters_of Tryz.func105 (by kernel_rfl) rfl) (fun _=>rfl) (fun _=>rfl) ?_
 intro (z:Int) hp
 conv=>whnf
 rfl
def I0:Env:=En [(32,.p lZ),(101,.p (pZ true)),(103,.p (pZ false)),(105,.p (pZ true))]
theorem abH:EnvOk Tryz.prog I0:=bL ⟨Lx,Yc,Yd,Ye,trivial⟩ trivial
theorem Sx:gl Tryz.prog 168 (cI I0 cV Tryz.f168):=by
 exact jn abH aO Tryz.func168 (enters_of Tryz.func168 (by kernel_rfl) rfl)
def I3:Env:=En [] [(168,cI I0 cV Tryz.f168)]
theorem abI:EnvOk Tryz.prog I3:=bL trivial ⟨Sx,trivial⟩
theorem TH:gl Tryz.prog 106 (cI I3 cV Tryz.f106):=by
 exact jn abI aO Tryz.func106 (enters_of Tryz.func106 (by kernel_rfl) rfl)
def I5:Env:=En [] [(106,cI I3 cV Tryz.f106)]
theorem abJ:EnvOk Tryz.prog I5:=bL trivial ⟨TH,trivial⟩
theorem QH:gl Tryz.prog 49 (cI I5 cV Tryz.f49):=by
 exact jn abJ aO Tryz.func49 (enters_of Tryz.func49 (by kernel_rfl) rfl)
def P2:Env:=En [] [(49,cI I5 cV Tryz.f49),(64,cI nk cV Tryz.f64)] [(118,wb)]
theorem abK:EnvOk Tryz.prog P2:=bL trivial ⟨QH,xZ,trivial⟩
theorem aao:ie Tryz.prog P2:=xo ⟨xN,trivial⟩
abbrev jZ:aG:=w6 101 103 105 eF
abbrev iN:aG:=w6 101 103 105 dQ
theorem TJ:cZ Tryz.prog 144 jZ:=by
 refine dt abK aO Tryz.func144 (enters_of Tryz.func144 (by kernel_rfl) rfl) ?_ ?_ ?_ (hI:=aao)
 ·intro i b hb; simp [jZ,w6] at hb; rcases hb with rfl | rfl <;> rfl
 ·intro i b hb; simp [jZ,w6] at hb
 intro ⟨⟨⟨A,c⟩,⟨B,d⟩⟩,f,s⟩ hp
 have hp:((f,s)=(101,true)∨(f,s)=(103,false)∨(f,s)=(105,true))∧(A.length≤1073741824∧∀ v∈A,Q2.sz 2048 v)∧B.length≤1073741824∧∀ v∈B,Q2.sz 2048 v:=hp
 obtain ⟨uS,⟨Dc,n7⟩,Dd,qM⟩:=hp
 obtain ⟨n,hn⟩:∃ n,n=A.length:=⟨_,rfl⟩
 obtain ⟨g,hg⟩:∃ g,g=cc A:=⟨_,rfl⟩
 obtain ⟨m,hm⟩:∃ n,n=B.length:=⟨_,rfl⟩
 obtain ⟨g2,kR⟩:∃ g,g=cc B:=⟨_,rfl⟩
 obtain ⟨K,hK⟩:∃ K,K=gQ jZ (((A,c),(B,d)),(f,s)):=⟨_,rfl⟩
 have fin:∀ (x:XV) (z:Bool) (H:ax),fg (eF s A B)=(x,z)→K (.tuple ⟨[x.v,.bool z]⟩) H:=fun x z H h=>by
  rw [hK]
  unfold gQ
  rw [show jZ.new (((A,c),(B,d)),(f,s))=none from rfl,show jZ.val (((A,c),(B,d)),(f,s))=.tuple ⟨[x.v,.bool z]⟩ from by show Value.tuple ⟨[(fg (eF s A B)).1.v,.bool (fg (eF s A B)).2]⟩=_; rw [h]]
  exact ⟨_,rfl,.refl _⟩
 rw [show jZ.ae (((A,c),(B,d)),(f,s))=[.flat false n 6 g,.flat false m 6 g2] from by rw [hn,hg,hm,kR]; rfl,show jZ.args (((A,c),(B,d)),(f,s))=[.slice (some ⟨0,0,none⟩) n c,.slice (some ⟨1,0,none⟩) m d,.func (.func f) #[] #[]] from by rw [hn,hm]; rfl,← hK]
 rw [← hn] at Dc
 rw [← hm] at Dd
 conv=>whnf
 intro yl nu fn tm df
 conv=>whnf
 refine .inl ⟨fun mm tz hz=>∃ (j:Nat),bE (some (.func (.yield yl) #[] #[])::some (.pointer (some ⟨6,0,none⟩))::aD 3 (some (.slice (some ⟨0,0,none⟩) n c)::some (.int .i64 n)::some (.int .i64 j)::aD 17 [])) tz∧hz=[some (.flat false n 6 g),some (.flat false m 6 g2),some (.aQ true 1 [[.slice (some ⟨1,0,none⟩) m d]]),some (.aQ true 1 [[.func (.func f) #[] #[]]]),some (.aQ true 12 [jq.cells]),some (.aQ true 1 [[.bool false]]),some (.aQ true 1 [[.slice (some ⟨0,0,none⟩) n c]]),some (.cm (rW Tryz.f144 fn tm df))]∧n - j=mm∧(j≤n∧kY (fp s B) (aX A) j),.inr ⟨[0,1,2,3,4,5,6,7],[0,1,5,6,7],?_⟩,?_⟩
 ·conv=>whnf
  intro _
  conv=>whnf
  refine ⟨_,0,(.aa (.aa (.sk 3 (.aa (.aa (.aa (.sk 17 .nil rfl)))) rfl))),rfl,rfl,?_⟩
  exact ⟨Nat.zero_le _,Ah _ _⟩
 rintro mm aT _ ⟨j,ar,rfl,rfl,⟨hj,hU⟩⟩
 obtain ⟨az,rfl⟩:∃ az:Nat→Value,aT=.func (.yield yl) #[] #[]::.pointer (some ⟨6,0,none⟩)::zs az 2 3 (.slice (some ⟨0,0,none⟩) n c::.int .i64 n::.int .i64 j::zs az 8 17 []):=bK ar
 clear ar
 conv=>whnf
 refine aL (fun h3=>?_) (fun h3=>?_)
 ·have h3:j < n:=by
   have:=of_decide_eq_true h3
   omega
  have e7:IntKind.i64.wrap ((j:Int)+1)=((j+1:Nat):Int):=by rw [au (by omega) (by omega)]; rfl
  obtain ⟨a,ca,ra,pa,sa,qa⟩:=ib (L:=A) (k:=j) (by omega) n7
  obtain ⟨b,cb,rb,pb,sb,qb⟩:=ib (L:=A) (k:=bd n j) (by rw [hn]; exact c6 (by omega)) n7
  have cD:=jO h3 (by omega)
  have cl:=c6 h3
  have e9:(aX A)[j]?=some (a.p,b.p):=by rw [pa,pb]; rw [hn] at cl ⊢; exact qW (gI (by omega)) (gI cl)
  rw [← pa] at ca
  rw [← pb] at cb
  obtain ⟨u,hu⟩:∃ u,u=bd n j:=⟨_,rfl⟩
  rw [← hu] at cD cl rb
  rw [← hg] at ra rb
  conv=>whnf
  refine ⟨⟨by omega,by omega⟩,?_⟩
  simp only [toNat_cast,aq,Nat.zero_add]
  conv=>whnf
  refine ⟨by show j < n; omega,?_⟩
  conv=>whnf
  rw [ra]
  conv=>whnf
  refine .inl ⟨10,[[],[],[],[],[3],[],[5],[3,4,5,6],[2,3,4,5,6,7],[2,3,4,5,6,7,8],[0,1,2,3,4,5,6,7,8,9],[0,1,2,3,4,5,6,7,8,9,10]],by kernel_rfl,?_⟩
  conv=>whnf
  rw [show decide ((n:Int)≠0)=true from decide_eq_true (by omega)]
  conv=>whnf
  rw [cD]
  refine ⟨⟨by omega,by omega⟩,?_⟩
  simp only [toNat_cast,aq,Nat.zero_add]
  conv=>whnf
  refine ⟨by show u < n; omega,?_⟩
  conv=>whnf
  rw [rb]
  conv=>whnf
  refine ⟨rfl,?_⟩
  conv=>whnf
  refine ⟨rfl,?_⟩
  conv=>whnf
  refine ⟨rfl,?_⟩
  conv=>whnf
  refine .inl ⟨fun mm tz hz=>∃ (i:Nat),bE (some (.slice (some ⟨1,0,none⟩) m d)::some (.func (.func 168) #[] #[.pointer (some ⟨3,0,none⟩),.pointer (some ⟨19,0,none⟩),.pointer (some ⟨20,0,none⟩)])::aD 5 (some (.int .i64 m)::some (.int .i64 i)::aD 10 [])) tz∧hz=[some (.flat false n 6 g),some (.flat false m 6 g2),some (.aQ true 1 [[.slice (some ⟨1,0,none⟩) m d]]),some (.aQ true 1 [[.func (.func f) #[] #[]]]),some (.aQ true 12 [jq.cells]),some (.aQ true 1 [[.bool false]]),some (.aQ true 1 [[.slice (some ⟨0,0,none⟩) n c]]),some (.cm { rW Tryz.f144 fn tm df with state:=.busy }),some (.aQ true 6 [a.cells]),none,none,none,none,none,none,none,none,none,none,some (.aQ true 6 [a.cells]),some (.aQ true 6 [b.cells])]∧m - i=mm∧(i≤m∧kY (r6 s a.p b.p) B i),.inr ⟨[0,1,2,3,4,5,6,7,8,9,10,11,12,13,14,15,16,17,18,19,20],[0,1,7,8],?_⟩,?_⟩
  ·conv=>whnf
   intro _
   conv=>whnf
   refine ⟨_,0,(.aa (.aa (.sk 5 (.aa (.aa (.sk 10 .nil rfl))) rfl))),rfl,rfl,?_⟩
   exact ⟨Nat.zero_le _,Ah _ _⟩
  rintro mm aT _ ⟨i,ar,rfl,rfl,⟨hi,hV⟩⟩
  obtain ⟨az,rfl⟩:∃ az:Nat→Value,aT=.slice (some ⟨1,0,none⟩) m d::.func (.func 168) #[] #[.pointer (some ⟨3,0,none⟩),.pointer (some ⟨19,0,none⟩),.pointer (some ⟨20,0,none⟩)]::zs az 2 5 (.int .i64 m::.int .i64 i::zs az 9 10 []):=bK ar
  clear ar
  conv=>whnf
  refine aL (fun h4=>?_) (fun h4=>?_)
  ·have h4:i < m:=by
    have:=of_decide_eq_true h4
    omega
   have e8:IntKind.i64.wrap ((i:Int)+1)=((i+1:Nat):Int):=by rw [au (by omega) (by omega)]; rfl
   obtain ⟨x,cx,rx,px,sx,qx⟩:=ib (L:=B) (k:=i) (by omega) qM
   rw [← kR] at rx
   have I6:x.p∈B:=by rw [px]; exact fj (by omega)
   have zX:B[i]?=some x.p:=by rw [px]; exact gI (by omega)
   conv=>whnf
   refine ⟨⟨by omega,by omega⟩,?_⟩
   simp only [toNat_cast,aq,Nat.zero_add]
   conv=>whnf
   refine ⟨by show i < m; omega,?_⟩
   conv=>whnf
   rw [rx]
   conv=>whnf
   refine .inl ⟨5,[[],[],[],[],[1,2,3],[0,1,2,3,4],[0,1,2,3,4,5],[0,1,2,3,4,5,6]],by kernel_rfl,?_⟩
   conv=>whnf
   obtain ⟨z,ez,pz⟩:=eJ (aY (aw a.p b.p x.p) 0)
   refine ⟨(a,b,x),rfl,⟨PV.a8 sa (by decide),PV.a8 sb (by decide),PV.a8 sx (by decide)⟩,?_⟩
   rw [show lZ.val (a,b,x)=.int .i64 z from ez]
   conv=>whnf
   obtain ⟨w,hw⟩:∃ w,w=lQ s z:=⟨_,rfl⟩
   have gO:r6 s a.p b.p x.p=!w:=by unfold r6; rw [← pz,← hw]
   rcases uS with h | h | h
   ·obtain ⟨rfl,rfl⟩:=Prod.mk.inj h
    refine ⟨(z:Int),rfl,trivial,?_⟩
    rw [show (pZ true).val z=.bool w from by rw [hw]; rfl]
    conv=>whnf
    cases w with
    | true =>
     conv=>whnf
     rw [e8]
     refine .inr ⟨[0,1,2,3,4,5,6,7,8,9,10,11,12,13,14,15,16,17,18,19,20],[0,1,7,8],?_⟩
     conv=>whnf
     intro _
     conv=>whnf
     refine ⟨_,?_,i+1,(.aa (.aa (.sk 5 (.aa (.aa (.sk 10 .nil rfl))) rfl))),rfl,rfl,?_⟩
     ·omega
     ·exact ⟨by omega,oZ hV zX gO⟩
    | false =>
     conv=>whnf
     refine ⟨rfl,?_⟩
     conv=>whnf
     rw [e7]
     refine .inr ⟨[0,1,2,3,4,5,6,7],[0,1,5,6,7],?_⟩
     conv=>whnf
     intro _
     conv=>whnf
     refine ⟨_,?_,j+1,(.aa (.aa (.sk 3 (.aa (.aa (.aa (.sk 17 .nil rfl)))) rfl))),rfl,rfl,?_⟩
     ·omega
     ·exact ⟨by omega,oZ hU e9 (FO I6 gO)⟩
   ·obtain ⟨rfl,rfl⟩:=Prod.mk.inj h
    refine ⟨(z:Int),rfl,trivial,?_⟩
    rw [show (pZ false).val z=.bool w from by rw [hw]; rfl]
    conv=>whnf
    cases w with
    | true =>
     conv=>whnf
     rw [e8]
     refine .inr ⟨[0,1,2,3,4,5,6,7,8,9,10,11,12,13,14,15,16,17,18,19,20],[0,1,7,8],?_⟩
     conv=>whnf
     intro _
     conv=>whnf
     refine ⟨_,?_,i+1,(.aa (.aa (.sk 5 (.aa (.aa (.sk 10 .nil rfl))) rfl))),rfl,rfl,?_⟩
     ·omega
     ·exact ⟨by omega,oZ hV zX gO⟩
    | false =>
     conv=>whnf
     refine ⟨rfl,?_⟩
     conv=>whnf
     rw [e7]
     refine .inr ⟨[0,1,2,3,4,5,6,7],[0,1,5,6,7],?_⟩
     conv=>whnf
     intro _
     conv=>whnf
     refine ⟨_,?_,j+1,(.aa (.aa (.sk 3 (.aa (.aa (.aa (.sk 17 .nil rfl)))) rfl))),rfl,rfl,?_⟩
     ·omega
     ·exact ⟨by omega,oZ hU e9 (FO I6 gO)⟩
   ·obtain ⟨rfl,rfl⟩:=Prod.mk.inj h
    refine ⟨(z:Int),rfl,trivial,?_⟩
    rw [show (pZ true).val z=.bool w from by rw [hw]; rfl]
    conv=>whnf
    cases w with
    | true =>
     conv=>whnf
     rw [e8]
     refine .inr ⟨[0,1,2,3,4,5,6,7,8,9,10,11,12,13,14,15,16,17,18,19,20],[0,1,7,8],?_⟩
     conv=>whnf
     intro _
     conv=>whnf
     refine ⟨_,?_,i+1,(.aa (.aa (.sk 5 (.aa (.aa (.sk 10 .nil rfl))) rfl))),rfl,rfl,?_⟩
     ·omega
     ·exact ⟨by omega,oZ hV zX gO⟩
    | false =>
     conv=>whnf
     refine ⟨rfl,?_⟩
     conv=>whnf
     rw [e7]
     refine .inr ⟨[0,1,2,3,4,5,6,7],[0,1,5,6,7],?_⟩
     conv=>whnf
     intro _
     conv=>whnf
     refine ⟨_,?_,j+1,(.aa (.aa (.sk 3 (.aa (.aa (.aa (.sk 17 .nil rfl)))) rfl))),rfl,rfl,?_⟩
     ·omega
     ·exact ⟨by omega,oZ hU e9 (FO I6 gO)⟩
  ·have h4:i=m:=by
    have:=of_decide_eq_false h4
    omega
   subst h4
   conv=>whnf
   refine ⟨rfl,?_⟩
   conv=>whnf
   refine fin (a,b) true _ ?_
   rw [UX hU e9 (Wd (AB (by rw [← hm]; exact hV)))]
   show ((cB a.p,cB b.p),true)=((a,b),true)
   rw [← ca,← cb]
 ·have h3:j=n:=by
   have:=of_decide_eq_false h3
   omega
  subst h3
  conv=>whnf
  exact fin jq false _ (by rw [UY hn hU]; rfl)
end Go.Proofs.YtlapbjdhekcipaaGreat
